/- Parts of a proof, printed by a program of mine out of my texts: EgServe, EgNext. -/
import Derived.WalkMore
import Derived.Great.Walk
import Derived.OrdersHeld
import Derived.Deep.RegionHeld
import Derived.Test.YtkaehoihpgelnaaDoorCA
import Derived.Test.YtkaehoihpgelnaaDoorCR
import Derived.Test.YtkaehoihpgelnaaDoorCW
set_option linter.unusedSimpArgs false
set_option linter.unusedVariables false
set_option maxRecDepth 100000
namespace Go.Proofs.YtkaehoihpgelnaaDoor
open Go.RowKit
set_option maxHeartbeats 6400000 in
theorem serve_any (B c g gw cw cd : Nat) (sp spw : List Value) (w0 w1 w2 a0 a1 a2 q t0 h0 h1 h2 : Int) (w : World) (hx : okD ⟨[w0,w1,w2],[a0,a1,a2],q,t0⟩) (hh : okH [h0,h1,h2]) (hn : ¬ ∀ v ∈ [h0,h1,h2],v = 0) (hBw : B ≤ w.heap.size) (hc : B ≤ c) (hg : B ≤ g) (hcg : c ≠ g) (hwc : gw ≠ c) (hwg : gw ≠ g)
  (kc : blk w c = some #[.slice (some ⟨gw,0,none⟩) 3 cw,.int .i64 q,.slice (some ⟨g,0,none⟩) 3 cd,.int .i64 t0]) (kg : blk w g = some (rowC ic [a0,a1,a2] ++ sp).toArray) (kw : blk w gw = some (rowC ic [w0,w1,w2] ++ spw).toArray) :
  Calls Tryd.prog 81 #[.pointer (some ⟨c,0,none⟩),.agg #[.int .i64 h0,.int .i64 h1,.int .i64 h2]] w fun e w' => ∃ n : Int,e = .returned (.tuple #[.int .i64 (nextD ⟨[w0,w1,w2],[a0,a1,a2],q,t0⟩ [h0,h1,h2]).1,.int .i64 n]) ∧ Below B w w' ∧
   blk w' c = some #[.slice (some ⟨gw,0,none⟩) 3 cw,.int .i64 q,.slice (some ⟨g,0,none⟩) 3 cd,.int .i64 (nextD ⟨[w0,w1,w2],[a0,a1,a2],q,t0⟩ [h0,h1,h2]).2.t] ∧ blk w' g = some (rowC ic (nextD ⟨[w0,w1,w2],[a0,a1,a2],q,t0⟩ [h0,h1,h2]).2.d ++ sp).toArray ∧ blk w' gw = some (rowC ic [w0,w1,w2] ++ spw).toArray:=by
 obtain ⟨p,hp,hpos⟩:=okH_pos hh hn
 have HPP:=Lib.hid (And.intro hpos (okH_at hh p).2)
 have ha:=hh.2 h0 (by simp);have hb':=hh.2 h1 (by simp);have hc':=hh.2 h2 (by simp)
 obtain ⟨X0,hX0⟩ : ∃ X,X = (⟨[w0,w1,w2],[a0,a1,a2],q,t0⟩ : Rr):=⟨_,rfl⟩
 have hu1:=muD_le hx hp (okH_at hh p).2
 have HMU:=Lib.hid hu1
 have HX0:=Lib.hid hx
 have q1 : 1 ≤ q ∧ q ≤ 1200:=hx.2.2.2.1
 have hw0:=hx.2.2.1 w0 (by simp);have hw1:=hx.2.2.1 w1 (by simp);have hw2:=hx.2.2.1 w2 (by simp)
 obtain ⟨M0,hM0⟩ : ∃ M,w0 * q = M:=⟨_,rfl⟩
 obtain ⟨M1,hM1⟩ : ∃ M,w1 * q = M:=⟨_,rfl⟩
 obtain ⟨M2,hM2⟩ : ∃ M,w2 * q = M:=⟨_,rfl⟩
 have bM : ∀ x M : Int,1 ≤ x ∧ x ≤ 100 → x * q = M → 0 ≤ M ∧ M ≤ 120000:=fun x M h9 h8 => by
  have e1 : 0 ≤ x * q:=Int.mul_nonneg (by omega) (by omega)
  have e2 : x * q ≤ 100 * 1200:=Int.mul_le_mul (by omega) (by omega) (by omega) (by omega)
  omega
 have bM0:=bM w0 M0 hw0 hM0;have bM1:=bM w1 M1 hw1 hM1;have bM2:=bM w2 M2 hw2 hM2
 have HMM0:=Lib.hid hM0;have HMM1:=Lib.hid hM1;have HMM2:=Lib.hid hM2
 clear bM hM0 hM1 hM2 hu1 hn hh hpos
 have lc:=blk_lt kc;have lg:=blk_lt kg;have lw:=blk_lt kw
 obtain ⟨V,hV⟩ : ∃ V,V = w.alloc (.cells #[.int .i64 h0,.int .i64 h1,.int .i64 h2] 45):=⟨_,rfl⟩
 obtain ⟨hb,hhb⟩ : ∃ n,n = w.heap.size:=⟨_,rfl⟩
 have kcV : blk V c = some #[.slice (some ⟨gw,0,none⟩) 3 cw,.int .i64 q,.slice (some ⟨g,0,none⟩) 3 cd,.int .i64 t0]:=by rw [hV];exact blk_alloc kc _
 have kgV : blk V g = some (rowC ic [a0,a1,a2] ++ sp).toArray:=by rw [hV];exact blk_alloc kg _
 have kwV : blk V gw = some (rowC ic [w0,w1,w2] ++ spw).toArray:=by rw [hV];exact blk_alloc kw _
 have khV : blk V hb = some #[.int .i64 h0,.int .i64 h1,.int .i64 h2]:=by rw [hV,hhb];exact blk_alloc_new _ _ _ rfl
 have bV : Below B w V:=by rw [hV];exact (Below.refl _ _).alloc hBw _
 have hgc : g ≠ c:=fun e => hcg e.symm
 have hhg : hb ≠ g:=by omega
 have hhc : hb ≠ c:=by omega
 have hBw' : B ≤ w.heap.size:=hBw
 have HV:=Lib.hid hV;have HHB:=Lib.hid hhb
 clear hV kc kg kw lc lg lw
 go_enter Tryd.func81,Tryd.ntmps81
 go_wp2
 go_step3
 go_wp2
 go_step3
 go_wp2
 rw [← HV.out]
 rw [← HHB.out]
 clear hhb HV HHB hx
 go_loopw [6] (fun vp wr => ∃ (k m : Nat) (d : List Int) (t : Int),vp = .int .i64 k ∧ k + m = 4000 ∧ Below B w wr ∧ Hid (okD ⟨[w0,w1,w2],d,q,t⟩ ∧ (serveD m ⟨[w0,w1,w2],d,q,t⟩ [h0,h1,h2] = serveD fuelD X0 [h0,h1,h2] ∧ muD ⟨[w0,w1,w2],d,q,t⟩ [h0,h1,h2] p < m) ∧ blk wr c = some #[.slice (some ⟨gw,0,none⟩) 3 cw,.int .i64 q,.slice (some ⟨g,0,none⟩) 3 cd,.int .i64 t] ∧ blk wr g = some (rowC ic d ++ sp).toArray ∧ blk wr gw = some (rowC ic [w0,w1,w2] ++ spw).toArray ∧ blk wr hb = some #[.int .i64 h0,.int .i64 h1,.int .i64 h2])) (fun vp _ => 4000 - (intOf vp).toNat)
 case atStart => exact ⟨0,4000,[a0,a1,a2],t0,rfl,rfl,bV,Lib.hid ⟨HX0.out,⟨by rw [hX0];rfl,by have:=HMU.out;unfold fuelD at this;exact this⟩,kcV,kgV,kwV,khV⟩⟩
 case round =>
  clear bV kcV kgV kwV khV
  obtain ⟨k,m,d,t,rfl,hkm,bwr,HALL⟩:=hrel
  obtain ⟨hxo,hm,kcwr,kgwr,kwwr,khwr⟩:=HALL.out
  obtain ⟨d0,d1,d2,rfl⟩:=list3 hxo.2.1
  have ht:=hxo.2.2.2.2.2
  have HX:=Lib.hid hxo
  cases m with
  | zero => exact absurd hm.2 (by omega)
  | succ m =>
  have HM:=Lib.hid hm
  have hkb : k < 4000:=by omega
  clear hm hxo HALL
  simp only at ht
  rcases (by omega : t = 0 ∨ t = 1 ∨ t = 2) with rfl|rfl|rfl
  ·have dd:=HX.out.2.2.2.2.1
   have da:=dd d0 (by simp)
   have db:=dd d1 (by simp)
   have dc:=dd d2 (by simp)
   clear dd
   have nwr:=kn kcwr
   have mwr:=kn khwr
   have fwr:=(kn kgwr).2.1
   have g0wr : wr.cell? ⟨g,0,none⟩ = some (.int .i64 (d0)):=blk_cellI (M:=[d0,d1,d2]) (k:=0) rfl kgwr
   have g1wr : wr.cell? ⟨g,1,none⟩ = some (.int .i64 (d1)):=blk_cellI (M:=[d0,d1,d2]) (k:=1) rfl kgwr
   have g2wr : wr.cell? ⟨g,2,none⟩ = some (.int .i64 (d2)):=blk_cellI (M:=[d0,d1,d2]) (k:=2) rfl kgwr
   have w0wr : wr.cell? ⟨gw,0,none⟩ = some (.int .i64 w0):=blk_cellI (M:=[w0,w1,w2]) (k:=0) rfl kwwr
   have w1wr : wr.cell? ⟨gw,1,none⟩ = some (.int .i64 w1):=blk_cellI (M:=[w0,w1,w2]) (k:=1) rfl kwwr
   have w2wr : wr.cell? ⟨gw,2,none⟩ = some (.int .i64 w2):=blk_cellI (M:=[w0,w1,w2]) (k:=2) rfl kwwr
   by_cases z0 : h0 = 0
   ·have x1 : (h0 == 0) = true:=by simp [z0]
    have hst : stopD ⟨[w0,w1,w2],[d0,d1,d2],q,0⟩ [h0,h1,h2] = false:=by simp [stopD,at3];omega
    go_upto_region 6 with fail
    obtain ⟨U1,eU1⟩ : ∃ v,v = wr.setCell ⟨g,0,none⟩ (.int .i64 (0)):=⟨_,rfl⟩
    have kcU1 : blk U1 c = some #[.slice (some ⟨gw,0,none⟩) 3 cw,.int .i64 q,.slice (some ⟨g,0,none⟩) 3 cd,.int .i64 0]:=(by rw [eU1];exact blk_other kcwr hcg)
    have kgU1 : blk U1 g = some (rowC ic [0,d1,d2] ++ sp).toArray:=(by rw [eU1];exact blk_setI (M:=[d0,d1,d2]) (k:=0) (x:=(d0)) rfl kgwr)
    have kwU1 : blk U1 gw = some (rowC ic [w0,w1,w2] ++ spw).toArray:=(by rw [eU1];exact blk_other kwwr hwg)
    have khU1 : blk U1 hb = some #[.int .i64 h0,.int .i64 h1,.int .i64 h2]:=(by rw [eU1];exact blk_other khwr hhg)
    have bU1 : Below B w U1:=(by rw [eU1];exact bwr.setCell (show B ≤ g from hg) _)
    rw [← eU1]
    clear eU1
    clear nwr mwr fwr g0wr g1wr g2wr w0wr w1wr w2wr
    have nU1:=kn kcU1
    have mU1:=kn khU1
    have fU1:=(kn kgU1).2.1
    have g0U1 : U1.cell? ⟨g,0,none⟩ = some (.int .i64 (0)):=blk_cellI (M:=[0,d1,d2]) (k:=0) rfl kgU1
    have g1U1 : U1.cell? ⟨g,1,none⟩ = some (.int .i64 (d1)):=blk_cellI (M:=[0,d1,d2]) (k:=1) rfl kgU1
    have g2U1 : U1.cell? ⟨g,2,none⟩ = some (.int .i64 (d2)):=blk_cellI (M:=[0,d1,d2]) (k:=2) rfl kgU1
    have w0U1 : U1.cell? ⟨gw,0,none⟩ = some (.int .i64 w0):=blk_cellI (M:=[w0,w1,w2]) (k:=0) rfl kwU1
    have w1U1 : U1.cell? ⟨gw,1,none⟩ = some (.int .i64 w1):=blk_cellI (M:=[w0,w1,w2]) (k:=1) rfl kwU1
    have w2U1 : U1.cell? ⟨gw,2,none⟩ = some (.int .i64 w2):=blk_cellI (M:=[w0,w1,w2]) (k:=2) rfl kwU1
    go_upto_region 8 with fail
    obtain ⟨U2,eU2⟩ : ∃ v,v = U1.setCell ⟨c,3,none⟩ (.int .i64 2):=⟨_,rfl⟩
    have kcU2 : blk U2 c = some #[.slice (some ⟨gw,0,none⟩) 3 cw,.int .i64 q,.slice (some ⟨g,0,none⟩) 3 cd,.int .i64 2]:=(by rw [eU2];exact blk_set kcU1)
    have kgU2 : blk U2 g = some (rowC ic [0,d1,d2] ++ sp).toArray:=(by rw [eU2];exact blk_other kgU1 hgc)
    have kwU2 : blk U2 gw = some (rowC ic [w0,w1,w2] ++ spw).toArray:=(by rw [eU2];exact blk_other kwU1 hwc)
    have khU2 : blk U2 hb = some #[.int .i64 h0,.int .i64 h1,.int .i64 h2]:=(by rw [eU2];exact blk_other khU1 hhc)
    have bU2 : Below B w U2:=(by rw [eU2];exact bU1.setCell (show B ≤ c from hc) _)
    rw [← eU2]
    clear eU2
    clear nU1 mU1 fU1 g0U1 g1U1 g2U1 w0U1 w1U1 w2U1
    have nU2:=kn kcU2
    have mU2:=kn khU2
    have fU2:=(kn kgU2).2.1
    have g0U2 : U2.cell? ⟨g,0,none⟩ = some (.int .i64 (0)):=blk_cellI (M:=[0,d1,d2]) (k:=0) rfl kgU2
    have g1U2 : U2.cell? ⟨g,1,none⟩ = some (.int .i64 (d1)):=blk_cellI (M:=[0,d1,d2]) (k:=1) rfl kgU2
    have g2U2 : U2.cell? ⟨g,2,none⟩ = some (.int .i64 (d2)):=blk_cellI (M:=[0,d1,d2]) (k:=2) rfl kgU2
    have w0U2 : U2.cell? ⟨gw,0,none⟩ = some (.int .i64 w0):=blk_cellI (M:=[w0,w1,w2]) (k:=0) rfl kwU2
    have w1U2 : U2.cell? ⟨gw,1,none⟩ = some (.int .i64 w1):=blk_cellI (M:=[w0,w1,w2]) (k:=1) rfl kwU2
    have w2U2 : U2.cell? ⟨gw,2,none⟩ = some (.int .i64 w2):=blk_cellI (M:=[w0,w1,w2]) (k:=2) rfl kwU2
    by_cases z2 : h2 = 0
    ·have y2 : (h2 == 0) = true:=by simp [z2]
     have e2 : True:=trivial
     have ep : passD ⟨[w0,w1,w2],[d0,d1,d2],q,0⟩ [h0,h1,h2] = ⟨[w0,w1,w2],[0,d1,0],q,2⟩:=by simp [passD,at3,z0,z2,e2]
     have hx2 : okD ⟨[w0,w1,w2],[0,d1,0],q,2⟩:=(by rw [← ep];exact okD_pass HX.out)
     have HX2:=Lib.hid hx2
     clear hx2
     have HM2 : Hid (serveD m ⟨[w0,w1,w2],[0,d1,0],q,2⟩ [h0,h1,h2] = serveD fuelD X0 [h0,h1,h2] ∧ muD ⟨[w0,w1,w2],[0,d1,0],q,2⟩ [h0,h1,h2] p < m):=Lib.hid (by
      have h9:=muD_pass HX.out rfl hp HPP.out hst
      rw [ep] at h9
      have h8:=HM.out.1
      rw [pass_serve hst,ep] at h8
      exact ⟨h8,by have:=HM.out.2;omega⟩)
     clear ep hst
     clear z2 e2
     go_wp2
     obtain ⟨U3,eU3⟩ : ∃ v,v = U2.setCell ⟨g,2,none⟩ (.int .i64 (0)):=⟨_,rfl⟩
     have kcU3 : blk U3 c = some #[.slice (some ⟨gw,0,none⟩) 3 cw,.int .i64 q,.slice (some ⟨g,0,none⟩) 3 cd,.int .i64 2]:=(by rw [eU3];exact blk_other kcU2 hcg)
     have kgU3 : blk U3 g = some (rowC ic [0,d1,0] ++ sp).toArray:=(by rw [eU3];exact blk_setI (M:=[0,d1,d2]) (k:=2) (x:=(d2)) rfl kgU2)
     have kwU3 : blk U3 gw = some (rowC ic [w0,w1,w2] ++ spw).toArray:=(by rw [eU3];exact blk_other kwU2 hwg)
     have khU3 : blk U3 hb = some #[.int .i64 h0,.int .i64 h1,.int .i64 h2]:=(by rw [eU3];exact blk_other khU2 hhg)
     have bU3 : Below B w U3:=(by rw [eU3];exact bU2.setCell (show B ≤ g from hg) _)
     rw [← eU3]
     clear eU3
     clear nU2 mU2 fU2 g0U2 g1U2 g2U2 w0U2 w1U2 w2U2
     have nU3:=kn kcU3
     have mU3:=kn khU3
     have fU3:=(kn kgU3).2.1
     have g0U3 : U3.cell? ⟨g,0,none⟩ = some (.int .i64 (0)):=blk_cellI (M:=[0,d1,0]) (k:=0) rfl kgU3
     have g1U3 : U3.cell? ⟨g,1,none⟩ = some (.int .i64 (d1)):=blk_cellI (M:=[0,d1,0]) (k:=1) rfl kgU3
     have g2U3 : U3.cell? ⟨g,2,none⟩ = some (.int .i64 (0)):=blk_cellI (M:=[0,d1,0]) (k:=2) rfl kgU3
     have w0U3 : U3.cell? ⟨gw,0,none⟩ = some (.int .i64 w0):=blk_cellI (M:=[w0,w1,w2]) (k:=0) rfl kwU3
     have w1U3 : U3.cell? ⟨gw,1,none⟩ = some (.int .i64 w1):=blk_cellI (M:=[w0,w1,w2]) (k:=1) rfl kwU3
     have w2U3 : U3.cell? ⟨gw,2,none⟩ = some (.int .i64 w2):=blk_cellI (M:=[w0,w1,w2]) (k:=2) rfl kwU3
     go_roundw
     case rel => exact ⟨k + 1,m,[0,d1,0],2,by go_num,by omega,bU3,Lib.hid ⟨HX2.out,HM2.out,kcU3,kgU3,kwU3,khU3⟩⟩
     case measure => simp [intOf];omega
    ·have y2 : (h2 == 0) = false:=by simpa using z2
     have e2 : w2 * q = M2:=HMM2.out
     have ep : passD ⟨[w0,w1,w2],[d0,d1,d2],q,0⟩ [h0,h1,h2] = ⟨[w0,w1,w2],[0,d1,min 1099511627776 (d2 + M2)],q,2⟩:=by simp [passD,at3,z0,z2,e2]
     have hx2 : okD ⟨[w0,w1,w2],[0,d1,min 1099511627776 (d2 + M2)],q,2⟩:=(by rw [← ep];exact okD_pass HX.out)
     have HX2:=Lib.hid hx2
     clear hx2
     have HM2 : Hid (serveD m ⟨[w0,w1,w2],[0,d1,min 1099511627776 (d2 + M2)],q,2⟩ [h0,h1,h2] = serveD fuelD X0 [h0,h1,h2] ∧ muD ⟨[w0,w1,w2],[0,d1,min 1099511627776 (d2 + M2)],q,2⟩ [h0,h1,h2] p < m):=Lib.hid (by
      have h9:=muD_pass HX.out rfl hp HPP.out hst
      rw [ep] at h9
      have h8:=HM.out.1
      rw [pass_serve hst,ep] at h8
      exact ⟨h8,by have:=HM.out.2;omega⟩)
     clear ep hst
     clear z2
     have v2 : IntKind.i64.wrap M2 = M2:=IntWalk.i64_in _ (by omega)
     have v2' : IntKind.i64.wrap (d2 + M2) = d2 + M2:=IntWalk.i64_in _ (by omega)
     go_upto_region 11 with fail
     refine wp_region_tail 27 (by kernel_rfl) (by kernel_rfl) ?_
     intro W0 hE hN
     have k1 : blk W0 c = some #[.slice (some ⟨gw,0,none⟩) 3 cw,.int .i64 q,.slice (some ⟨g,0,none⟩) 3 cd,.int .i64 2]:=(by rw [hE.out];exact kcU2)
     have k2 : blk W0 g = some (rowC ic [0,d1,d2] ++ sp).toArray:=(by rw [hE.out];exact kgU2)
     have k3 : blk W0 gw = some (rowC ic [w0,w1,w2] ++ spw).toArray:=(by rw [hE.out];exact kwU2)
     have k4 : blk W0 hb = some #[.int .i64 h0,.int .i64 h1,.int .i64 h2]:=(by rw [hE.out];exact khU2)
     have k5 : Below B w W0:=(by rw [hE.out];exact bU2)
     clear hE
     clear nU2 mU2 fU2 g0U2 g1U2 g2U2 w0U2 w1U2 w2U2
     clear kcU2 kgU2 kwU2 khU2 bU2
     have q1:=calm_kn k1
     have q4:=calm_kn k4
     have r0 : ∀ X : Class (Calm W0),X.wd.cell? ⟨g,0,none⟩ = some (.int .i64 (0)):=fun X => blk_cellI (M:=[0,d1,d2]) (k:=0) rfl (blk_below X.ok k2)
     have s0 : ∀ X : Class (Calm W0),X.wd.cell? ⟨gw,0,none⟩ = some (.int .i64 w0):=fun X => blk_cellI (M:=[w0,w1,w2]) (k:=0) rfl (blk_below X.ok k3)
     have r1 : ∀ X : Class (Calm W0),X.wd.cell? ⟨g,1,none⟩ = some (.int .i64 (d1)):=fun X => blk_cellI (M:=[0,d1,d2]) (k:=1) rfl (blk_below X.ok k2)
     have s1 : ∀ X : Class (Calm W0),X.wd.cell? ⟨gw,1,none⟩ = some (.int .i64 w1):=fun X => blk_cellI (M:=[w0,w1,w2]) (k:=1) rfl (blk_below X.ok k3)
     have r2 : ∀ X : Class (Calm W0),X.wd.cell? ⟨g,2,none⟩ = some (.int .i64 (d2)):=fun X => blk_cellI (M:=[0,d1,d2]) (k:=2) rfl (blk_below X.ok k2)
     have s2 : ∀ X : Class (Calm W0),X.wd.cell? ⟨gw,2,none⟩ = some (.int .i64 w2):=fun X => blk_cellI (M:=[w0,w1,w2]) (k:=2) rfl (blk_below X.ok k3)
     simp only [List.take_succ_cons,List.take_zero,List.drop_succ_cons,List.drop_zero]
     repeat (go_big_quiet_step (fail))
     refine wpQuiet_nil ?_
     rintro _ ⟨x',rfl⟩
     have kcU4:=blk_below x'.ok k1
     have kgU4:=blk_below x'.ok k2
     have kwU4:=blk_below x'.ok k3
     have khU4:=blk_below x'.ok k4
     have bU4 : Below B w x'.wd:=k5.trans (x'.ok.mono (Nat.le_trans hBw' k5.size))
     obtain ⟨U4,hu⟩ : ∃ u,u = x'.wd:=⟨_,rfl⟩
     rw [← hu] at kcU4 kgU4 kwU4 khU4 bU4 ⊢
     clear hu x' hN q1 q4 r0 r1 r2 s0 s1 s2 k1 k2 k3 k4 k5
     have nU4:=kn kcU4
     have mU4:=kn khU4
     have fU4:=(kn kgU4).2.1
     have g0U4 : U4.cell? ⟨g,0,none⟩ = some (.int .i64 (0)):=blk_cellI (M:=[0,d1,d2]) (k:=0) rfl kgU4
     have g1U4 : U4.cell? ⟨g,1,none⟩ = some (.int .i64 (d1)):=blk_cellI (M:=[0,d1,d2]) (k:=1) rfl kgU4
     have g2U4 : U4.cell? ⟨g,2,none⟩ = some (.int .i64 (d2)):=blk_cellI (M:=[0,d1,d2]) (k:=2) rfl kgU4
     have w0U4 : U4.cell? ⟨gw,0,none⟩ = some (.int .i64 w0):=blk_cellI (M:=[w0,w1,w2]) (k:=0) rfl kwU4
     have w1U4 : U4.cell? ⟨gw,1,none⟩ = some (.int .i64 w1):=blk_cellI (M:=[w0,w1,w2]) (k:=1) rfl kwU4
     have w2U4 : U4.cell? ⟨gw,2,none⟩ = some (.int .i64 w2):=blk_cellI (M:=[w0,w1,w2]) (k:=2) rfl kwU4
     go_wp2
     obtain ⟨U3,eU3⟩ : ∃ v,v = U4.setCell ⟨g,2,none⟩ (.int .i64 (min 1099511627776 (d2 + M2))):=⟨_,rfl⟩
     have kcU3 : blk U3 c = some #[.slice (some ⟨gw,0,none⟩) 3 cw,.int .i64 q,.slice (some ⟨g,0,none⟩) 3 cd,.int .i64 2]:=(by rw [eU3];exact blk_other kcU4 hcg)
     have kgU3 : blk U3 g = some (rowC ic [0,d1,min 1099511627776 (d2 + M2)] ++ sp).toArray:=(by rw [eU3];exact blk_setI (M:=[0,d1,d2]) (k:=2) (x:=(d2)) rfl kgU4)
     have kwU3 : blk U3 gw = some (rowC ic [w0,w1,w2] ++ spw).toArray:=(by rw [eU3];exact blk_other kwU4 hwg)
     have khU3 : blk U3 hb = some #[.int .i64 h0,.int .i64 h1,.int .i64 h2]:=(by rw [eU3];exact blk_other khU4 hhg)
     have bU3 : Below B w U3:=(by rw [eU3];exact bU4.setCell (show B ≤ g from hg) _)
     rw [← eU3]
     clear eU3
     clear nU4 mU4 fU4 g0U4 g1U4 g2U4 w0U4 w1U4 w2U4
     have nU3:=kn kcU3
     have mU3:=kn khU3
     have fU3:=(kn kgU3).2.1
     have g0U3 : U3.cell? ⟨g,0,none⟩ = some (.int .i64 (0)):=blk_cellI (M:=[0,d1,min 1099511627776 (d2 + M2)]) (k:=0) rfl kgU3
     have g1U3 : U3.cell? ⟨g,1,none⟩ = some (.int .i64 (d1)):=blk_cellI (M:=[0,d1,min 1099511627776 (d2 + M2)]) (k:=1) rfl kgU3
     have g2U3 : U3.cell? ⟨g,2,none⟩ = some (.int .i64 (min 1099511627776 (d2 + M2))):=blk_cellI (M:=[0,d1,min 1099511627776 (d2 + M2)]) (k:=2) rfl kgU3
     have w0U3 : U3.cell? ⟨gw,0,none⟩ = some (.int .i64 w0):=blk_cellI (M:=[w0,w1,w2]) (k:=0) rfl kwU3
     have w1U3 : U3.cell? ⟨gw,1,none⟩ = some (.int .i64 w1):=blk_cellI (M:=[w0,w1,w2]) (k:=1) rfl kwU3
     have w2U3 : U3.cell? ⟨gw,2,none⟩ = some (.int .i64 w2):=blk_cellI (M:=[w0,w1,w2]) (k:=2) rfl kwU3
     go_roundw
     case rel => exact ⟨k + 1,m,[0,d1,min 1099511627776 (d2 + M2)],2,by go_num,by omega,bU3,Lib.hid ⟨HX2.out,HM2.out,kcU3,kgU3,kwU3,khU3⟩⟩
     case measure => simp [intOf];omega
   ·have x1 : (h0 == 0) = false:=by simpa using z0
    by_cases z9 : h0 ≤ d0
    ·have x2 : decide (h0 ≤ d0) = true:=decide_eq_true z9
     have hst : stopD ⟨[w0,w1,w2],[d0,d1,d2],q,0⟩ [h0,h1,h2] = true:=by simp [stopD,at3];omega
     have HS:=Lib.hid (show serveD fuelD X0 [h0,h1,h2] = ⟨[w0,w1,w2],[d0,d1,d2],q,0⟩ by rw [← HM.out.1,stop_serve hst])
     clear hst
     go_upto_region 5 with fail
     refine wp_region_in (by kernel_rfl) (by kernel_rfl) ?_
     intro W0 hE hN
     have k1 : blk W0 c = some #[.slice (some ⟨gw,0,none⟩) 3 cw,.int .i64 q,.slice (some ⟨g,0,none⟩) 3 cd,.int .i64 0]:=(by rw [hE.out];exact kcwr)
     have k2 : blk W0 g = some (rowC ic [d0,d1,d2] ++ sp).toArray:=(by rw [hE.out];exact kgwr)
     have k3 : blk W0 gw = some (rowC ic [w0,w1,w2] ++ spw).toArray:=(by rw [hE.out];exact kwwr)
     have k4 : blk W0 hb = some #[.int .i64 h0,.int .i64 h1,.int .i64 h2]:=(by rw [hE.out];exact khwr)
     have k5 : Below B w W0:=(by rw [hE.out];exact bwr)
     clear hE
     clear nwr mwr fwr g0wr g1wr g2wr w0wr w1wr w2wr
     clear kcwr kgwr kwwr khwr bwr
     have q1:=calm_kn k1
     have q4:=calm_kn k4
     have r0 : ∀ X : Class (Calm W0),X.wd.cell? ⟨g,0,none⟩ = some (.int .i64 (d0)):=fun X => blk_cellI (M:=[d0,d1,d2]) (k:=0) rfl (blk_below X.ok k2)
     have s0 : ∀ X : Class (Calm W0),X.wd.cell? ⟨gw,0,none⟩ = some (.int .i64 w0):=fun X => blk_cellI (M:=[w0,w1,w2]) (k:=0) rfl (blk_below X.ok k3)
     have r1 : ∀ X : Class (Calm W0),X.wd.cell? ⟨g,1,none⟩ = some (.int .i64 (d1)):=fun X => blk_cellI (M:=[d0,d1,d2]) (k:=1) rfl (blk_below X.ok k2)
     have s1 : ∀ X : Class (Calm W0),X.wd.cell? ⟨gw,1,none⟩ = some (.int .i64 w1):=fun X => blk_cellI (M:=[w0,w1,w2]) (k:=1) rfl (blk_below X.ok k3)
     have r2 : ∀ X : Class (Calm W0),X.wd.cell? ⟨g,2,none⟩ = some (.int .i64 (d2)):=fun X => blk_cellI (M:=[d0,d1,d2]) (k:=2) rfl (blk_below X.ok k2)
     have s2 : ∀ X : Class (Calm W0),X.wd.cell? ⟨gw,2,none⟩ = some (.int .i64 w2):=fun X => blk_cellI (M:=[w0,w1,w2]) (k:=2) rfl (blk_below X.ok k3)
     repeat (go_big_quiet_step (fail))
     refine wpQuiet_nil ?_
     rintro _ ⟨x',rfl⟩
     have kcU1:=blk_below x'.ok k1
     have kgU1:=blk_below x'.ok k2
     have kwU1:=blk_below x'.ok k3
     have khU1:=blk_below x'.ok k4
     have bU1 : Below B w x'.wd:=k5.trans (x'.ok.mono (Nat.le_trans hBw' k5.size))
     obtain ⟨U1,hu⟩ : ∃ u,u = x'.wd:=⟨_,rfl⟩
     rw [← hu] at kcU1 kgU1 kwU1 khU1 bU1 ⊢
     clear hu x' hN q1 q4 r0 r1 r2 s0 s1 s2 k1 k2 k3 k4 k5
     have nU1:=kn kcU1
     have mU1:=kn khU1
     have fU1:=(kn kgU1).2.1
     have g0U1 : U1.cell? ⟨g,0,none⟩ = some (.int .i64 (d0)):=blk_cellI (M:=[d0,d1,d2]) (k:=0) rfl kgU1
     have g1U1 : U1.cell? ⟨g,1,none⟩ = some (.int .i64 (d1)):=blk_cellI (M:=[d0,d1,d2]) (k:=1) rfl kgU1
     have g2U1 : U1.cell? ⟨g,2,none⟩ = some (.int .i64 (d2)):=blk_cellI (M:=[d0,d1,d2]) (k:=2) rfl kgU1
     have w0U1 : U1.cell? ⟨gw,0,none⟩ = some (.int .i64 w0):=blk_cellI (M:=[w0,w1,w2]) (k:=0) rfl kwU1
     have w1U1 : U1.cell? ⟨gw,1,none⟩ = some (.int .i64 w1):=blk_cellI (M:=[w0,w1,w2]) (k:=1) rfl kwU1
     have w2U1 : U1.cell? ⟨gw,2,none⟩ = some (.int .i64 w2):=blk_cellI (M:=[w0,w1,w2]) (k:=2) rfl kwU1
     have v9 : IntKind.i64.wrap (d0 - h0) = d0 - h0:=IntWalk.i64_in _ (by omega)
     go_upto_region 12 with fail
     refine wp_region_tail 18 (by kernel_rfl) (by kernel_rfl) ?_
     intro W0 hE hN
     have k1 : blk W0 c = some #[.slice (some ⟨gw,0,none⟩) 3 cw,.int .i64 q,.slice (some ⟨g,0,none⟩) 3 cd,.int .i64 0]:=(by rw [hE.out];exact kcU1)
     have k2 : blk W0 g = some (rowC ic [d0,d1,d2] ++ sp).toArray:=(by rw [hE.out];exact kgU1)
     have k3 : blk W0 gw = some (rowC ic [w0,w1,w2] ++ spw).toArray:=(by rw [hE.out];exact kwU1)
     have k4 : blk W0 hb = some #[.int .i64 h0,.int .i64 h1,.int .i64 h2]:=(by rw [hE.out];exact khU1)
     have k5 : Below B w W0:=(by rw [hE.out];exact bU1)
     clear hE
     clear nU1 mU1 fU1 g0U1 g1U1 g2U1 w0U1 w1U1 w2U1
     clear kcU1 kgU1 kwU1 khU1 bU1
     have q1:=calm_kn k1
     have q4:=calm_kn k4
     have r0 : ∀ X : Class (Calm W0),X.wd.cell? ⟨g,0,none⟩ = some (.int .i64 (d0)):=fun X => blk_cellI (M:=[d0,d1,d2]) (k:=0) rfl (blk_below X.ok k2)
     have s0 : ∀ X : Class (Calm W0),X.wd.cell? ⟨gw,0,none⟩ = some (.int .i64 w0):=fun X => blk_cellI (M:=[w0,w1,w2]) (k:=0) rfl (blk_below X.ok k3)
     have r1 : ∀ X : Class (Calm W0),X.wd.cell? ⟨g,1,none⟩ = some (.int .i64 (d1)):=fun X => blk_cellI (M:=[d0,d1,d2]) (k:=1) rfl (blk_below X.ok k2)
     have s1 : ∀ X : Class (Calm W0),X.wd.cell? ⟨gw,1,none⟩ = some (.int .i64 w1):=fun X => blk_cellI (M:=[w0,w1,w2]) (k:=1) rfl (blk_below X.ok k3)
     have r2 : ∀ X : Class (Calm W0),X.wd.cell? ⟨g,2,none⟩ = some (.int .i64 (d2)):=fun X => blk_cellI (M:=[d0,d1,d2]) (k:=2) rfl (blk_below X.ok k2)
     have s2 : ∀ X : Class (Calm W0),X.wd.cell? ⟨gw,2,none⟩ = some (.int .i64 w2):=fun X => blk_cellI (M:=[w0,w1,w2]) (k:=2) rfl (blk_below X.ok k3)
     simp only [List.take_succ_cons,List.take_zero,List.drop_succ_cons,List.drop_zero]
     repeat (go_big_quiet_step (fail))
     refine wpQuiet_nil ?_
     rintro _ ⟨x',rfl⟩
     have kcU2:=blk_below x'.ok k1
     have kgU2:=blk_below x'.ok k2
     have kwU2:=blk_below x'.ok k3
     have khU2:=blk_below x'.ok k4
     have bU2 : Below B w x'.wd:=k5.trans (x'.ok.mono (Nat.le_trans hBw' k5.size))
     obtain ⟨U2,hu⟩ : ∃ u,u = x'.wd:=⟨_,rfl⟩
     rw [← hu] at kcU2 kgU2 kwU2 khU2 bU2 ⊢
     clear hu x' hN q1 q4 r0 r1 r2 s0 s1 s2 k1 k2 k3 k4 k5
     have nU2:=kn kcU2
     have mU2:=kn khU2
     have fU2:=(kn kgU2).2.1
     have g0U2 : U2.cell? ⟨g,0,none⟩ = some (.int .i64 (d0)):=blk_cellI (M:=[d0,d1,d2]) (k:=0) rfl kgU2
     have g1U2 : U2.cell? ⟨g,1,none⟩ = some (.int .i64 (d1)):=blk_cellI (M:=[d0,d1,d2]) (k:=1) rfl kgU2
     have g2U2 : U2.cell? ⟨g,2,none⟩ = some (.int .i64 (d2)):=blk_cellI (M:=[d0,d1,d2]) (k:=2) rfl kgU2
     have w0U2 : U2.cell? ⟨gw,0,none⟩ = some (.int .i64 w0):=blk_cellI (M:=[w0,w1,w2]) (k:=0) rfl kwU2
     have w1U2 : U2.cell? ⟨gw,1,none⟩ = some (.int .i64 w1):=blk_cellI (M:=[w0,w1,w2]) (k:=1) rfl kwU2
     have w2U2 : U2.cell? ⟨gw,2,none⟩ = some (.int .i64 w2):=blk_cellI (M:=[w0,w1,w2]) (k:=2) rfl kwU2
     go_upto_region 13 with fail
     obtain ⟨U3,eU3⟩ : ∃ v,v = U2.setCell ⟨g,0,none⟩ (.int .i64 (d0 - h0)):=⟨_,rfl⟩
     have kcU3 : blk U3 c = some #[.slice (some ⟨gw,0,none⟩) 3 cw,.int .i64 q,.slice (some ⟨g,0,none⟩) 3 cd,.int .i64 0]:=(by rw [eU3];exact blk_other kcU2 hcg)
     have kgU3 : blk U3 g = some (rowC ic [d0 - h0,d1,d2] ++ sp).toArray:=(by rw [eU3];exact blk_setI (M:=[d0,d1,d2]) (k:=0) (x:=(d0)) rfl kgU2)
     have kwU3 : blk U3 gw = some (rowC ic [w0,w1,w2] ++ spw).toArray:=(by rw [eU3];exact blk_other kwU2 hwg)
     have khU3 : blk U3 hb = some #[.int .i64 h0,.int .i64 h1,.int .i64 h2]:=(by rw [eU3];exact blk_other khU2 hhg)
     have bU3 : Below B w U3:=(by rw [eU3];exact bU2.setCell (show B ≤ g from hg) _)
     rw [← eU3]
     clear eU3
     clear nU2 mU2 fU2 g0U2 g1U2 g2U2 w0U2 w1U2 w2U2
     have nU3:=kn kcU3
     have mU3:=kn khU3
     have fU3:=(kn kgU3).2.1
     have g0U3 : U3.cell? ⟨g,0,none⟩ = some (.int .i64 (d0 - h0)):=blk_cellI (M:=[d0 - h0,d1,d2]) (k:=0) rfl kgU3
     have g1U3 : U3.cell? ⟨g,1,none⟩ = some (.int .i64 (d1)):=blk_cellI (M:=[d0 - h0,d1,d2]) (k:=1) rfl kgU3
     have g2U3 : U3.cell? ⟨g,2,none⟩ = some (.int .i64 (d2)):=blk_cellI (M:=[d0 - h0,d1,d2]) (k:=2) rfl kgU3
     have w0U3 : U3.cell? ⟨gw,0,none⟩ = some (.int .i64 w0):=blk_cellI (M:=[w0,w1,w2]) (k:=0) rfl kwU3
     have w1U3 : U3.cell? ⟨gw,1,none⟩ = some (.int .i64 w1):=blk_cellI (M:=[w0,w1,w2]) (k:=1) rfl kwU3
     have w2U3 : U3.cell? ⟨gw,2,none⟩ = some (.int .i64 w2):=blk_cellI (M:=[w0,w1,w2]) (k:=2) rfl kwU3
     have EN:=Lib.hid (show nextD ⟨[w0,w1,w2],[a0,a1,a2],q,t0⟩ [h0,h1,h2] = (0,⟨[w0,w1,w2],[d0 - h0,d1,d2],q,0⟩) by rw [← hX0];unfold nextD;rw [HS.out];simp [takeD,at3])
     clear hX0 HS
     go_wp2
     (try rw [Exit.noGoto_ret])
     go_ret2
     exact ⟨k,by rw [EN.out];rfl,bU3,by rw [EN.out];exact kcU3,by rw [EN.out];exact kgU3,kwU3⟩
    ·have x2 : decide (h0 ≤ d0) = false:=decide_eq_false z9
     have hst : stopD ⟨[w0,w1,w2],[d0,d1,d2],q,0⟩ [h0,h1,h2] = false:=by simp [stopD,at3];omega
     go_upto_region 5 with fail
     refine wp_region_in (by kernel_rfl) (by kernel_rfl) ?_
     intro W0 hE hN
     have k1 : blk W0 c = some #[.slice (some ⟨gw,0,none⟩) 3 cw,.int .i64 q,.slice (some ⟨g,0,none⟩) 3 cd,.int .i64 0]:=(by rw [hE.out];exact kcwr)
     have k2 : blk W0 g = some (rowC ic [d0,d1,d2] ++ sp).toArray:=(by rw [hE.out];exact kgwr)
     have k3 : blk W0 gw = some (rowC ic [w0,w1,w2] ++ spw).toArray:=(by rw [hE.out];exact kwwr)
     have k4 : blk W0 hb = some #[.int .i64 h0,.int .i64 h1,.int .i64 h2]:=(by rw [hE.out];exact khwr)
     have k5 : Below B w W0:=(by rw [hE.out];exact bwr)
     clear hE
     clear nwr mwr fwr g0wr g1wr g2wr w0wr w1wr w2wr
     clear kcwr kgwr kwwr khwr bwr
     have q1:=calm_kn k1
     have q4:=calm_kn k4
     have r0 : ∀ X : Class (Calm W0),X.wd.cell? ⟨g,0,none⟩ = some (.int .i64 (d0)):=fun X => blk_cellI (M:=[d0,d1,d2]) (k:=0) rfl (blk_below X.ok k2)
     have s0 : ∀ X : Class (Calm W0),X.wd.cell? ⟨gw,0,none⟩ = some (.int .i64 w0):=fun X => blk_cellI (M:=[w0,w1,w2]) (k:=0) rfl (blk_below X.ok k3)
     have r1 : ∀ X : Class (Calm W0),X.wd.cell? ⟨g,1,none⟩ = some (.int .i64 (d1)):=fun X => blk_cellI (M:=[d0,d1,d2]) (k:=1) rfl (blk_below X.ok k2)
     have s1 : ∀ X : Class (Calm W0),X.wd.cell? ⟨gw,1,none⟩ = some (.int .i64 w1):=fun X => blk_cellI (M:=[w0,w1,w2]) (k:=1) rfl (blk_below X.ok k3)
     have r2 : ∀ X : Class (Calm W0),X.wd.cell? ⟨g,2,none⟩ = some (.int .i64 (d2)):=fun X => blk_cellI (M:=[d0,d1,d2]) (k:=2) rfl (blk_below X.ok k2)
     have s2 : ∀ X : Class (Calm W0),X.wd.cell? ⟨gw,2,none⟩ = some (.int .i64 w2):=fun X => blk_cellI (M:=[w0,w1,w2]) (k:=2) rfl (blk_below X.ok k3)
     repeat (go_big_quiet_step (fail))
     refine wpQuiet_nil ?_
     rintro _ ⟨x',rfl⟩
     have kcU1:=blk_below x'.ok k1
     have kgU1:=blk_below x'.ok k2
     have kwU1:=blk_below x'.ok k3
     have khU1:=blk_below x'.ok k4
     have bU1 : Below B w x'.wd:=k5.trans (x'.ok.mono (Nat.le_trans hBw' k5.size))
     obtain ⟨U1,hu⟩ : ∃ u,u = x'.wd:=⟨_,rfl⟩
     rw [← hu] at kcU1 kgU1 kwU1 khU1 bU1 ⊢
     clear hu x' hN q1 q4 r0 r1 r2 s0 s1 s2 k1 k2 k3 k4 k5
     have nU1:=kn kcU1
     have mU1:=kn khU1
     have fU1:=(kn kgU1).2.1
     have g0U1 : U1.cell? ⟨g,0,none⟩ = some (.int .i64 (d0)):=blk_cellI (M:=[d0,d1,d2]) (k:=0) rfl kgU1
     have g1U1 : U1.cell? ⟨g,1,none⟩ = some (.int .i64 (d1)):=blk_cellI (M:=[d0,d1,d2]) (k:=1) rfl kgU1
     have g2U1 : U1.cell? ⟨g,2,none⟩ = some (.int .i64 (d2)):=blk_cellI (M:=[d0,d1,d2]) (k:=2) rfl kgU1
     have w0U1 : U1.cell? ⟨gw,0,none⟩ = some (.int .i64 w0):=blk_cellI (M:=[w0,w1,w2]) (k:=0) rfl kwU1
     have w1U1 : U1.cell? ⟨gw,1,none⟩ = some (.int .i64 w1):=blk_cellI (M:=[w0,w1,w2]) (k:=1) rfl kwU1
     have w2U1 : U1.cell? ⟨gw,2,none⟩ = some (.int .i64 w2):=blk_cellI (M:=[w0,w1,w2]) (k:=2) rfl kwU1
     go_upto_region 8 with fail
     obtain ⟨U2,eU2⟩ : ∃ v,v = U1.setCell ⟨c,3,none⟩ (.int .i64 2):=⟨_,rfl⟩
     have kcU2 : blk U2 c = some #[.slice (some ⟨gw,0,none⟩) 3 cw,.int .i64 q,.slice (some ⟨g,0,none⟩) 3 cd,.int .i64 2]:=(by rw [eU2];exact blk_set kcU1)
     have kgU2 : blk U2 g = some (rowC ic [d0,d1,d2] ++ sp).toArray:=(by rw [eU2];exact blk_other kgU1 hgc)
     have kwU2 : blk U2 gw = some (rowC ic [w0,w1,w2] ++ spw).toArray:=(by rw [eU2];exact blk_other kwU1 hwc)
     have khU2 : blk U2 hb = some #[.int .i64 h0,.int .i64 h1,.int .i64 h2]:=(by rw [eU2];exact blk_other khU1 hhc)
     have bU2 : Below B w U2:=(by rw [eU2];exact bU1.setCell (show B ≤ c from hc) _)
     rw [← eU2]
     clear eU2
     clear nU1 mU1 fU1 g0U1 g1U1 g2U1 w0U1 w1U1 w2U1
     have nU2:=kn kcU2
     have mU2:=kn khU2
     have fU2:=(kn kgU2).2.1
     have g0U2 : U2.cell? ⟨g,0,none⟩ = some (.int .i64 (d0)):=blk_cellI (M:=[d0,d1,d2]) (k:=0) rfl kgU2
     have g1U2 : U2.cell? ⟨g,1,none⟩ = some (.int .i64 (d1)):=blk_cellI (M:=[d0,d1,d2]) (k:=1) rfl kgU2
     have g2U2 : U2.cell? ⟨g,2,none⟩ = some (.int .i64 (d2)):=blk_cellI (M:=[d0,d1,d2]) (k:=2) rfl kgU2
     have w0U2 : U2.cell? ⟨gw,0,none⟩ = some (.int .i64 w0):=blk_cellI (M:=[w0,w1,w2]) (k:=0) rfl kwU2
     have w1U2 : U2.cell? ⟨gw,1,none⟩ = some (.int .i64 w1):=blk_cellI (M:=[w0,w1,w2]) (k:=1) rfl kwU2
     have w2U2 : U2.cell? ⟨gw,2,none⟩ = some (.int .i64 w2):=blk_cellI (M:=[w0,w1,w2]) (k:=2) rfl kwU2
     by_cases z2 : h2 = 0
     ·have y2 : (h2 == 0) = true:=by simp [z2]
      have e2 : True:=trivial
      have ep : passD ⟨[w0,w1,w2],[d0,d1,d2],q,0⟩ [h0,h1,h2] = ⟨[w0,w1,w2],[d0,d1,0],q,2⟩:=by simp [passD,at3,z0,z2,e2]
      have hx2 : okD ⟨[w0,w1,w2],[d0,d1,0],q,2⟩:=(by rw [← ep];exact okD_pass HX.out)
      have HX2:=Lib.hid hx2
      clear hx2
      have HM2 : Hid (serveD m ⟨[w0,w1,w2],[d0,d1,0],q,2⟩ [h0,h1,h2] = serveD fuelD X0 [h0,h1,h2] ∧ muD ⟨[w0,w1,w2],[d0,d1,0],q,2⟩ [h0,h1,h2] p < m):=Lib.hid (by
       have h9:=muD_pass HX.out rfl hp HPP.out hst
       rw [ep] at h9
       have h8:=HM.out.1
       rw [pass_serve hst,ep] at h8
       exact ⟨h8,by have:=HM.out.2;omega⟩)
      clear ep hst
      clear z2 e2
      go_wp2
      obtain ⟨U3,eU3⟩ : ∃ v,v = U2.setCell ⟨g,2,none⟩ (.int .i64 (0)):=⟨_,rfl⟩
      have kcU3 : blk U3 c = some #[.slice (some ⟨gw,0,none⟩) 3 cw,.int .i64 q,.slice (some ⟨g,0,none⟩) 3 cd,.int .i64 2]:=(by rw [eU3];exact blk_other kcU2 hcg)
      have kgU3 : blk U3 g = some (rowC ic [d0,d1,0] ++ sp).toArray:=(by rw [eU3];exact blk_setI (M:=[d0,d1,d2]) (k:=2) (x:=(d2)) rfl kgU2)
      have kwU3 : blk U3 gw = some (rowC ic [w0,w1,w2] ++ spw).toArray:=(by rw [eU3];exact blk_other kwU2 hwg)
      have khU3 : blk U3 hb = some #[.int .i64 h0,.int .i64 h1,.int .i64 h2]:=(by rw [eU3];exact blk_other khU2 hhg)
      have bU3 : Below B w U3:=(by rw [eU3];exact bU2.setCell (show B ≤ g from hg) _)
      rw [← eU3]
      clear eU3
      clear nU2 mU2 fU2 g0U2 g1U2 g2U2 w0U2 w1U2 w2U2
      have nU3:=kn kcU3
      have mU3:=kn khU3
      have fU3:=(kn kgU3).2.1
      have g0U3 : U3.cell? ⟨g,0,none⟩ = some (.int .i64 (d0)):=blk_cellI (M:=[d0,d1,0]) (k:=0) rfl kgU3
      have g1U3 : U3.cell? ⟨g,1,none⟩ = some (.int .i64 (d1)):=blk_cellI (M:=[d0,d1,0]) (k:=1) rfl kgU3
      have g2U3 : U3.cell? ⟨g,2,none⟩ = some (.int .i64 (0)):=blk_cellI (M:=[d0,d1,0]) (k:=2) rfl kgU3
      have w0U3 : U3.cell? ⟨gw,0,none⟩ = some (.int .i64 w0):=blk_cellI (M:=[w0,w1,w2]) (k:=0) rfl kwU3
      have w1U3 : U3.cell? ⟨gw,1,none⟩ = some (.int .i64 w1):=blk_cellI (M:=[w0,w1,w2]) (k:=1) rfl kwU3
      have w2U3 : U3.cell? ⟨gw,2,none⟩ = some (.int .i64 w2):=blk_cellI (M:=[w0,w1,w2]) (k:=2) rfl kwU3
      go_roundw
      case rel => exact ⟨k + 1,m,[d0,d1,0],2,by go_num,by omega,bU3,Lib.hid ⟨HX2.out,HM2.out,kcU3,kgU3,kwU3,khU3⟩⟩
      case measure => simp [intOf];omega
     ·have y2 : (h2 == 0) = false:=by simpa using z2
      have e2 : w2 * q = M2:=HMM2.out
      have ep : passD ⟨[w0,w1,w2],[d0,d1,d2],q,0⟩ [h0,h1,h2] = ⟨[w0,w1,w2],[d0,d1,min 1099511627776 (d2 + M2)],q,2⟩:=by simp [passD,at3,z0,z2,e2]
      have hx2 : okD ⟨[w0,w1,w2],[d0,d1,min 1099511627776 (d2 + M2)],q,2⟩:=(by rw [← ep];exact okD_pass HX.out)
      have HX2:=Lib.hid hx2
      clear hx2
      have HM2 : Hid (serveD m ⟨[w0,w1,w2],[d0,d1,min 1099511627776 (d2 + M2)],q,2⟩ [h0,h1,h2] = serveD fuelD X0 [h0,h1,h2] ∧ muD ⟨[w0,w1,w2],[d0,d1,min 1099511627776 (d2 + M2)],q,2⟩ [h0,h1,h2] p < m):=Lib.hid (by
       have h9:=muD_pass HX.out rfl hp HPP.out hst
       rw [ep] at h9
       have h8:=HM.out.1
       rw [pass_serve hst,ep] at h8
       exact ⟨h8,by have:=HM.out.2;omega⟩)
      clear ep hst
      clear z2
      have v2 : IntKind.i64.wrap M2 = M2:=IntWalk.i64_in _ (by omega)
      have v2' : IntKind.i64.wrap (d2 + M2) = d2 + M2:=IntWalk.i64_in _ (by omega)
      go_upto_region 11 with fail
      refine wp_region_tail 27 (by kernel_rfl) (by kernel_rfl) ?_
      intro W0 hE hN
      have k1 : blk W0 c = some #[.slice (some ⟨gw,0,none⟩) 3 cw,.int .i64 q,.slice (some ⟨g,0,none⟩) 3 cd,.int .i64 2]:=(by rw [hE.out];exact kcU2)
      have k2 : blk W0 g = some (rowC ic [d0,d1,d2] ++ sp).toArray:=(by rw [hE.out];exact kgU2)
      have k3 : blk W0 gw = some (rowC ic [w0,w1,w2] ++ spw).toArray:=(by rw [hE.out];exact kwU2)
      have k4 : blk W0 hb = some #[.int .i64 h0,.int .i64 h1,.int .i64 h2]:=(by rw [hE.out];exact khU2)
      have k5 : Below B w W0:=(by rw [hE.out];exact bU2)
      clear hE
      clear nU2 mU2 fU2 g0U2 g1U2 g2U2 w0U2 w1U2 w2U2
      clear kcU2 kgU2 kwU2 khU2 bU2
      have q1:=calm_kn k1
      have q4:=calm_kn k4
      have r0 : ∀ X : Class (Calm W0),X.wd.cell? ⟨g,0,none⟩ = some (.int .i64 (d0)):=fun X => blk_cellI (M:=[d0,d1,d2]) (k:=0) rfl (blk_below X.ok k2)
      have s0 : ∀ X : Class (Calm W0),X.wd.cell? ⟨gw,0,none⟩ = some (.int .i64 w0):=fun X => blk_cellI (M:=[w0,w1,w2]) (k:=0) rfl (blk_below X.ok k3)
      have r1 : ∀ X : Class (Calm W0),X.wd.cell? ⟨g,1,none⟩ = some (.int .i64 (d1)):=fun X => blk_cellI (M:=[d0,d1,d2]) (k:=1) rfl (blk_below X.ok k2)
      have s1 : ∀ X : Class (Calm W0),X.wd.cell? ⟨gw,1,none⟩ = some (.int .i64 w1):=fun X => blk_cellI (M:=[w0,w1,w2]) (k:=1) rfl (blk_below X.ok k3)
      have r2 : ∀ X : Class (Calm W0),X.wd.cell? ⟨g,2,none⟩ = some (.int .i64 (d2)):=fun X => blk_cellI (M:=[d0,d1,d2]) (k:=2) rfl (blk_below X.ok k2)
      have s2 : ∀ X : Class (Calm W0),X.wd.cell? ⟨gw,2,none⟩ = some (.int .i64 w2):=fun X => blk_cellI (M:=[w0,w1,w2]) (k:=2) rfl (blk_below X.ok k3)
      simp only [List.take_succ_cons,List.take_zero,List.drop_succ_cons,List.drop_zero]
      repeat (go_big_quiet_step (fail))
      refine wpQuiet_nil ?_
      rintro _ ⟨x',rfl⟩
      have kcU4:=blk_below x'.ok k1
      have kgU4:=blk_below x'.ok k2
      have kwU4:=blk_below x'.ok k3
      have khU4:=blk_below x'.ok k4
      have bU4 : Below B w x'.wd:=k5.trans (x'.ok.mono (Nat.le_trans hBw' k5.size))
      obtain ⟨U4,hu⟩ : ∃ u,u = x'.wd:=⟨_,rfl⟩
      rw [← hu] at kcU4 kgU4 kwU4 khU4 bU4 ⊢
      clear hu x' hN q1 q4 r0 r1 r2 s0 s1 s2 k1 k2 k3 k4 k5
      have nU4:=kn kcU4
      have mU4:=kn khU4
      have fU4:=(kn kgU4).2.1
      have g0U4 : U4.cell? ⟨g,0,none⟩ = some (.int .i64 (d0)):=blk_cellI (M:=[d0,d1,d2]) (k:=0) rfl kgU4
      have g1U4 : U4.cell? ⟨g,1,none⟩ = some (.int .i64 (d1)):=blk_cellI (M:=[d0,d1,d2]) (k:=1) rfl kgU4
      have g2U4 : U4.cell? ⟨g,2,none⟩ = some (.int .i64 (d2)):=blk_cellI (M:=[d0,d1,d2]) (k:=2) rfl kgU4
      have w0U4 : U4.cell? ⟨gw,0,none⟩ = some (.int .i64 w0):=blk_cellI (M:=[w0,w1,w2]) (k:=0) rfl kwU4
      have w1U4 : U4.cell? ⟨gw,1,none⟩ = some (.int .i64 w1):=blk_cellI (M:=[w0,w1,w2]) (k:=1) rfl kwU4
      have w2U4 : U4.cell? ⟨gw,2,none⟩ = some (.int .i64 w2):=blk_cellI (M:=[w0,w1,w2]) (k:=2) rfl kwU4
      go_wp2
      obtain ⟨U3,eU3⟩ : ∃ v,v = U4.setCell ⟨g,2,none⟩ (.int .i64 (min 1099511627776 (d2 + M2))):=⟨_,rfl⟩
      have kcU3 : blk U3 c = some #[.slice (some ⟨gw,0,none⟩) 3 cw,.int .i64 q,.slice (some ⟨g,0,none⟩) 3 cd,.int .i64 2]:=(by rw [eU3];exact blk_other kcU4 hcg)
      have kgU3 : blk U3 g = some (rowC ic [d0,d1,min 1099511627776 (d2 + M2)] ++ sp).toArray:=(by rw [eU3];exact blk_setI (M:=[d0,d1,d2]) (k:=2) (x:=(d2)) rfl kgU4)
      have kwU3 : blk U3 gw = some (rowC ic [w0,w1,w2] ++ spw).toArray:=(by rw [eU3];exact blk_other kwU4 hwg)
      have khU3 : blk U3 hb = some #[.int .i64 h0,.int .i64 h1,.int .i64 h2]:=(by rw [eU3];exact blk_other khU4 hhg)
      have bU3 : Below B w U3:=(by rw [eU3];exact bU4.setCell (show B ≤ g from hg) _)
      rw [← eU3]
      clear eU3
      clear nU4 mU4 fU4 g0U4 g1U4 g2U4 w0U4 w1U4 w2U4
      have nU3:=kn kcU3
      have mU3:=kn khU3
      have fU3:=(kn kgU3).2.1
      have g0U3 : U3.cell? ⟨g,0,none⟩ = some (.int .i64 (d0)):=blk_cellI (M:=[d0,d1,min 1099511627776 (d2 + M2)]) (k:=0) rfl kgU3
      have g1U3 : U3.cell? ⟨g,1,none⟩ = some (.int .i64 (d1)):=blk_cellI (M:=[d0,d1,min 1099511627776 (d2 + M2)]) (k:=1) rfl kgU3
      have g2U3 : U3.cell? ⟨g,2,none⟩ = some (.int .i64 (min 1099511627776 (d2 + M2))):=blk_cellI (M:=[d0,d1,min 1099511627776 (d2 + M2)]) (k:=2) rfl kgU3
      have w0U3 : U3.cell? ⟨gw,0,none⟩ = some (.int .i64 w0):=blk_cellI (M:=[w0,w1,w2]) (k:=0) rfl kwU3
      have w1U3 : U3.cell? ⟨gw,1,none⟩ = some (.int .i64 w1):=blk_cellI (M:=[w0,w1,w2]) (k:=1) rfl kwU3
      have w2U3 : U3.cell? ⟨gw,2,none⟩ = some (.int .i64 w2):=blk_cellI (M:=[w0,w1,w2]) (k:=2) rfl kwU3
      go_roundw
      case rel => exact ⟨k + 1,m,[d0,d1,min 1099511627776 (d2 + M2)],2,by go_num,by omega,bU3,Lib.hid ⟨HX2.out,HM2.out,kcU3,kgU3,kwU3,khU3⟩⟩
      case measure => simp [intOf];omega
  ·have dd:=HX.out.2.2.2.2.1
   have da:=dd d0 (by simp)
   have db:=dd d1 (by simp)
   have dc:=dd d2 (by simp)
   clear dd
   have nwr:=kn kcwr
   have mwr:=kn khwr
   have fwr:=(kn kgwr).2.1
   have g0wr : wr.cell? ⟨g,0,none⟩ = some (.int .i64 (d0)):=blk_cellI (M:=[d0,d1,d2]) (k:=0) rfl kgwr
   have g1wr : wr.cell? ⟨g,1,none⟩ = some (.int .i64 (d1)):=blk_cellI (M:=[d0,d1,d2]) (k:=1) rfl kgwr
   have g2wr : wr.cell? ⟨g,2,none⟩ = some (.int .i64 (d2)):=blk_cellI (M:=[d0,d1,d2]) (k:=2) rfl kgwr
   have w0wr : wr.cell? ⟨gw,0,none⟩ = some (.int .i64 w0):=blk_cellI (M:=[w0,w1,w2]) (k:=0) rfl kwwr
   have w1wr : wr.cell? ⟨gw,1,none⟩ = some (.int .i64 w1):=blk_cellI (M:=[w0,w1,w2]) (k:=1) rfl kwwr
   have w2wr : wr.cell? ⟨gw,2,none⟩ = some (.int .i64 w2):=blk_cellI (M:=[w0,w1,w2]) (k:=2) rfl kwwr
   by_cases z1 : h1 = 0
   ·have x1 : (h1 == 0) = true:=by simp [z1]
    have hst : stopD ⟨[w0,w1,w2],[d0,d1,d2],q,1⟩ [h0,h1,h2] = false:=by simp [stopD,at3];omega
    go_upto_region 6 with fail
    obtain ⟨U1,eU1⟩ : ∃ v,v = wr.setCell ⟨g,1,none⟩ (.int .i64 (0)):=⟨_,rfl⟩
    have kcU1 : blk U1 c = some #[.slice (some ⟨gw,0,none⟩) 3 cw,.int .i64 q,.slice (some ⟨g,0,none⟩) 3 cd,.int .i64 1]:=(by rw [eU1];exact blk_other kcwr hcg)
    have kgU1 : blk U1 g = some (rowC ic [d0,0,d2] ++ sp).toArray:=(by rw [eU1];exact blk_setI (M:=[d0,d1,d2]) (k:=1) (x:=(d1)) rfl kgwr)
    have kwU1 : blk U1 gw = some (rowC ic [w0,w1,w2] ++ spw).toArray:=(by rw [eU1];exact blk_other kwwr hwg)
    have khU1 : blk U1 hb = some #[.int .i64 h0,.int .i64 h1,.int .i64 h2]:=(by rw [eU1];exact blk_other khwr hhg)
    have bU1 : Below B w U1:=(by rw [eU1];exact bwr.setCell (show B ≤ g from hg) _)
    rw [← eU1]
    clear eU1
    clear nwr mwr fwr g0wr g1wr g2wr w0wr w1wr w2wr
    have nU1:=kn kcU1
    have mU1:=kn khU1
    have fU1:=(kn kgU1).2.1
    have g0U1 : U1.cell? ⟨g,0,none⟩ = some (.int .i64 (d0)):=blk_cellI (M:=[d0,0,d2]) (k:=0) rfl kgU1
    have g1U1 : U1.cell? ⟨g,1,none⟩ = some (.int .i64 (0)):=blk_cellI (M:=[d0,0,d2]) (k:=1) rfl kgU1
    have g2U1 : U1.cell? ⟨g,2,none⟩ = some (.int .i64 (d2)):=blk_cellI (M:=[d0,0,d2]) (k:=2) rfl kgU1
    have w0U1 : U1.cell? ⟨gw,0,none⟩ = some (.int .i64 w0):=blk_cellI (M:=[w0,w1,w2]) (k:=0) rfl kwU1
    have w1U1 : U1.cell? ⟨gw,1,none⟩ = some (.int .i64 w1):=blk_cellI (M:=[w0,w1,w2]) (k:=1) rfl kwU1
    have w2U1 : U1.cell? ⟨gw,2,none⟩ = some (.int .i64 w2):=blk_cellI (M:=[w0,w1,w2]) (k:=2) rfl kwU1
    go_upto_region 8 with fail
    obtain ⟨U2,eU2⟩ : ∃ v,v = U1.setCell ⟨c,3,none⟩ (.int .i64 0):=⟨_,rfl⟩
    have kcU2 : blk U2 c = some #[.slice (some ⟨gw,0,none⟩) 3 cw,.int .i64 q,.slice (some ⟨g,0,none⟩) 3 cd,.int .i64 0]:=(by rw [eU2];exact blk_set kcU1)
    have kgU2 : blk U2 g = some (rowC ic [d0,0,d2] ++ sp).toArray:=(by rw [eU2];exact blk_other kgU1 hgc)
    have kwU2 : blk U2 gw = some (rowC ic [w0,w1,w2] ++ spw).toArray:=(by rw [eU2];exact blk_other kwU1 hwc)
    have khU2 : blk U2 hb = some #[.int .i64 h0,.int .i64 h1,.int .i64 h2]:=(by rw [eU2];exact blk_other khU1 hhc)
    have bU2 : Below B w U2:=(by rw [eU2];exact bU1.setCell (show B ≤ c from hc) _)
    rw [← eU2]
    clear eU2
    clear nU1 mU1 fU1 g0U1 g1U1 g2U1 w0U1 w1U1 w2U1
    have nU2:=kn kcU2
    have mU2:=kn khU2
    have fU2:=(kn kgU2).2.1
    have g0U2 : U2.cell? ⟨g,0,none⟩ = some (.int .i64 (d0)):=blk_cellI (M:=[d0,0,d2]) (k:=0) rfl kgU2
    have g1U2 : U2.cell? ⟨g,1,none⟩ = some (.int .i64 (0)):=blk_cellI (M:=[d0,0,d2]) (k:=1) rfl kgU2
    have g2U2 : U2.cell? ⟨g,2,none⟩ = some (.int .i64 (d2)):=blk_cellI (M:=[d0,0,d2]) (k:=2) rfl kgU2
    have w0U2 : U2.cell? ⟨gw,0,none⟩ = some (.int .i64 w0):=blk_cellI (M:=[w0,w1,w2]) (k:=0) rfl kwU2
    have w1U2 : U2.cell? ⟨gw,1,none⟩ = some (.int .i64 w1):=blk_cellI (M:=[w0,w1,w2]) (k:=1) rfl kwU2
    have w2U2 : U2.cell? ⟨gw,2,none⟩ = some (.int .i64 w2):=blk_cellI (M:=[w0,w1,w2]) (k:=2) rfl kwU2
    by_cases z0 : h0 = 0
    ·have y0 : (h0 == 0) = true:=by simp [z0]
     have e0 : True:=trivial
     have ep : passD ⟨[w0,w1,w2],[d0,d1,d2],q,1⟩ [h0,h1,h2] = ⟨[w0,w1,w2],[0,0,d2],q,0⟩:=by simp [passD,at3,z1,z0,e0]
     have hx2 : okD ⟨[w0,w1,w2],[0,0,d2],q,0⟩:=(by rw [← ep];exact okD_pass HX.out)
     have HX2:=Lib.hid hx2
     clear hx2
     have HM2 : Hid (serveD m ⟨[w0,w1,w2],[0,0,d2],q,0⟩ [h0,h1,h2] = serveD fuelD X0 [h0,h1,h2] ∧ muD ⟨[w0,w1,w2],[0,0,d2],q,0⟩ [h0,h1,h2] p < m):=Lib.hid (by
      have h9:=muD_pass HX.out rfl hp HPP.out hst
      rw [ep] at h9
      have h8:=HM.out.1
      rw [pass_serve hst,ep] at h8
      exact ⟨h8,by have:=HM.out.2;omega⟩)
     clear ep hst
     clear z0 e0
     go_wp2
     obtain ⟨U3,eU3⟩ : ∃ v,v = U2.setCell ⟨g,0,none⟩ (.int .i64 (0)):=⟨_,rfl⟩
     have kcU3 : blk U3 c = some #[.slice (some ⟨gw,0,none⟩) 3 cw,.int .i64 q,.slice (some ⟨g,0,none⟩) 3 cd,.int .i64 0]:=(by rw [eU3];exact blk_other kcU2 hcg)
     have kgU3 : blk U3 g = some (rowC ic [0,0,d2] ++ sp).toArray:=(by rw [eU3];exact blk_setI (M:=[d0,0,d2]) (k:=0) (x:=(d0)) rfl kgU2)
     have kwU3 : blk U3 gw = some (rowC ic [w0,w1,w2] ++ spw).toArray:=(by rw [eU3];exact blk_other kwU2 hwg)
     have khU3 : blk U3 hb = some #[.int .i64 h0,.int .i64 h1,.int .i64 h2]:=(by rw [eU3];exact blk_other khU2 hhg)
     have bU3 : Below B w U3:=(by rw [eU3];exact bU2.setCell (show B ≤ g from hg) _)
     rw [← eU3]
     clear eU3
     clear nU2 mU2 fU2 g0U2 g1U2 g2U2 w0U2 w1U2 w2U2
     have nU3:=kn kcU3
     have mU3:=kn khU3
     have fU3:=(kn kgU3).2.1
     have g0U3 : U3.cell? ⟨g,0,none⟩ = some (.int .i64 (0)):=blk_cellI (M:=[0,0,d2]) (k:=0) rfl kgU3
     have g1U3 : U3.cell? ⟨g,1,none⟩ = some (.int .i64 (0)):=blk_cellI (M:=[0,0,d2]) (k:=1) rfl kgU3
     have g2U3 : U3.cell? ⟨g,2,none⟩ = some (.int .i64 (d2)):=blk_cellI (M:=[0,0,d2]) (k:=2) rfl kgU3
     have w0U3 : U3.cell? ⟨gw,0,none⟩ = some (.int .i64 w0):=blk_cellI (M:=[w0,w1,w2]) (k:=0) rfl kwU3
     have w1U3 : U3.cell? ⟨gw,1,none⟩ = some (.int .i64 w1):=blk_cellI (M:=[w0,w1,w2]) (k:=1) rfl kwU3
     have w2U3 : U3.cell? ⟨gw,2,none⟩ = some (.int .i64 w2):=blk_cellI (M:=[w0,w1,w2]) (k:=2) rfl kwU3
     go_roundw
     case rel => exact ⟨k + 1,m,[0,0,d2],0,by go_num,by omega,bU3,Lib.hid ⟨HX2.out,HM2.out,kcU3,kgU3,kwU3,khU3⟩⟩
     case measure => simp [intOf];omega
    ·have y0 : (h0 == 0) = false:=by simpa using z0
     have e0 : w0 * q = M0:=HMM0.out
     have ep : passD ⟨[w0,w1,w2],[d0,d1,d2],q,1⟩ [h0,h1,h2] = ⟨[w0,w1,w2],[min 1099511627776 (d0 + M0),0,d2],q,0⟩:=by simp [passD,at3,z1,z0,e0]
     have hx2 : okD ⟨[w0,w1,w2],[min 1099511627776 (d0 + M0),0,d2],q,0⟩:=(by rw [← ep];exact okD_pass HX.out)
     have HX2:=Lib.hid hx2
     clear hx2
     have HM2 : Hid (serveD m ⟨[w0,w1,w2],[min 1099511627776 (d0 + M0),0,d2],q,0⟩ [h0,h1,h2] = serveD fuelD X0 [h0,h1,h2] ∧ muD ⟨[w0,w1,w2],[min 1099511627776 (d0 + M0),0,d2],q,0⟩ [h0,h1,h2] p < m):=Lib.hid (by
      have h9:=muD_pass HX.out rfl hp HPP.out hst
      rw [ep] at h9
      have h8:=HM.out.1
      rw [pass_serve hst,ep] at h8
      exact ⟨h8,by have:=HM.out.2;omega⟩)
     clear ep hst
     clear z0
     have v0 : IntKind.i64.wrap M0 = M0:=IntWalk.i64_in _ (by omega)
     have v0' : IntKind.i64.wrap (d0 + M0) = d0 + M0:=IntWalk.i64_in _ (by omega)
     go_upto_region 11 with fail
     refine wp_region_tail 27 (by kernel_rfl) (by kernel_rfl) ?_
     intro W0 hE hN
     have k1 : blk W0 c = some #[.slice (some ⟨gw,0,none⟩) 3 cw,.int .i64 q,.slice (some ⟨g,0,none⟩) 3 cd,.int .i64 0]:=(by rw [hE.out];exact kcU2)
     have k2 : blk W0 g = some (rowC ic [d0,0,d2] ++ sp).toArray:=(by rw [hE.out];exact kgU2)
     have k3 : blk W0 gw = some (rowC ic [w0,w1,w2] ++ spw).toArray:=(by rw [hE.out];exact kwU2)
     have k4 : blk W0 hb = some #[.int .i64 h0,.int .i64 h1,.int .i64 h2]:=(by rw [hE.out];exact khU2)
     have k5 : Below B w W0:=(by rw [hE.out];exact bU2)
     clear hE
     clear nU2 mU2 fU2 g0U2 g1U2 g2U2 w0U2 w1U2 w2U2
     clear kcU2 kgU2 kwU2 khU2 bU2
     have q1:=calm_kn k1
     have q4:=calm_kn k4
     have r0 : ∀ X : Class (Calm W0),X.wd.cell? ⟨g,0,none⟩ = some (.int .i64 (d0)):=fun X => blk_cellI (M:=[d0,0,d2]) (k:=0) rfl (blk_below X.ok k2)
     have s0 : ∀ X : Class (Calm W0),X.wd.cell? ⟨gw,0,none⟩ = some (.int .i64 w0):=fun X => blk_cellI (M:=[w0,w1,w2]) (k:=0) rfl (blk_below X.ok k3)
     have r1 : ∀ X : Class (Calm W0),X.wd.cell? ⟨g,1,none⟩ = some (.int .i64 (0)):=fun X => blk_cellI (M:=[d0,0,d2]) (k:=1) rfl (blk_below X.ok k2)
     have s1 : ∀ X : Class (Calm W0),X.wd.cell? ⟨gw,1,none⟩ = some (.int .i64 w1):=fun X => blk_cellI (M:=[w0,w1,w2]) (k:=1) rfl (blk_below X.ok k3)
     have r2 : ∀ X : Class (Calm W0),X.wd.cell? ⟨g,2,none⟩ = some (.int .i64 (d2)):=fun X => blk_cellI (M:=[d0,0,d2]) (k:=2) rfl (blk_below X.ok k2)
     have s2 : ∀ X : Class (Calm W0),X.wd.cell? ⟨gw,2,none⟩ = some (.int .i64 w2):=fun X => blk_cellI (M:=[w0,w1,w2]) (k:=2) rfl (blk_below X.ok k3)
     simp only [List.take_succ_cons,List.take_zero,List.drop_succ_cons,List.drop_zero]
     repeat (go_big_quiet_step (fail))
     refine wpQuiet_nil ?_
     rintro _ ⟨x',rfl⟩
     have kcU4:=blk_below x'.ok k1
     have kgU4:=blk_below x'.ok k2
     have kwU4:=blk_below x'.ok k3
     have khU4:=blk_below x'.ok k4
     have bU4 : Below B w x'.wd:=k5.trans (x'.ok.mono (Nat.le_trans hBw' k5.size))
     obtain ⟨U4,hu⟩ : ∃ u,u = x'.wd:=⟨_,rfl⟩
     rw [← hu] at kcU4 kgU4 kwU4 khU4 bU4 ⊢
     clear hu x' hN q1 q4 r0 r1 r2 s0 s1 s2 k1 k2 k3 k4 k5
     have nU4:=kn kcU4
     have mU4:=kn khU4
     have fU4:=(kn kgU4).2.1
     have g0U4 : U4.cell? ⟨g,0,none⟩ = some (.int .i64 (d0)):=blk_cellI (M:=[d0,0,d2]) (k:=0) rfl kgU4
     have g1U4 : U4.cell? ⟨g,1,none⟩ = some (.int .i64 (0)):=blk_cellI (M:=[d0,0,d2]) (k:=1) rfl kgU4
     have g2U4 : U4.cell? ⟨g,2,none⟩ = some (.int .i64 (d2)):=blk_cellI (M:=[d0,0,d2]) (k:=2) rfl kgU4
     have w0U4 : U4.cell? ⟨gw,0,none⟩ = some (.int .i64 w0):=blk_cellI (M:=[w0,w1,w2]) (k:=0) rfl kwU4
     have w1U4 : U4.cell? ⟨gw,1,none⟩ = some (.int .i64 w1):=blk_cellI (M:=[w0,w1,w2]) (k:=1) rfl kwU4
     have w2U4 : U4.cell? ⟨gw,2,none⟩ = some (.int .i64 w2):=blk_cellI (M:=[w0,w1,w2]) (k:=2) rfl kwU4
     go_wp2
     obtain ⟨U3,eU3⟩ : ∃ v,v = U4.setCell ⟨g,0,none⟩ (.int .i64 (min 1099511627776 (d0 + M0))):=⟨_,rfl⟩
     have kcU3 : blk U3 c = some #[.slice (some ⟨gw,0,none⟩) 3 cw,.int .i64 q,.slice (some ⟨g,0,none⟩) 3 cd,.int .i64 0]:=(by rw [eU3];exact blk_other kcU4 hcg)
     have kgU3 : blk U3 g = some (rowC ic [min 1099511627776 (d0 + M0),0,d2] ++ sp).toArray:=(by rw [eU3];exact blk_setI (M:=[d0,0,d2]) (k:=0) (x:=(d0)) rfl kgU4)
     have kwU3 : blk U3 gw = some (rowC ic [w0,w1,w2] ++ spw).toArray:=(by rw [eU3];exact blk_other kwU4 hwg)
     have khU3 : blk U3 hb = some #[.int .i64 h0,.int .i64 h1,.int .i64 h2]:=(by rw [eU3];exact blk_other khU4 hhg)
     have bU3 : Below B w U3:=(by rw [eU3];exact bU4.setCell (show B ≤ g from hg) _)
     rw [← eU3]
     clear eU3
     clear nU4 mU4 fU4 g0U4 g1U4 g2U4 w0U4 w1U4 w2U4
     have nU3:=kn kcU3
     have mU3:=kn khU3
     have fU3:=(kn kgU3).2.1
     have g0U3 : U3.cell? ⟨g,0,none⟩ = some (.int .i64 (min 1099511627776 (d0 + M0))):=blk_cellI (M:=[min 1099511627776 (d0 + M0),0,d2]) (k:=0) rfl kgU3
     have g1U3 : U3.cell? ⟨g,1,none⟩ = some (.int .i64 (0)):=blk_cellI (M:=[min 1099511627776 (d0 + M0),0,d2]) (k:=1) rfl kgU3
     have g2U3 : U3.cell? ⟨g,2,none⟩ = some (.int .i64 (d2)):=blk_cellI (M:=[min 1099511627776 (d0 + M0),0,d2]) (k:=2) rfl kgU3
     have w0U3 : U3.cell? ⟨gw,0,none⟩ = some (.int .i64 w0):=blk_cellI (M:=[w0,w1,w2]) (k:=0) rfl kwU3
     have w1U3 : U3.cell? ⟨gw,1,none⟩ = some (.int .i64 w1):=blk_cellI (M:=[w0,w1,w2]) (k:=1) rfl kwU3
     have w2U3 : U3.cell? ⟨gw,2,none⟩ = some (.int .i64 w2):=blk_cellI (M:=[w0,w1,w2]) (k:=2) rfl kwU3
     go_roundw
     case rel => exact ⟨k + 1,m,[min 1099511627776 (d0 + M0),0,d2],0,by go_num,by omega,bU3,Lib.hid ⟨HX2.out,HM2.out,kcU3,kgU3,kwU3,khU3⟩⟩
     case measure => simp [intOf];omega
   ·have x1 : (h1 == 0) = false:=by simpa using z1
    by_cases z9 : h1 ≤ d1
    ·have x2 : decide (h1 ≤ d1) = true:=decide_eq_true z9
     have hst : stopD ⟨[w0,w1,w2],[d0,d1,d2],q,1⟩ [h0,h1,h2] = true:=by simp [stopD,at3];omega
     have HS:=Lib.hid (show serveD fuelD X0 [h0,h1,h2] = ⟨[w0,w1,w2],[d0,d1,d2],q,1⟩ by rw [← HM.out.1,stop_serve hst])
     clear hst
     go_upto_region 5 with fail
     refine wp_region_in (by kernel_rfl) (by kernel_rfl) ?_
     intro W0 hE hN
     have k1 : blk W0 c = some #[.slice (some ⟨gw,0,none⟩) 3 cw,.int .i64 q,.slice (some ⟨g,0,none⟩) 3 cd,.int .i64 1]:=(by rw [hE.out];exact kcwr)
     have k2 : blk W0 g = some (rowC ic [d0,d1,d2] ++ sp).toArray:=(by rw [hE.out];exact kgwr)
     have k3 : blk W0 gw = some (rowC ic [w0,w1,w2] ++ spw).toArray:=(by rw [hE.out];exact kwwr)
     have k4 : blk W0 hb = some #[.int .i64 h0,.int .i64 h1,.int .i64 h2]:=(by rw [hE.out];exact khwr)
     have k5 : Below B w W0:=(by rw [hE.out];exact bwr)
     clear hE
     clear nwr mwr fwr g0wr g1wr g2wr w0wr w1wr w2wr
     clear kcwr kgwr kwwr khwr bwr
     have q1:=calm_kn k1
     have q4:=calm_kn k4
     have r0 : ∀ X : Class (Calm W0),X.wd.cell? ⟨g,0,none⟩ = some (.int .i64 (d0)):=fun X => blk_cellI (M:=[d0,d1,d2]) (k:=0) rfl (blk_below X.ok k2)
     have s0 : ∀ X : Class (Calm W0),X.wd.cell? ⟨gw,0,none⟩ = some (.int .i64 w0):=fun X => blk_cellI (M:=[w0,w1,w2]) (k:=0) rfl (blk_below X.ok k3)
     have r1 : ∀ X : Class (Calm W0),X.wd.cell? ⟨g,1,none⟩ = some (.int .i64 (d1)):=fun X => blk_cellI (M:=[d0,d1,d2]) (k:=1) rfl (blk_below X.ok k2)
     have s1 : ∀ X : Class (Calm W0),X.wd.cell? ⟨gw,1,none⟩ = some (.int .i64 w1):=fun X => blk_cellI (M:=[w0,w1,w2]) (k:=1) rfl (blk_below X.ok k3)
     have r2 : ∀ X : Class (Calm W0),X.wd.cell? ⟨g,2,none⟩ = some (.int .i64 (d2)):=fun X => blk_cellI (M:=[d0,d1,d2]) (k:=2) rfl (blk_below X.ok k2)
     have s2 : ∀ X : Class (Calm W0),X.wd.cell? ⟨gw,2,none⟩ = some (.int .i64 w2):=fun X => blk_cellI (M:=[w0,w1,w2]) (k:=2) rfl (blk_below X.ok k3)
     repeat (go_big_quiet_step (fail))
     refine wpQuiet_nil ?_
     rintro _ ⟨x',rfl⟩
     have kcU1:=blk_below x'.ok k1
     have kgU1:=blk_below x'.ok k2
     have kwU1:=blk_below x'.ok k3
     have khU1:=blk_below x'.ok k4
     have bU1 : Below B w x'.wd:=k5.trans (x'.ok.mono (Nat.le_trans hBw' k5.size))
     obtain ⟨U1,hu⟩ : ∃ u,u = x'.wd:=⟨_,rfl⟩
     rw [← hu] at kcU1 kgU1 kwU1 khU1 bU1 ⊢
     clear hu x' hN q1 q4 r0 r1 r2 s0 s1 s2 k1 k2 k3 k4 k5
     have nU1:=kn kcU1
     have mU1:=kn khU1
     have fU1:=(kn kgU1).2.1
     have g0U1 : U1.cell? ⟨g,0,none⟩ = some (.int .i64 (d0)):=blk_cellI (M:=[d0,d1,d2]) (k:=0) rfl kgU1
     have g1U1 : U1.cell? ⟨g,1,none⟩ = some (.int .i64 (d1)):=blk_cellI (M:=[d0,d1,d2]) (k:=1) rfl kgU1
     have g2U1 : U1.cell? ⟨g,2,none⟩ = some (.int .i64 (d2)):=blk_cellI (M:=[d0,d1,d2]) (k:=2) rfl kgU1
     have w0U1 : U1.cell? ⟨gw,0,none⟩ = some (.int .i64 w0):=blk_cellI (M:=[w0,w1,w2]) (k:=0) rfl kwU1
     have w1U1 : U1.cell? ⟨gw,1,none⟩ = some (.int .i64 w1):=blk_cellI (M:=[w0,w1,w2]) (k:=1) rfl kwU1
     have w2U1 : U1.cell? ⟨gw,2,none⟩ = some (.int .i64 w2):=blk_cellI (M:=[w0,w1,w2]) (k:=2) rfl kwU1
     have v9 : IntKind.i64.wrap (d1 - h1) = d1 - h1:=IntWalk.i64_in _ (by omega)
     go_upto_region 12 with fail
     refine wp_region_tail 18 (by kernel_rfl) (by kernel_rfl) ?_
     intro W0 hE hN
     have k1 : blk W0 c = some #[.slice (some ⟨gw,0,none⟩) 3 cw,.int .i64 q,.slice (some ⟨g,0,none⟩) 3 cd,.int .i64 1]:=(by rw [hE.out];exact kcU1)
     have k2 : blk W0 g = some (rowC ic [d0,d1,d2] ++ sp).toArray:=(by rw [hE.out];exact kgU1)
     have k3 : blk W0 gw = some (rowC ic [w0,w1,w2] ++ spw).toArray:=(by rw [hE.out];exact kwU1)
     have k4 : blk W0 hb = some #[.int .i64 h0,.int .i64 h1,.int .i64 h2]:=(by rw [hE.out];exact khU1)
     have k5 : Below B w W0:=(by rw [hE.out];exact bU1)
     clear hE
     clear nU1 mU1 fU1 g0U1 g1U1 g2U1 w0U1 w1U1 w2U1
     clear kcU1 kgU1 kwU1 khU1 bU1
     have q1:=calm_kn k1
     have q4:=calm_kn k4
     have r0 : ∀ X : Class (Calm W0),X.wd.cell? ⟨g,0,none⟩ = some (.int .i64 (d0)):=fun X => blk_cellI (M:=[d0,d1,d2]) (k:=0) rfl (blk_below X.ok k2)
     have s0 : ∀ X : Class (Calm W0),X.wd.cell? ⟨gw,0,none⟩ = some (.int .i64 w0):=fun X => blk_cellI (M:=[w0,w1,w2]) (k:=0) rfl (blk_below X.ok k3)
     have r1 : ∀ X : Class (Calm W0),X.wd.cell? ⟨g,1,none⟩ = some (.int .i64 (d1)):=fun X => blk_cellI (M:=[d0,d1,d2]) (k:=1) rfl (blk_below X.ok k2)
     have s1 : ∀ X : Class (Calm W0),X.wd.cell? ⟨gw,1,none⟩ = some (.int .i64 w1):=fun X => blk_cellI (M:=[w0,w1,w2]) (k:=1) rfl (blk_below X.ok k3)
     have r2 : ∀ X : Class (Calm W0),X.wd.cell? ⟨g,2,none⟩ = some (.int .i64 (d2)):=fun X => blk_cellI (M:=[d0,d1,d2]) (k:=2) rfl (blk_below X.ok k2)
     have s2 : ∀ X : Class (Calm W0),X.wd.cell? ⟨gw,2,none⟩ = some (.int .i64 w2):=fun X => blk_cellI (M:=[w0,w1,w2]) (k:=2) rfl (blk_below X.ok k3)
     simp only [List.take_succ_cons,List.take_zero,List.drop_succ_cons,List.drop_zero]
     repeat (go_big_quiet_step (fail))
     refine wpQuiet_nil ?_
     rintro _ ⟨x',rfl⟩
     have kcU2:=blk_below x'.ok k1
     have kgU2:=blk_below x'.ok k2
     have kwU2:=blk_below x'.ok k3
     have khU2:=blk_below x'.ok k4
     have bU2 : Below B w x'.wd:=k5.trans (x'.ok.mono (Nat.le_trans hBw' k5.size))
     obtain ⟨U2,hu⟩ : ∃ u,u = x'.wd:=⟨_,rfl⟩
     rw [← hu] at kcU2 kgU2 kwU2 khU2 bU2 ⊢
     clear hu x' hN q1 q4 r0 r1 r2 s0 s1 s2 k1 k2 k3 k4 k5
     have nU2:=kn kcU2
     have mU2:=kn khU2
     have fU2:=(kn kgU2).2.1
     have g0U2 : U2.cell? ⟨g,0,none⟩ = some (.int .i64 (d0)):=blk_cellI (M:=[d0,d1,d2]) (k:=0) rfl kgU2
     have g1U2 : U2.cell? ⟨g,1,none⟩ = some (.int .i64 (d1)):=blk_cellI (M:=[d0,d1,d2]) (k:=1) rfl kgU2
     have g2U2 : U2.cell? ⟨g,2,none⟩ = some (.int .i64 (d2)):=blk_cellI (M:=[d0,d1,d2]) (k:=2) rfl kgU2
     have w0U2 : U2.cell? ⟨gw,0,none⟩ = some (.int .i64 w0):=blk_cellI (M:=[w0,w1,w2]) (k:=0) rfl kwU2
     have w1U2 : U2.cell? ⟨gw,1,none⟩ = some (.int .i64 w1):=blk_cellI (M:=[w0,w1,w2]) (k:=1) rfl kwU2
     have w2U2 : U2.cell? ⟨gw,2,none⟩ = some (.int .i64 w2):=blk_cellI (M:=[w0,w1,w2]) (k:=2) rfl kwU2
     go_upto_region 13 with fail
     obtain ⟨U3,eU3⟩ : ∃ v,v = U2.setCell ⟨g,1,none⟩ (.int .i64 (d1 - h1)):=⟨_,rfl⟩
     have kcU3 : blk U3 c = some #[.slice (some ⟨gw,0,none⟩) 3 cw,.int .i64 q,.slice (some ⟨g,0,none⟩) 3 cd,.int .i64 1]:=(by rw [eU3];exact blk_other kcU2 hcg)
     have kgU3 : blk U3 g = some (rowC ic [d0,d1 - h1,d2] ++ sp).toArray:=(by rw [eU3];exact blk_setI (M:=[d0,d1,d2]) (k:=1) (x:=(d1)) rfl kgU2)
     have kwU3 : blk U3 gw = some (rowC ic [w0,w1,w2] ++ spw).toArray:=(by rw [eU3];exact blk_other kwU2 hwg)
     have khU3 : blk U3 hb = some #[.int .i64 h0,.int .i64 h1,.int .i64 h2]:=(by rw [eU3];exact blk_other khU2 hhg)
     have bU3 : Below B w U3:=(by rw [eU3];exact bU2.setCell (show B ≤ g from hg) _)
     rw [← eU3]
     clear eU3
     clear nU2 mU2 fU2 g0U2 g1U2 g2U2 w0U2 w1U2 w2U2
     have nU3:=kn kcU3
     have mU3:=kn khU3
     have fU3:=(kn kgU3).2.1
     have g0U3 : U3.cell? ⟨g,0,none⟩ = some (.int .i64 (d0)):=blk_cellI (M:=[d0,d1 - h1,d2]) (k:=0) rfl kgU3
     have g1U3 : U3.cell? ⟨g,1,none⟩ = some (.int .i64 (d1 - h1)):=blk_cellI (M:=[d0,d1 - h1,d2]) (k:=1) rfl kgU3
     have g2U3 : U3.cell? ⟨g,2,none⟩ = some (.int .i64 (d2)):=blk_cellI (M:=[d0,d1 - h1,d2]) (k:=2) rfl kgU3
     have w0U3 : U3.cell? ⟨gw,0,none⟩ = some (.int .i64 w0):=blk_cellI (M:=[w0,w1,w2]) (k:=0) rfl kwU3
     have w1U3 : U3.cell? ⟨gw,1,none⟩ = some (.int .i64 w1):=blk_cellI (M:=[w0,w1,w2]) (k:=1) rfl kwU3
     have w2U3 : U3.cell? ⟨gw,2,none⟩ = some (.int .i64 w2):=blk_cellI (M:=[w0,w1,w2]) (k:=2) rfl kwU3
     have EN:=Lib.hid (show nextD ⟨[w0,w1,w2],[a0,a1,a2],q,t0⟩ [h0,h1,h2] = (1,⟨[w0,w1,w2],[d0,d1 - h1,d2],q,1⟩) by rw [← hX0];unfold nextD;rw [HS.out];simp [takeD,at3])
     clear hX0 HS
     go_wp2
     (try rw [Exit.noGoto_ret])
     go_ret2
     exact ⟨k,by rw [EN.out];rfl,bU3,by rw [EN.out];exact kcU3,by rw [EN.out];exact kgU3,kwU3⟩
    ·have x2 : decide (h1 ≤ d1) = false:=decide_eq_false z9
     have hst : stopD ⟨[w0,w1,w2],[d0,d1,d2],q,1⟩ [h0,h1,h2] = false:=by simp [stopD,at3];omega
     go_upto_region 5 with fail
     refine wp_region_in (by kernel_rfl) (by kernel_rfl) ?_
     intro W0 hE hN
     have k1 : blk W0 c = some #[.slice (some ⟨gw,0,none⟩) 3 cw,.int .i64 q,.slice (some ⟨g,0,none⟩) 3 cd,.int .i64 1]:=(by rw [hE.out];exact kcwr)
     have k2 : blk W0 g = some (rowC ic [d0,d1,d2] ++ sp).toArray:=(by rw [hE.out];exact kgwr)
     have k3 : blk W0 gw = some (rowC ic [w0,w1,w2] ++ spw).toArray:=(by rw [hE.out];exact kwwr)
     have k4 : blk W0 hb = some #[.int .i64 h0,.int .i64 h1,.int .i64 h2]:=(by rw [hE.out];exact khwr)
     have k5 : Below B w W0:=(by rw [hE.out];exact bwr)
     clear hE
     clear nwr mwr fwr g0wr g1wr g2wr w0wr w1wr w2wr
     clear kcwr kgwr kwwr khwr bwr
     have q1:=calm_kn k1
     have q4:=calm_kn k4
     have r0 : ∀ X : Class (Calm W0),X.wd.cell? ⟨g,0,none⟩ = some (.int .i64 (d0)):=fun X => blk_cellI (M:=[d0,d1,d2]) (k:=0) rfl (blk_below X.ok k2)
     have s0 : ∀ X : Class (Calm W0),X.wd.cell? ⟨gw,0,none⟩ = some (.int .i64 w0):=fun X => blk_cellI (M:=[w0,w1,w2]) (k:=0) rfl (blk_below X.ok k3)
     have r1 : ∀ X : Class (Calm W0),X.wd.cell? ⟨g,1,none⟩ = some (.int .i64 (d1)):=fun X => blk_cellI (M:=[d0,d1,d2]) (k:=1) rfl (blk_below X.ok k2)
     have s1 : ∀ X : Class (Calm W0),X.wd.cell? ⟨gw,1,none⟩ = some (.int .i64 w1):=fun X => blk_cellI (M:=[w0,w1,w2]) (k:=1) rfl (blk_below X.ok k3)
     have r2 : ∀ X : Class (Calm W0),X.wd.cell? ⟨g,2,none⟩ = some (.int .i64 (d2)):=fun X => blk_cellI (M:=[d0,d1,d2]) (k:=2) rfl (blk_below X.ok k2)
     have s2 : ∀ X : Class (Calm W0),X.wd.cell? ⟨gw,2,none⟩ = some (.int .i64 w2):=fun X => blk_cellI (M:=[w0,w1,w2]) (k:=2) rfl (blk_below X.ok k3)
     repeat (go_big_quiet_step (fail))
     refine wpQuiet_nil ?_
     rintro _ ⟨x',rfl⟩
     have kcU1:=blk_below x'.ok k1
     have kgU1:=blk_below x'.ok k2
     have kwU1:=blk_below x'.ok k3
     have khU1:=blk_below x'.ok k4
     have bU1 : Below B w x'.wd:=k5.trans (x'.ok.mono (Nat.le_trans hBw' k5.size))
     obtain ⟨U1,hu⟩ : ∃ u,u = x'.wd:=⟨_,rfl⟩
     rw [← hu] at kcU1 kgU1 kwU1 khU1 bU1 ⊢
     clear hu x' hN q1 q4 r0 r1 r2 s0 s1 s2 k1 k2 k3 k4 k5
     have nU1:=kn kcU1
     have mU1:=kn khU1
     have fU1:=(kn kgU1).2.1
     have g0U1 : U1.cell? ⟨g,0,none⟩ = some (.int .i64 (d0)):=blk_cellI (M:=[d0,d1,d2]) (k:=0) rfl kgU1
     have g1U1 : U1.cell? ⟨g,1,none⟩ = some (.int .i64 (d1)):=blk_cellI (M:=[d0,d1,d2]) (k:=1) rfl kgU1
     have g2U1 : U1.cell? ⟨g,2,none⟩ = some (.int .i64 (d2)):=blk_cellI (M:=[d0,d1,d2]) (k:=2) rfl kgU1
     have w0U1 : U1.cell? ⟨gw,0,none⟩ = some (.int .i64 w0):=blk_cellI (M:=[w0,w1,w2]) (k:=0) rfl kwU1
     have w1U1 : U1.cell? ⟨gw,1,none⟩ = some (.int .i64 w1):=blk_cellI (M:=[w0,w1,w2]) (k:=1) rfl kwU1
     have w2U1 : U1.cell? ⟨gw,2,none⟩ = some (.int .i64 w2):=blk_cellI (M:=[w0,w1,w2]) (k:=2) rfl kwU1
     go_upto_region 8 with fail
     obtain ⟨U2,eU2⟩ : ∃ v,v = U1.setCell ⟨c,3,none⟩ (.int .i64 0):=⟨_,rfl⟩
     have kcU2 : blk U2 c = some #[.slice (some ⟨gw,0,none⟩) 3 cw,.int .i64 q,.slice (some ⟨g,0,none⟩) 3 cd,.int .i64 0]:=(by rw [eU2];exact blk_set kcU1)
     have kgU2 : blk U2 g = some (rowC ic [d0,d1,d2] ++ sp).toArray:=(by rw [eU2];exact blk_other kgU1 hgc)
     have kwU2 : blk U2 gw = some (rowC ic [w0,w1,w2] ++ spw).toArray:=(by rw [eU2];exact blk_other kwU1 hwc)
     have khU2 : blk U2 hb = some #[.int .i64 h0,.int .i64 h1,.int .i64 h2]:=(by rw [eU2];exact blk_other khU1 hhc)
     have bU2 : Below B w U2:=(by rw [eU2];exact bU1.setCell (show B ≤ c from hc) _)
     rw [← eU2]
     clear eU2
     clear nU1 mU1 fU1 g0U1 g1U1 g2U1 w0U1 w1U1 w2U1
     have nU2:=kn kcU2
     have mU2:=kn khU2
     have fU2:=(kn kgU2).2.1
     have g0U2 : U2.cell? ⟨g,0,none⟩ = some (.int .i64 (d0)):=blk_cellI (M:=[d0,d1,d2]) (k:=0) rfl kgU2
     have g1U2 : U2.cell? ⟨g,1,none⟩ = some (.int .i64 (d1)):=blk_cellI (M:=[d0,d1,d2]) (k:=1) rfl kgU2
     have g2U2 : U2.cell? ⟨g,2,none⟩ = some (.int .i64 (d2)):=blk_cellI (M:=[d0,d1,d2]) (k:=2) rfl kgU2
     have w0U2 : U2.cell? ⟨gw,0,none⟩ = some (.int .i64 w0):=blk_cellI (M:=[w0,w1,w2]) (k:=0) rfl kwU2
     have w1U2 : U2.cell? ⟨gw,1,none⟩ = some (.int .i64 w1):=blk_cellI (M:=[w0,w1,w2]) (k:=1) rfl kwU2
     have w2U2 : U2.cell? ⟨gw,2,none⟩ = some (.int .i64 w2):=blk_cellI (M:=[w0,w1,w2]) (k:=2) rfl kwU2
     by_cases z0 : h0 = 0
     ·have y0 : (h0 == 0) = true:=by simp [z0]
      have e0 : True:=trivial
      have ep : passD ⟨[w0,w1,w2],[d0,d1,d2],q,1⟩ [h0,h1,h2] = ⟨[w0,w1,w2],[0,d1,d2],q,0⟩:=by simp [passD,at3,z1,z0,e0]
      have hx2 : okD ⟨[w0,w1,w2],[0,d1,d2],q,0⟩:=(by rw [← ep];exact okD_pass HX.out)
      have HX2:=Lib.hid hx2
      clear hx2
      have HM2 : Hid (serveD m ⟨[w0,w1,w2],[0,d1,d2],q,0⟩ [h0,h1,h2] = serveD fuelD X0 [h0,h1,h2] ∧ muD ⟨[w0,w1,w2],[0,d1,d2],q,0⟩ [h0,h1,h2] p < m):=Lib.hid (by
       have h9:=muD_pass HX.out rfl hp HPP.out hst
       rw [ep] at h9
       have h8:=HM.out.1
       rw [pass_serve hst,ep] at h8
       exact ⟨h8,by have:=HM.out.2;omega⟩)
      clear ep hst
      clear z0 e0
      go_wp2
      obtain ⟨U3,eU3⟩ : ∃ v,v = U2.setCell ⟨g,0,none⟩ (.int .i64 (0)):=⟨_,rfl⟩
      have kcU3 : blk U3 c = some #[.slice (some ⟨gw,0,none⟩) 3 cw,.int .i64 q,.slice (some ⟨g,0,none⟩) 3 cd,.int .i64 0]:=(by rw [eU3];exact blk_other kcU2 hcg)
      have kgU3 : blk U3 g = some (rowC ic [0,d1,d2] ++ sp).toArray:=(by rw [eU3];exact blk_setI (M:=[d0,d1,d2]) (k:=0) (x:=(d0)) rfl kgU2)
      have kwU3 : blk U3 gw = some (rowC ic [w0,w1,w2] ++ spw).toArray:=(by rw [eU3];exact blk_other kwU2 hwg)
      have khU3 : blk U3 hb = some #[.int .i64 h0,.int .i64 h1,.int .i64 h2]:=(by rw [eU3];exact blk_other khU2 hhg)
      have bU3 : Below B w U3:=(by rw [eU3];exact bU2.setCell (show B ≤ g from hg) _)
      rw [← eU3]
      clear eU3
      clear nU2 mU2 fU2 g0U2 g1U2 g2U2 w0U2 w1U2 w2U2
      have nU3:=kn kcU3
      have mU3:=kn khU3
      have fU3:=(kn kgU3).2.1
      have g0U3 : U3.cell? ⟨g,0,none⟩ = some (.int .i64 (0)):=blk_cellI (M:=[0,d1,d2]) (k:=0) rfl kgU3
      have g1U3 : U3.cell? ⟨g,1,none⟩ = some (.int .i64 (d1)):=blk_cellI (M:=[0,d1,d2]) (k:=1) rfl kgU3
      have g2U3 : U3.cell? ⟨g,2,none⟩ = some (.int .i64 (d2)):=blk_cellI (M:=[0,d1,d2]) (k:=2) rfl kgU3
      have w0U3 : U3.cell? ⟨gw,0,none⟩ = some (.int .i64 w0):=blk_cellI (M:=[w0,w1,w2]) (k:=0) rfl kwU3
      have w1U3 : U3.cell? ⟨gw,1,none⟩ = some (.int .i64 w1):=blk_cellI (M:=[w0,w1,w2]) (k:=1) rfl kwU3
      have w2U3 : U3.cell? ⟨gw,2,none⟩ = some (.int .i64 w2):=blk_cellI (M:=[w0,w1,w2]) (k:=2) rfl kwU3
      go_roundw
      case rel => exact ⟨k + 1,m,[0,d1,d2],0,by go_num,by omega,bU3,Lib.hid ⟨HX2.out,HM2.out,kcU3,kgU3,kwU3,khU3⟩⟩
      case measure => simp [intOf];omega
     ·have y0 : (h0 == 0) = false:=by simpa using z0
      have e0 : w0 * q = M0:=HMM0.out
      have ep : passD ⟨[w0,w1,w2],[d0,d1,d2],q,1⟩ [h0,h1,h2] = ⟨[w0,w1,w2],[min 1099511627776 (d0 + M0),d1,d2],q,0⟩:=by simp [passD,at3,z1,z0,e0]
      have hx2 : okD ⟨[w0,w1,w2],[min 1099511627776 (d0 + M0),d1,d2],q,0⟩:=(by rw [← ep];exact okD_pass HX.out)
      have HX2:=Lib.hid hx2
      clear hx2
      have HM2 : Hid (serveD m ⟨[w0,w1,w2],[min 1099511627776 (d0 + M0),d1,d2],q,0⟩ [h0,h1,h2] = serveD fuelD X0 [h0,h1,h2] ∧ muD ⟨[w0,w1,w2],[min 1099511627776 (d0 + M0),d1,d2],q,0⟩ [h0,h1,h2] p < m):=Lib.hid (by
       have h9:=muD_pass HX.out rfl hp HPP.out hst
       rw [ep] at h9
       have h8:=HM.out.1
       rw [pass_serve hst,ep] at h8
       exact ⟨h8,by have:=HM.out.2;omega⟩)
      clear ep hst
      clear z0
      have v0 : IntKind.i64.wrap M0 = M0:=IntWalk.i64_in _ (by omega)
      have v0' : IntKind.i64.wrap (d0 + M0) = d0 + M0:=IntWalk.i64_in _ (by omega)
      go_upto_region 11 with fail
      refine wp_region_tail 27 (by kernel_rfl) (by kernel_rfl) ?_
      intro W0 hE hN
      have k1 : blk W0 c = some #[.slice (some ⟨gw,0,none⟩) 3 cw,.int .i64 q,.slice (some ⟨g,0,none⟩) 3 cd,.int .i64 0]:=(by rw [hE.out];exact kcU2)
      have k2 : blk W0 g = some (rowC ic [d0,d1,d2] ++ sp).toArray:=(by rw [hE.out];exact kgU2)
      have k3 : blk W0 gw = some (rowC ic [w0,w1,w2] ++ spw).toArray:=(by rw [hE.out];exact kwU2)
      have k4 : blk W0 hb = some #[.int .i64 h0,.int .i64 h1,.int .i64 h2]:=(by rw [hE.out];exact khU2)
      have k5 : Below B w W0:=(by rw [hE.out];exact bU2)
      clear hE
      clear nU2 mU2 fU2 g0U2 g1U2 g2U2 w0U2 w1U2 w2U2
      clear kcU2 kgU2 kwU2 khU2 bU2
      have q1:=calm_kn k1
      have q4:=calm_kn k4
      have r0 : ∀ X : Class (Calm W0),X.wd.cell? ⟨g,0,none⟩ = some (.int .i64 (d0)):=fun X => blk_cellI (M:=[d0,d1,d2]) (k:=0) rfl (blk_below X.ok k2)
      have s0 : ∀ X : Class (Calm W0),X.wd.cell? ⟨gw,0,none⟩ = some (.int .i64 w0):=fun X => blk_cellI (M:=[w0,w1,w2]) (k:=0) rfl (blk_below X.ok k3)
      have r1 : ∀ X : Class (Calm W0),X.wd.cell? ⟨g,1,none⟩ = some (.int .i64 (d1)):=fun X => blk_cellI (M:=[d0,d1,d2]) (k:=1) rfl (blk_below X.ok k2)
      have s1 : ∀ X : Class (Calm W0),X.wd.cell? ⟨gw,1,none⟩ = some (.int .i64 w1):=fun X => blk_cellI (M:=[w0,w1,w2]) (k:=1) rfl (blk_below X.ok k3)
      have r2 : ∀ X : Class (Calm W0),X.wd.cell? ⟨g,2,none⟩ = some (.int .i64 (d2)):=fun X => blk_cellI (M:=[d0,d1,d2]) (k:=2) rfl (blk_below X.ok k2)
      have s2 : ∀ X : Class (Calm W0),X.wd.cell? ⟨gw,2,none⟩ = some (.int .i64 w2):=fun X => blk_cellI (M:=[w0,w1,w2]) (k:=2) rfl (blk_below X.ok k3)
      simp only [List.take_succ_cons,List.take_zero,List.drop_succ_cons,List.drop_zero]
      repeat (go_big_quiet_step (fail))
      refine wpQuiet_nil ?_
      rintro _ ⟨x',rfl⟩
      have kcU4:=blk_below x'.ok k1
      have kgU4:=blk_below x'.ok k2
      have kwU4:=blk_below x'.ok k3
      have khU4:=blk_below x'.ok k4
      have bU4 : Below B w x'.wd:=k5.trans (x'.ok.mono (Nat.le_trans hBw' k5.size))
      obtain ⟨U4,hu⟩ : ∃ u,u = x'.wd:=⟨_,rfl⟩
      rw [← hu] at kcU4 kgU4 kwU4 khU4 bU4 ⊢
      clear hu x' hN q1 q4 r0 r1 r2 s0 s1 s2 k1 k2 k3 k4 k5
      have nU4:=kn kcU4
      have mU4:=kn khU4
      have fU4:=(kn kgU4).2.1
      have g0U4 : U4.cell? ⟨g,0,none⟩ = some (.int .i64 (d0)):=blk_cellI (M:=[d0,d1,d2]) (k:=0) rfl kgU4
      have g1U4 : U4.cell? ⟨g,1,none⟩ = some (.int .i64 (d1)):=blk_cellI (M:=[d0,d1,d2]) (k:=1) rfl kgU4
      have g2U4 : U4.cell? ⟨g,2,none⟩ = some (.int .i64 (d2)):=blk_cellI (M:=[d0,d1,d2]) (k:=2) rfl kgU4
      have w0U4 : U4.cell? ⟨gw,0,none⟩ = some (.int .i64 w0):=blk_cellI (M:=[w0,w1,w2]) (k:=0) rfl kwU4
      have w1U4 : U4.cell? ⟨gw,1,none⟩ = some (.int .i64 w1):=blk_cellI (M:=[w0,w1,w2]) (k:=1) rfl kwU4
      have w2U4 : U4.cell? ⟨gw,2,none⟩ = some (.int .i64 w2):=blk_cellI (M:=[w0,w1,w2]) (k:=2) rfl kwU4
      go_wp2
      obtain ⟨U3,eU3⟩ : ∃ v,v = U4.setCell ⟨g,0,none⟩ (.int .i64 (min 1099511627776 (d0 + M0))):=⟨_,rfl⟩
      have kcU3 : blk U3 c = some #[.slice (some ⟨gw,0,none⟩) 3 cw,.int .i64 q,.slice (some ⟨g,0,none⟩) 3 cd,.int .i64 0]:=(by rw [eU3];exact blk_other kcU4 hcg)
      have kgU3 : blk U3 g = some (rowC ic [min 1099511627776 (d0 + M0),d1,d2] ++ sp).toArray:=(by rw [eU3];exact blk_setI (M:=[d0,d1,d2]) (k:=0) (x:=(d0)) rfl kgU4)
      have kwU3 : blk U3 gw = some (rowC ic [w0,w1,w2] ++ spw).toArray:=(by rw [eU3];exact blk_other kwU4 hwg)
      have khU3 : blk U3 hb = some #[.int .i64 h0,.int .i64 h1,.int .i64 h2]:=(by rw [eU3];exact blk_other khU4 hhg)
      have bU3 : Below B w U3:=(by rw [eU3];exact bU4.setCell (show B ≤ g from hg) _)
      rw [← eU3]
      clear eU3
      clear nU4 mU4 fU4 g0U4 g1U4 g2U4 w0U4 w1U4 w2U4
      have nU3:=kn kcU3
      have mU3:=kn khU3
      have fU3:=(kn kgU3).2.1
      have g0U3 : U3.cell? ⟨g,0,none⟩ = some (.int .i64 (min 1099511627776 (d0 + M0))):=blk_cellI (M:=[min 1099511627776 (d0 + M0),d1,d2]) (k:=0) rfl kgU3
      have g1U3 : U3.cell? ⟨g,1,none⟩ = some (.int .i64 (d1)):=blk_cellI (M:=[min 1099511627776 (d0 + M0),d1,d2]) (k:=1) rfl kgU3
      have g2U3 : U3.cell? ⟨g,2,none⟩ = some (.int .i64 (d2)):=blk_cellI (M:=[min 1099511627776 (d0 + M0),d1,d2]) (k:=2) rfl kgU3
      have w0U3 : U3.cell? ⟨gw,0,none⟩ = some (.int .i64 w0):=blk_cellI (M:=[w0,w1,w2]) (k:=0) rfl kwU3
      have w1U3 : U3.cell? ⟨gw,1,none⟩ = some (.int .i64 w1):=blk_cellI (M:=[w0,w1,w2]) (k:=1) rfl kwU3
      have w2U3 : U3.cell? ⟨gw,2,none⟩ = some (.int .i64 w2):=blk_cellI (M:=[w0,w1,w2]) (k:=2) rfl kwU3
      go_roundw
      case rel => exact ⟨k + 1,m,[min 1099511627776 (d0 + M0),d1,d2],0,by go_num,by omega,bU3,Lib.hid ⟨HX2.out,HM2.out,kcU3,kgU3,kwU3,khU3⟩⟩
      case measure => simp [intOf];omega
  ·have dd:=HX.out.2.2.2.2.1
   have da:=dd d0 (by simp)
   have db:=dd d1 (by simp)
   have dc:=dd d2 (by simp)
   clear dd
   have nwr:=kn kcwr
   have mwr:=kn khwr
   have fwr:=(kn kgwr).2.1
   have g0wr : wr.cell? ⟨g,0,none⟩ = some (.int .i64 (d0)):=blk_cellI (M:=[d0,d1,d2]) (k:=0) rfl kgwr
   have g1wr : wr.cell? ⟨g,1,none⟩ = some (.int .i64 (d1)):=blk_cellI (M:=[d0,d1,d2]) (k:=1) rfl kgwr
   have g2wr : wr.cell? ⟨g,2,none⟩ = some (.int .i64 (d2)):=blk_cellI (M:=[d0,d1,d2]) (k:=2) rfl kgwr
   have w0wr : wr.cell? ⟨gw,0,none⟩ = some (.int .i64 w0):=blk_cellI (M:=[w0,w1,w2]) (k:=0) rfl kwwr
   have w1wr : wr.cell? ⟨gw,1,none⟩ = some (.int .i64 w1):=blk_cellI (M:=[w0,w1,w2]) (k:=1) rfl kwwr
   have w2wr : wr.cell? ⟨gw,2,none⟩ = some (.int .i64 w2):=blk_cellI (M:=[w0,w1,w2]) (k:=2) rfl kwwr
   by_cases z2 : h2 = 0
   ·have x1 : (h2 == 0) = true:=by simp [z2]
    have hst : stopD ⟨[w0,w1,w2],[d0,d1,d2],q,2⟩ [h0,h1,h2] = false:=by simp [stopD,at3];omega
    go_upto_region 6 with fail
    obtain ⟨U1,eU1⟩ : ∃ v,v = wr.setCell ⟨g,2,none⟩ (.int .i64 (0)):=⟨_,rfl⟩
    have kcU1 : blk U1 c = some #[.slice (some ⟨gw,0,none⟩) 3 cw,.int .i64 q,.slice (some ⟨g,0,none⟩) 3 cd,.int .i64 2]:=(by rw [eU1];exact blk_other kcwr hcg)
    have kgU1 : blk U1 g = some (rowC ic [d0,d1,0] ++ sp).toArray:=(by rw [eU1];exact blk_setI (M:=[d0,d1,d2]) (k:=2) (x:=(d2)) rfl kgwr)
    have kwU1 : blk U1 gw = some (rowC ic [w0,w1,w2] ++ spw).toArray:=(by rw [eU1];exact blk_other kwwr hwg)
    have khU1 : blk U1 hb = some #[.int .i64 h0,.int .i64 h1,.int .i64 h2]:=(by rw [eU1];exact blk_other khwr hhg)
    have bU1 : Below B w U1:=(by rw [eU1];exact bwr.setCell (show B ≤ g from hg) _)
    rw [← eU1]
    clear eU1
    clear nwr mwr fwr g0wr g1wr g2wr w0wr w1wr w2wr
    have nU1:=kn kcU1
    have mU1:=kn khU1
    have fU1:=(kn kgU1).2.1
    have g0U1 : U1.cell? ⟨g,0,none⟩ = some (.int .i64 (d0)):=blk_cellI (M:=[d0,d1,0]) (k:=0) rfl kgU1
    have g1U1 : U1.cell? ⟨g,1,none⟩ = some (.int .i64 (d1)):=blk_cellI (M:=[d0,d1,0]) (k:=1) rfl kgU1
    have g2U1 : U1.cell? ⟨g,2,none⟩ = some (.int .i64 (0)):=blk_cellI (M:=[d0,d1,0]) (k:=2) rfl kgU1
    have w0U1 : U1.cell? ⟨gw,0,none⟩ = some (.int .i64 w0):=blk_cellI (M:=[w0,w1,w2]) (k:=0) rfl kwU1
    have w1U1 : U1.cell? ⟨gw,1,none⟩ = some (.int .i64 w1):=blk_cellI (M:=[w0,w1,w2]) (k:=1) rfl kwU1
    have w2U1 : U1.cell? ⟨gw,2,none⟩ = some (.int .i64 w2):=blk_cellI (M:=[w0,w1,w2]) (k:=2) rfl kwU1
    go_upto_region 8 with fail
    obtain ⟨U2,eU2⟩ : ∃ v,v = U1.setCell ⟨c,3,none⟩ (.int .i64 1):=⟨_,rfl⟩
    have kcU2 : blk U2 c = some #[.slice (some ⟨gw,0,none⟩) 3 cw,.int .i64 q,.slice (some ⟨g,0,none⟩) 3 cd,.int .i64 1]:=(by rw [eU2];exact blk_set kcU1)
    have kgU2 : blk U2 g = some (rowC ic [d0,d1,0] ++ sp).toArray:=(by rw [eU2];exact blk_other kgU1 hgc)
    have kwU2 : blk U2 gw = some (rowC ic [w0,w1,w2] ++ spw).toArray:=(by rw [eU2];exact blk_other kwU1 hwc)
    have khU2 : blk U2 hb = some #[.int .i64 h0,.int .i64 h1,.int .i64 h2]:=(by rw [eU2];exact blk_other khU1 hhc)
    have bU2 : Below B w U2:=(by rw [eU2];exact bU1.setCell (show B ≤ c from hc) _)
    rw [← eU2]
    clear eU2
    clear nU1 mU1 fU1 g0U1 g1U1 g2U1 w0U1 w1U1 w2U1
    have nU2:=kn kcU2
    have mU2:=kn khU2
    have fU2:=(kn kgU2).2.1
    have g0U2 : U2.cell? ⟨g,0,none⟩ = some (.int .i64 (d0)):=blk_cellI (M:=[d0,d1,0]) (k:=0) rfl kgU2
    have g1U2 : U2.cell? ⟨g,1,none⟩ = some (.int .i64 (d1)):=blk_cellI (M:=[d0,d1,0]) (k:=1) rfl kgU2
    have g2U2 : U2.cell? ⟨g,2,none⟩ = some (.int .i64 (0)):=blk_cellI (M:=[d0,d1,0]) (k:=2) rfl kgU2
    have w0U2 : U2.cell? ⟨gw,0,none⟩ = some (.int .i64 w0):=blk_cellI (M:=[w0,w1,w2]) (k:=0) rfl kwU2
    have w1U2 : U2.cell? ⟨gw,1,none⟩ = some (.int .i64 w1):=blk_cellI (M:=[w0,w1,w2]) (k:=1) rfl kwU2
    have w2U2 : U2.cell? ⟨gw,2,none⟩ = some (.int .i64 w2):=blk_cellI (M:=[w0,w1,w2]) (k:=2) rfl kwU2
    by_cases z1 : h1 = 0
    ·have y1 : (h1 == 0) = true:=by simp [z1]
     have e1 : True:=trivial
     have ep : passD ⟨[w0,w1,w2],[d0,d1,d2],q,2⟩ [h0,h1,h2] = ⟨[w0,w1,w2],[d0,0,0],q,1⟩:=by simp [passD,at3,z2,z1,e1]
     have hx2 : okD ⟨[w0,w1,w2],[d0,0,0],q,1⟩:=(by rw [← ep];exact okD_pass HX.out)
     have HX2:=Lib.hid hx2
     clear hx2
     have HM2 : Hid (serveD m ⟨[w0,w1,w2],[d0,0,0],q,1⟩ [h0,h1,h2] = serveD fuelD X0 [h0,h1,h2] ∧ muD ⟨[w0,w1,w2],[d0,0,0],q,1⟩ [h0,h1,h2] p < m):=Lib.hid (by
      have h9:=muD_pass HX.out rfl hp HPP.out hst
      rw [ep] at h9
      have h8:=HM.out.1
      rw [pass_serve hst,ep] at h8
      exact ⟨h8,by have:=HM.out.2;omega⟩)
     clear ep hst
     clear z1 e1
     go_wp2
     obtain ⟨U3,eU3⟩ : ∃ v,v = U2.setCell ⟨g,1,none⟩ (.int .i64 (0)):=⟨_,rfl⟩
     have kcU3 : blk U3 c = some #[.slice (some ⟨gw,0,none⟩) 3 cw,.int .i64 q,.slice (some ⟨g,0,none⟩) 3 cd,.int .i64 1]:=(by rw [eU3];exact blk_other kcU2 hcg)
     have kgU3 : blk U3 g = some (rowC ic [d0,0,0] ++ sp).toArray:=(by rw [eU3];exact blk_setI (M:=[d0,d1,0]) (k:=1) (x:=(d1)) rfl kgU2)
     have kwU3 : blk U3 gw = some (rowC ic [w0,w1,w2] ++ spw).toArray:=(by rw [eU3];exact blk_other kwU2 hwg)
     have khU3 : blk U3 hb = some #[.int .i64 h0,.int .i64 h1,.int .i64 h2]:=(by rw [eU3];exact blk_other khU2 hhg)
     have bU3 : Below B w U3:=(by rw [eU3];exact bU2.setCell (show B ≤ g from hg) _)
     rw [← eU3]
     clear eU3
     clear nU2 mU2 fU2 g0U2 g1U2 g2U2 w0U2 w1U2 w2U2
     have nU3:=kn kcU3
     have mU3:=kn khU3
     have fU3:=(kn kgU3).2.1
     have g0U3 : U3.cell? ⟨g,0,none⟩ = some (.int .i64 (d0)):=blk_cellI (M:=[d0,0,0]) (k:=0) rfl kgU3
     have g1U3 : U3.cell? ⟨g,1,none⟩ = some (.int .i64 (0)):=blk_cellI (M:=[d0,0,0]) (k:=1) rfl kgU3
     have g2U3 : U3.cell? ⟨g,2,none⟩ = some (.int .i64 (0)):=blk_cellI (M:=[d0,0,0]) (k:=2) rfl kgU3
     have w0U3 : U3.cell? ⟨gw,0,none⟩ = some (.int .i64 w0):=blk_cellI (M:=[w0,w1,w2]) (k:=0) rfl kwU3
     have w1U3 : U3.cell? ⟨gw,1,none⟩ = some (.int .i64 w1):=blk_cellI (M:=[w0,w1,w2]) (k:=1) rfl kwU3
     have w2U3 : U3.cell? ⟨gw,2,none⟩ = some (.int .i64 w2):=blk_cellI (M:=[w0,w1,w2]) (k:=2) rfl kwU3
     go_roundw
     case rel => exact ⟨k + 1,m,[d0,0,0],1,by go_num,by omega,bU3,Lib.hid ⟨HX2.out,HM2.out,kcU3,kgU3,kwU3,khU3⟩⟩
     case measure => simp [intOf];omega
    ·have y1 : (h1 == 0) = false:=by simpa using z1
     have e1 : w1 * q = M1:=HMM1.out
     have ep : passD ⟨[w0,w1,w2],[d0,d1,d2],q,2⟩ [h0,h1,h2] = ⟨[w0,w1,w2],[d0,min 1099511627776 (d1 + M1),0],q,1⟩:=by simp [passD,at3,z2,z1,e1]
     have hx2 : okD ⟨[w0,w1,w2],[d0,min 1099511627776 (d1 + M1),0],q,1⟩:=(by rw [← ep];exact okD_pass HX.out)
     have HX2:=Lib.hid hx2
     clear hx2
     have HM2 : Hid (serveD m ⟨[w0,w1,w2],[d0,min 1099511627776 (d1 + M1),0],q,1⟩ [h0,h1,h2] = serveD fuelD X0 [h0,h1,h2] ∧ muD ⟨[w0,w1,w2],[d0,min 1099511627776 (d1 + M1),0],q,1⟩ [h0,h1,h2] p < m):=Lib.hid (by
      have h9:=muD_pass HX.out rfl hp HPP.out hst
      rw [ep] at h9
      have h8:=HM.out.1
      rw [pass_serve hst,ep] at h8
      exact ⟨h8,by have:=HM.out.2;omega⟩)
     clear ep hst
     clear z1
     have v1 : IntKind.i64.wrap M1 = M1:=IntWalk.i64_in _ (by omega)
     have v1' : IntKind.i64.wrap (d1 + M1) = d1 + M1:=IntWalk.i64_in _ (by omega)
     go_upto_region 11 with fail
     refine wp_region_tail 27 (by kernel_rfl) (by kernel_rfl) ?_
     intro W0 hE hN
     have k1 : blk W0 c = some #[.slice (some ⟨gw,0,none⟩) 3 cw,.int .i64 q,.slice (some ⟨g,0,none⟩) 3 cd,.int .i64 1]:=(by rw [hE.out];exact kcU2)
     have k2 : blk W0 g = some (rowC ic [d0,d1,0] ++ sp).toArray:=(by rw [hE.out];exact kgU2)
     have k3 : blk W0 gw = some (rowC ic [w0,w1,w2] ++ spw).toArray:=(by rw [hE.out];exact kwU2)
     have k4 : blk W0 hb = some #[.int .i64 h0,.int .i64 h1,.int .i64 h2]:=(by rw [hE.out];exact khU2)
     have k5 : Below B w W0:=(by rw [hE.out];exact bU2)
     clear hE
     clear nU2 mU2 fU2 g0U2 g1U2 g2U2 w0U2 w1U2 w2U2
     clear kcU2 kgU2 kwU2 khU2 bU2
     have q1:=calm_kn k1
     have q4:=calm_kn k4
     have r0 : ∀ X : Class (Calm W0),X.wd.cell? ⟨g,0,none⟩ = some (.int .i64 (d0)):=fun X => blk_cellI (M:=[d0,d1,0]) (k:=0) rfl (blk_below X.ok k2)
     have s0 : ∀ X : Class (Calm W0),X.wd.cell? ⟨gw,0,none⟩ = some (.int .i64 w0):=fun X => blk_cellI (M:=[w0,w1,w2]) (k:=0) rfl (blk_below X.ok k3)
     have r1 : ∀ X : Class (Calm W0),X.wd.cell? ⟨g,1,none⟩ = some (.int .i64 (d1)):=fun X => blk_cellI (M:=[d0,d1,0]) (k:=1) rfl (blk_below X.ok k2)
     have s1 : ∀ X : Class (Calm W0),X.wd.cell? ⟨gw,1,none⟩ = some (.int .i64 w1):=fun X => blk_cellI (M:=[w0,w1,w2]) (k:=1) rfl (blk_below X.ok k3)
     have r2 : ∀ X : Class (Calm W0),X.wd.cell? ⟨g,2,none⟩ = some (.int .i64 (0)):=fun X => blk_cellI (M:=[d0,d1,0]) (k:=2) rfl (blk_below X.ok k2)
     have s2 : ∀ X : Class (Calm W0),X.wd.cell? ⟨gw,2,none⟩ = some (.int .i64 w2):=fun X => blk_cellI (M:=[w0,w1,w2]) (k:=2) rfl (blk_below X.ok k3)
     simp only [List.take_succ_cons,List.take_zero,List.drop_succ_cons,List.drop_zero]
     repeat (go_big_quiet_step (fail))
     refine wpQuiet_nil ?_
     rintro _ ⟨x',rfl⟩
     have kcU4:=blk_below x'.ok k1
     have kgU4:=blk_below x'.ok k2
     have kwU4:=blk_below x'.ok k3
     have khU4:=blk_below x'.ok k4
     have bU4 : Below B w x'.wd:=k5.trans (x'.ok.mono (Nat.le_trans hBw' k5.size))
     obtain ⟨U4,hu⟩ : ∃ u,u = x'.wd:=⟨_,rfl⟩
     rw [← hu] at kcU4 kgU4 kwU4 khU4 bU4 ⊢
     clear hu x' hN q1 q4 r0 r1 r2 s0 s1 s2 k1 k2 k3 k4 k5
     have nU4:=kn kcU4
     have mU4:=kn khU4
     have fU4:=(kn kgU4).2.1
     have g0U4 : U4.cell? ⟨g,0,none⟩ = some (.int .i64 (d0)):=blk_cellI (M:=[d0,d1,0]) (k:=0) rfl kgU4
     have g1U4 : U4.cell? ⟨g,1,none⟩ = some (.int .i64 (d1)):=blk_cellI (M:=[d0,d1,0]) (k:=1) rfl kgU4
     have g2U4 : U4.cell? ⟨g,2,none⟩ = some (.int .i64 (0)):=blk_cellI (M:=[d0,d1,0]) (k:=2) rfl kgU4
     have w0U4 : U4.cell? ⟨gw,0,none⟩ = some (.int .i64 w0):=blk_cellI (M:=[w0,w1,w2]) (k:=0) rfl kwU4
     have w1U4 : U4.cell? ⟨gw,1,none⟩ = some (.int .i64 w1):=blk_cellI (M:=[w0,w1,w2]) (k:=1) rfl kwU4
     have w2U4 : U4.cell? ⟨gw,2,none⟩ = some (.int .i64 w2):=blk_cellI (M:=[w0,w1,w2]) (k:=2) rfl kwU4
     go_wp2
     obtain ⟨U3,eU3⟩ : ∃ v,v = U4.setCell ⟨g,1,none⟩ (.int .i64 (min 1099511627776 (d1 + M1))):=⟨_,rfl⟩
     have kcU3 : blk U3 c = some #[.slice (some ⟨gw,0,none⟩) 3 cw,.int .i64 q,.slice (some ⟨g,0,none⟩) 3 cd,.int .i64 1]:=(by rw [eU3];exact blk_other kcU4 hcg)
     have kgU3 : blk U3 g = some (rowC ic [d0,min 1099511627776 (d1 + M1),0] ++ sp).toArray:=(by rw [eU3];exact blk_setI (M:=[d0,d1,0]) (k:=1) (x:=(d1)) rfl kgU4)
     have kwU3 : blk U3 gw = some (rowC ic [w0,w1,w2] ++ spw).toArray:=(by rw [eU3];exact blk_other kwU4 hwg)
     have khU3 : blk U3 hb = some #[.int .i64 h0,.int .i64 h1,.int .i64 h2]:=(by rw [eU3];exact blk_other khU4 hhg)
     have bU3 : Below B w U3:=(by rw [eU3];exact bU4.setCell (show B ≤ g from hg) _)
     rw [← eU3]
     clear eU3
     clear nU4 mU4 fU4 g0U4 g1U4 g2U4 w0U4 w1U4 w2U4
     have nU3:=kn kcU3
     have mU3:=kn khU3
     have fU3:=(kn kgU3).2.1
     have g0U3 : U3.cell? ⟨g,0,none⟩ = some (.int .i64 (d0)):=blk_cellI (M:=[d0,min 1099511627776 (d1 + M1),0]) (k:=0) rfl kgU3
     have g1U3 : U3.cell? ⟨g,1,none⟩ = some (.int .i64 (min 1099511627776 (d1 + M1))):=blk_cellI (M:=[d0,min 1099511627776 (d1 + M1),0]) (k:=1) rfl kgU3
     have g2U3 : U3.cell? ⟨g,2,none⟩ = some (.int .i64 (0)):=blk_cellI (M:=[d0,min 1099511627776 (d1 + M1),0]) (k:=2) rfl kgU3
     have w0U3 : U3.cell? ⟨gw,0,none⟩ = some (.int .i64 w0):=blk_cellI (M:=[w0,w1,w2]) (k:=0) rfl kwU3
     have w1U3 : U3.cell? ⟨gw,1,none⟩ = some (.int .i64 w1):=blk_cellI (M:=[w0,w1,w2]) (k:=1) rfl kwU3
     have w2U3 : U3.cell? ⟨gw,2,none⟩ = some (.int .i64 w2):=blk_cellI (M:=[w0,w1,w2]) (k:=2) rfl kwU3
     go_roundw
     case rel => exact ⟨k + 1,m,[d0,min 1099511627776 (d1 + M1),0],1,by go_num,by omega,bU3,Lib.hid ⟨HX2.out,HM2.out,kcU3,kgU3,kwU3,khU3⟩⟩
     case measure => simp [intOf];omega
   ·have x1 : (h2 == 0) = false:=by simpa using z2
    by_cases z9 : h2 ≤ d2
    ·have x2 : decide (h2 ≤ d2) = true:=decide_eq_true z9
     have hst : stopD ⟨[w0,w1,w2],[d0,d1,d2],q,2⟩ [h0,h1,h2] = true:=by simp [stopD,at3];omega
     have HS:=Lib.hid (show serveD fuelD X0 [h0,h1,h2] = ⟨[w0,w1,w2],[d0,d1,d2],q,2⟩ by rw [← HM.out.1,stop_serve hst])
     clear hst
     go_upto_region 5 with fail
     refine wp_region_in (by kernel_rfl) (by kernel_rfl) ?_
     intro W0 hE hN
     have k1 : blk W0 c = some #[.slice (some ⟨gw,0,none⟩) 3 cw,.int .i64 q,.slice (some ⟨g,0,none⟩) 3 cd,.int .i64 2]:=(by rw [hE.out];exact kcwr)
     have k2 : blk W0 g = some (rowC ic [d0,d1,d2] ++ sp).toArray:=(by rw [hE.out];exact kgwr)
     have k3 : blk W0 gw = some (rowC ic [w0,w1,w2] ++ spw).toArray:=(by rw [hE.out];exact kwwr)
     have k4 : blk W0 hb = some #[.int .i64 h0,.int .i64 h1,.int .i64 h2]:=(by rw [hE.out];exact khwr)
     have k5 : Below B w W0:=(by rw [hE.out];exact bwr)
     clear hE
     clear nwr mwr fwr g0wr g1wr g2wr w0wr w1wr w2wr
     clear kcwr kgwr kwwr khwr bwr
     have q1:=calm_kn k1
     have q4:=calm_kn k4
     have r0 : ∀ X : Class (Calm W0),X.wd.cell? ⟨g,0,none⟩ = some (.int .i64 (d0)):=fun X => blk_cellI (M:=[d0,d1,d2]) (k:=0) rfl (blk_below X.ok k2)
     have s0 : ∀ X : Class (Calm W0),X.wd.cell? ⟨gw,0,none⟩ = some (.int .i64 w0):=fun X => blk_cellI (M:=[w0,w1,w2]) (k:=0) rfl (blk_below X.ok k3)
     have r1 : ∀ X : Class (Calm W0),X.wd.cell? ⟨g,1,none⟩ = some (.int .i64 (d1)):=fun X => blk_cellI (M:=[d0,d1,d2]) (k:=1) rfl (blk_below X.ok k2)
     have s1 : ∀ X : Class (Calm W0),X.wd.cell? ⟨gw,1,none⟩ = some (.int .i64 w1):=fun X => blk_cellI (M:=[w0,w1,w2]) (k:=1) rfl (blk_below X.ok k3)
     have r2 : ∀ X : Class (Calm W0),X.wd.cell? ⟨g,2,none⟩ = some (.int .i64 (d2)):=fun X => blk_cellI (M:=[d0,d1,d2]) (k:=2) rfl (blk_below X.ok k2)
     have s2 : ∀ X : Class (Calm W0),X.wd.cell? ⟨gw,2,none⟩ = some (.int .i64 w2):=fun X => blk_cellI (M:=[w0,w1,w2]) (k:=2) rfl (blk_below X.ok k3)
     repeat (go_big_quiet_step (fail))
     refine wpQuiet_nil ?_
     rintro _ ⟨x',rfl⟩
     have kcU1:=blk_below x'.ok k1
     have kgU1:=blk_below x'.ok k2
     have kwU1:=blk_below x'.ok k3
     have khU1:=blk_below x'.ok k4
     have bU1 : Below B w x'.wd:=k5.trans (x'.ok.mono (Nat.le_trans hBw' k5.size))
     obtain ⟨U1,hu⟩ : ∃ u,u = x'.wd:=⟨_,rfl⟩
     rw [← hu] at kcU1 kgU1 kwU1 khU1 bU1 ⊢
     clear hu x' hN q1 q4 r0 r1 r2 s0 s1 s2 k1 k2 k3 k4 k5
     have nU1:=kn kcU1
     have mU1:=kn khU1
     have fU1:=(kn kgU1).2.1
     have g0U1 : U1.cell? ⟨g,0,none⟩ = some (.int .i64 (d0)):=blk_cellI (M:=[d0,d1,d2]) (k:=0) rfl kgU1
     have g1U1 : U1.cell? ⟨g,1,none⟩ = some (.int .i64 (d1)):=blk_cellI (M:=[d0,d1,d2]) (k:=1) rfl kgU1
     have g2U1 : U1.cell? ⟨g,2,none⟩ = some (.int .i64 (d2)):=blk_cellI (M:=[d0,d1,d2]) (k:=2) rfl kgU1
     have w0U1 : U1.cell? ⟨gw,0,none⟩ = some (.int .i64 w0):=blk_cellI (M:=[w0,w1,w2]) (k:=0) rfl kwU1
     have w1U1 : U1.cell? ⟨gw,1,none⟩ = some (.int .i64 w1):=blk_cellI (M:=[w0,w1,w2]) (k:=1) rfl kwU1
     have w2U1 : U1.cell? ⟨gw,2,none⟩ = some (.int .i64 w2):=blk_cellI (M:=[w0,w1,w2]) (k:=2) rfl kwU1
     have v9 : IntKind.i64.wrap (d2 - h2) = d2 - h2:=IntWalk.i64_in _ (by omega)
     go_upto_region 12 with fail
     refine wp_region_tail 18 (by kernel_rfl) (by kernel_rfl) ?_
     intro W0 hE hN
     have k1 : blk W0 c = some #[.slice (some ⟨gw,0,none⟩) 3 cw,.int .i64 q,.slice (some ⟨g,0,none⟩) 3 cd,.int .i64 2]:=(by rw [hE.out];exact kcU1)
     have k2 : blk W0 g = some (rowC ic [d0,d1,d2] ++ sp).toArray:=(by rw [hE.out];exact kgU1)
     have k3 : blk W0 gw = some (rowC ic [w0,w1,w2] ++ spw).toArray:=(by rw [hE.out];exact kwU1)
     have k4 : blk W0 hb = some #[.int .i64 h0,.int .i64 h1,.int .i64 h2]:=(by rw [hE.out];exact khU1)
     have k5 : Below B w W0:=(by rw [hE.out];exact bU1)
     clear hE
     clear nU1 mU1 fU1 g0U1 g1U1 g2U1 w0U1 w1U1 w2U1
     clear kcU1 kgU1 kwU1 khU1 bU1
     have q1:=calm_kn k1
     have q4:=calm_kn k4
     have r0 : ∀ X : Class (Calm W0),X.wd.cell? ⟨g,0,none⟩ = some (.int .i64 (d0)):=fun X => blk_cellI (M:=[d0,d1,d2]) (k:=0) rfl (blk_below X.ok k2)
     have s0 : ∀ X : Class (Calm W0),X.wd.cell? ⟨gw,0,none⟩ = some (.int .i64 w0):=fun X => blk_cellI (M:=[w0,w1,w2]) (k:=0) rfl (blk_below X.ok k3)
     have r1 : ∀ X : Class (Calm W0),X.wd.cell? ⟨g,1,none⟩ = some (.int .i64 (d1)):=fun X => blk_cellI (M:=[d0,d1,d2]) (k:=1) rfl (blk_below X.ok k2)
     have s1 : ∀ X : Class (Calm W0),X.wd.cell? ⟨gw,1,none⟩ = some (.int .i64 w1):=fun X => blk_cellI (M:=[w0,w1,w2]) (k:=1) rfl (blk_below X.ok k3)
     have r2 : ∀ X : Class (Calm W0),X.wd.cell? ⟨g,2,none⟩ = some (.int .i64 (d2)):=fun X => blk_cellI (M:=[d0,d1,d2]) (k:=2) rfl (blk_below X.ok k2)
     have s2 : ∀ X : Class (Calm W0),X.wd.cell? ⟨gw,2,none⟩ = some (.int .i64 w2):=fun X => blk_cellI (M:=[w0,w1,w2]) (k:=2) rfl (blk_below X.ok k3)
     simp only [List.take_succ_cons,List.take_zero,List.drop_succ_cons,List.drop_zero]
     repeat (go_big_quiet_step (fail))
     refine wpQuiet_nil ?_
     rintro _ ⟨x',rfl⟩
     have kcU2:=blk_below x'.ok k1
     have kgU2:=blk_below x'.ok k2
     have kwU2:=blk_below x'.ok k3
     have khU2:=blk_below x'.ok k4
     have bU2 : Below B w x'.wd:=k5.trans (x'.ok.mono (Nat.le_trans hBw' k5.size))
     obtain ⟨U2,hu⟩ : ∃ u,u = x'.wd:=⟨_,rfl⟩
     rw [← hu] at kcU2 kgU2 kwU2 khU2 bU2 ⊢
     clear hu x' hN q1 q4 r0 r1 r2 s0 s1 s2 k1 k2 k3 k4 k5
     have nU2:=kn kcU2
     have mU2:=kn khU2
     have fU2:=(kn kgU2).2.1
     have g0U2 : U2.cell? ⟨g,0,none⟩ = some (.int .i64 (d0)):=blk_cellI (M:=[d0,d1,d2]) (k:=0) rfl kgU2
     have g1U2 : U2.cell? ⟨g,1,none⟩ = some (.int .i64 (d1)):=blk_cellI (M:=[d0,d1,d2]) (k:=1) rfl kgU2
     have g2U2 : U2.cell? ⟨g,2,none⟩ = some (.int .i64 (d2)):=blk_cellI (M:=[d0,d1,d2]) (k:=2) rfl kgU2
     have w0U2 : U2.cell? ⟨gw,0,none⟩ = some (.int .i64 w0):=blk_cellI (M:=[w0,w1,w2]) (k:=0) rfl kwU2
     have w1U2 : U2.cell? ⟨gw,1,none⟩ = some (.int .i64 w1):=blk_cellI (M:=[w0,w1,w2]) (k:=1) rfl kwU2
     have w2U2 : U2.cell? ⟨gw,2,none⟩ = some (.int .i64 w2):=blk_cellI (M:=[w0,w1,w2]) (k:=2) rfl kwU2
     go_upto_region 13 with fail
     obtain ⟨U3,eU3⟩ : ∃ v,v = U2.setCell ⟨g,2,none⟩ (.int .i64 (d2 - h2)):=⟨_,rfl⟩
     have kcU3 : blk U3 c = some #[.slice (some ⟨gw,0,none⟩) 3 cw,.int .i64 q,.slice (some ⟨g,0,none⟩) 3 cd,.int .i64 2]:=(by rw [eU3];exact blk_other kcU2 hcg)
     have kgU3 : blk U3 g = some (rowC ic [d0,d1,d2 - h2] ++ sp).toArray:=(by rw [eU3];exact blk_setI (M:=[d0,d1,d2]) (k:=2) (x:=(d2)) rfl kgU2)
     have kwU3 : blk U3 gw = some (rowC ic [w0,w1,w2] ++ spw).toArray:=(by rw [eU3];exact blk_other kwU2 hwg)
     have khU3 : blk U3 hb = some #[.int .i64 h0,.int .i64 h1,.int .i64 h2]:=(by rw [eU3];exact blk_other khU2 hhg)
     have bU3 : Below B w U3:=(by rw [eU3];exact bU2.setCell (show B ≤ g from hg) _)
     rw [← eU3]
     clear eU3
     clear nU2 mU2 fU2 g0U2 g1U2 g2U2 w0U2 w1U2 w2U2
     have nU3:=kn kcU3
     have mU3:=kn khU3
     have fU3:=(kn kgU3).2.1
     have g0U3 : U3.cell? ⟨g,0,none⟩ = some (.int .i64 (d0)):=blk_cellI (M:=[d0,d1,d2 - h2]) (k:=0) rfl kgU3
     have g1U3 : U3.cell? ⟨g,1,none⟩ = some (.int .i64 (d1)):=blk_cellI (M:=[d0,d1,d2 - h2]) (k:=1) rfl kgU3
     have g2U3 : U3.cell? ⟨g,2,none⟩ = some (.int .i64 (d2 - h2)):=blk_cellI (M:=[d0,d1,d2 - h2]) (k:=2) rfl kgU3
     have w0U3 : U3.cell? ⟨gw,0,none⟩ = some (.int .i64 w0):=blk_cellI (M:=[w0,w1,w2]) (k:=0) rfl kwU3
     have w1U3 : U3.cell? ⟨gw,1,none⟩ = some (.int .i64 w1):=blk_cellI (M:=[w0,w1,w2]) (k:=1) rfl kwU3
     have w2U3 : U3.cell? ⟨gw,2,none⟩ = some (.int .i64 w2):=blk_cellI (M:=[w0,w1,w2]) (k:=2) rfl kwU3
     have EN:=Lib.hid (show nextD ⟨[w0,w1,w2],[a0,a1,a2],q,t0⟩ [h0,h1,h2] = (2,⟨[w0,w1,w2],[d0,d1,d2 - h2],q,2⟩) by rw [← hX0];unfold nextD;rw [HS.out];simp [takeD,at3])
     clear hX0 HS
     go_wp2
     (try rw [Exit.noGoto_ret])
     go_ret2
     exact ⟨k,by rw [EN.out];rfl,bU3,by rw [EN.out];exact kcU3,by rw [EN.out];exact kgU3,kwU3⟩
    ·have x2 : decide (h2 ≤ d2) = false:=decide_eq_false z9
     have hst : stopD ⟨[w0,w1,w2],[d0,d1,d2],q,2⟩ [h0,h1,h2] = false:=by simp [stopD,at3];omega
     go_upto_region 5 with fail
     refine wp_region_in (by kernel_rfl) (by kernel_rfl) ?_
     intro W0 hE hN
     have k1 : blk W0 c = some #[.slice (some ⟨gw,0,none⟩) 3 cw,.int .i64 q,.slice (some ⟨g,0,none⟩) 3 cd,.int .i64 2]:=(by rw [hE.out];exact kcwr)
     have k2 : blk W0 g = some (rowC ic [d0,d1,d2] ++ sp).toArray:=(by rw [hE.out];exact kgwr)
     have k3 : blk W0 gw = some (rowC ic [w0,w1,w2] ++ spw).toArray:=(by rw [hE.out];exact kwwr)
     have k4 : blk W0 hb = some #[.int .i64 h0,.int .i64 h1,.int .i64 h2]:=(by rw [hE.out];exact khwr)
     have k5 : Below B w W0:=(by rw [hE.out];exact bwr)
     clear hE
     clear nwr mwr fwr g0wr g1wr g2wr w0wr w1wr w2wr
     clear kcwr kgwr kwwr khwr bwr
     have q1:=calm_kn k1
     have q4:=calm_kn k4
     have r0 : ∀ X : Class (Calm W0),X.wd.cell? ⟨g,0,none⟩ = some (.int .i64 (d0)):=fun X => blk_cellI (M:=[d0,d1,d2]) (k:=0) rfl (blk_below X.ok k2)
     have s0 : ∀ X : Class (Calm W0),X.wd.cell? ⟨gw,0,none⟩ = some (.int .i64 w0):=fun X => blk_cellI (M:=[w0,w1,w2]) (k:=0) rfl (blk_below X.ok k3)
     have r1 : ∀ X : Class (Calm W0),X.wd.cell? ⟨g,1,none⟩ = some (.int .i64 (d1)):=fun X => blk_cellI (M:=[d0,d1,d2]) (k:=1) rfl (blk_below X.ok k2)
     have s1 : ∀ X : Class (Calm W0),X.wd.cell? ⟨gw,1,none⟩ = some (.int .i64 w1):=fun X => blk_cellI (M:=[w0,w1,w2]) (k:=1) rfl (blk_below X.ok k3)
     have r2 : ∀ X : Class (Calm W0),X.wd.cell? ⟨g,2,none⟩ = some (.int .i64 (d2)):=fun X => blk_cellI (M:=[d0,d1,d2]) (k:=2) rfl (blk_below X.ok k2)
     have s2 : ∀ X : Class (Calm W0),X.wd.cell? ⟨gw,2,none⟩ = some (.int .i64 w2):=fun X => blk_cellI (M:=[w0,w1,w2]) (k:=2) rfl (blk_below X.ok k3)
     repeat (go_big_quiet_step (fail))
     refine wpQuiet_nil ?_
     rintro _ ⟨x',rfl⟩
     have kcU1:=blk_below x'.ok k1
     have kgU1:=blk_below x'.ok k2
     have kwU1:=blk_below x'.ok k3
     have khU1:=blk_below x'.ok k4
     have bU1 : Below B w x'.wd:=k5.trans (x'.ok.mono (Nat.le_trans hBw' k5.size))
     obtain ⟨U1,hu⟩ : ∃ u,u = x'.wd:=⟨_,rfl⟩
     rw [← hu] at kcU1 kgU1 kwU1 khU1 bU1 ⊢
     clear hu x' hN q1 q4 r0 r1 r2 s0 s1 s2 k1 k2 k3 k4 k5
     have nU1:=kn kcU1
     have mU1:=kn khU1
     have fU1:=(kn kgU1).2.1
     have g0U1 : U1.cell? ⟨g,0,none⟩ = some (.int .i64 (d0)):=blk_cellI (M:=[d0,d1,d2]) (k:=0) rfl kgU1
     have g1U1 : U1.cell? ⟨g,1,none⟩ = some (.int .i64 (d1)):=blk_cellI (M:=[d0,d1,d2]) (k:=1) rfl kgU1
     have g2U1 : U1.cell? ⟨g,2,none⟩ = some (.int .i64 (d2)):=blk_cellI (M:=[d0,d1,d2]) (k:=2) rfl kgU1
     have w0U1 : U1.cell? ⟨gw,0,none⟩ = some (.int .i64 w0):=blk_cellI (M:=[w0,w1,w2]) (k:=0) rfl kwU1
     have w1U1 : U1.cell? ⟨gw,1,none⟩ = some (.int .i64 w1):=blk_cellI (M:=[w0,w1,w2]) (k:=1) rfl kwU1
     have w2U1 : U1.cell? ⟨gw,2,none⟩ = some (.int .i64 w2):=blk_cellI (M:=[w0,w1,w2]) (k:=2) rfl kwU1
     go_upto_region 8 with fail
     obtain ⟨U2,eU2⟩ : ∃ v,v = U1.setCell ⟨c,3,none⟩ (.int .i64 1):=⟨_,rfl⟩
     have kcU2 : blk U2 c = some #[.slice (some ⟨gw,0,none⟩) 3 cw,.int .i64 q,.slice (some ⟨g,0,none⟩) 3 cd,.int .i64 1]:=(by rw [eU2];exact blk_set kcU1)
     have kgU2 : blk U2 g = some (rowC ic [d0,d1,d2] ++ sp).toArray:=(by rw [eU2];exact blk_other kgU1 hgc)
     have kwU2 : blk U2 gw = some (rowC ic [w0,w1,w2] ++ spw).toArray:=(by rw [eU2];exact blk_other kwU1 hwc)
     have khU2 : blk U2 hb = some #[.int .i64 h0,.int .i64 h1,.int .i64 h2]:=(by rw [eU2];exact blk_other khU1 hhc)
     have bU2 : Below B w U2:=(by rw [eU2];exact bU1.setCell (show B ≤ c from hc) _)
     rw [← eU2]
     clear eU2
     clear nU1 mU1 fU1 g0U1 g1U1 g2U1 w0U1 w1U1 w2U1
     have nU2:=kn kcU2
     have mU2:=kn khU2
     have fU2:=(kn kgU2).2.1
     have g0U2 : U2.cell? ⟨g,0,none⟩ = some (.int .i64 (d0)):=blk_cellI (M:=[d0,d1,d2]) (k:=0) rfl kgU2
     have g1U2 : U2.cell? ⟨g,1,none⟩ = some (.int .i64 (d1)):=blk_cellI (M:=[d0,d1,d2]) (k:=1) rfl kgU2
     have g2U2 : U2.cell? ⟨g,2,none⟩ = some (.int .i64 (d2)):=blk_cellI (M:=[d0,d1,d2]) (k:=2) rfl kgU2
     have w0U2 : U2.cell? ⟨gw,0,none⟩ = some (.int .i64 w0):=blk_cellI (M:=[w0,w1,w2]) (k:=0) rfl kwU2
     have w1U2 : U2.cell? ⟨gw,1,none⟩ = some (.int .i64 w1):=blk_cellI (M:=[w0,w1,w2]) (k:=1) rfl kwU2
     have w2U2 : U2.cell? ⟨gw,2,none⟩ = some (.int .i64 w2):=blk_cellI (M:=[w0,w1,w2]) (k:=2) rfl kwU2
     by_cases z1 : h1 = 0
     ·have y1 : (h1 == 0) = true:=by simp [z1]
      have e1 : True:=trivial
      have ep : passD ⟨[w0,w1,w2],[d0,d1,d2],q,2⟩ [h0,h1,h2] = ⟨[w0,w1,w2],[d0,0,d2],q,1⟩:=by simp [passD,at3,z2,z1,e1]
      have hx2 : okD ⟨[w0,w1,w2],[d0,0,d2],q,1⟩:=(by rw [← ep];exact okD_pass HX.out)
      have HX2:=Lib.hid hx2
      clear hx2
      have HM2 : Hid (serveD m ⟨[w0,w1,w2],[d0,0,d2],q,1⟩ [h0,h1,h2] = serveD fuelD X0 [h0,h1,h2] ∧ muD ⟨[w0,w1,w2],[d0,0,d2],q,1⟩ [h0,h1,h2] p < m):=Lib.hid (by
       have h9:=muD_pass HX.out rfl hp HPP.out hst
       rw [ep] at h9
       have h8:=HM.out.1
       rw [pass_serve hst,ep] at h8
       exact ⟨h8,by have:=HM.out.2;omega⟩)
      clear ep hst
      clear z1 e1
      go_wp2
      obtain ⟨U3,eU3⟩ : ∃ v,v = U2.setCell ⟨g,1,none⟩ (.int .i64 (0)):=⟨_,rfl⟩
      have kcU3 : blk U3 c = some #[.slice (some ⟨gw,0,none⟩) 3 cw,.int .i64 q,.slice (some ⟨g,0,none⟩) 3 cd,.int .i64 1]:=(by rw [eU3];exact blk_other kcU2 hcg)
      have kgU3 : blk U3 g = some (rowC ic [d0,0,d2] ++ sp).toArray:=(by rw [eU3];exact blk_setI (M:=[d0,d1,d2]) (k:=1) (x:=(d1)) rfl kgU2)
      have kwU3 : blk U3 gw = some (rowC ic [w0,w1,w2] ++ spw).toArray:=(by rw [eU3];exact blk_other kwU2 hwg)
      have khU3 : blk U3 hb = some #[.int .i64 h0,.int .i64 h1,.int .i64 h2]:=(by rw [eU3];exact blk_other khU2 hhg)
      have bU3 : Below B w U3:=(by rw [eU3];exact bU2.setCell (show B ≤ g from hg) _)
      rw [← eU3]
      clear eU3
      clear nU2 mU2 fU2 g0U2 g1U2 g2U2 w0U2 w1U2 w2U2
      have nU3:=kn kcU3
      have mU3:=kn khU3
      have fU3:=(kn kgU3).2.1
      have g0U3 : U3.cell? ⟨g,0,none⟩ = some (.int .i64 (d0)):=blk_cellI (M:=[d0,0,d2]) (k:=0) rfl kgU3
      have g1U3 : U3.cell? ⟨g,1,none⟩ = some (.int .i64 (0)):=blk_cellI (M:=[d0,0,d2]) (k:=1) rfl kgU3
      have g2U3 : U3.cell? ⟨g,2,none⟩ = some (.int .i64 (d2)):=blk_cellI (M:=[d0,0,d2]) (k:=2) rfl kgU3
      have w0U3 : U3.cell? ⟨gw,0,none⟩ = some (.int .i64 w0):=blk_cellI (M:=[w0,w1,w2]) (k:=0) rfl kwU3
      have w1U3 : U3.cell? ⟨gw,1,none⟩ = some (.int .i64 w1):=blk_cellI (M:=[w0,w1,w2]) (k:=1) rfl kwU3
      have w2U3 : U3.cell? ⟨gw,2,none⟩ = some (.int .i64 w2):=blk_cellI (M:=[w0,w1,w2]) (k:=2) rfl kwU3
      go_roundw
      case rel => exact ⟨k + 1,m,[d0,0,d2],1,by go_num,by omega,bU3,Lib.hid ⟨HX2.out,HM2.out,kcU3,kgU3,kwU3,khU3⟩⟩
      case measure => simp [intOf];omega
     ·have y1 : (h1 == 0) = false:=by simpa using z1
      have e1 : w1 * q = M1:=HMM1.out
      have ep : passD ⟨[w0,w1,w2],[d0,d1,d2],q,2⟩ [h0,h1,h2] = ⟨[w0,w1,w2],[d0,min 1099511627776 (d1 + M1),d2],q,1⟩:=by simp [passD,at3,z2,z1,e1]
      have hx2 : okD ⟨[w0,w1,w2],[d0,min 1099511627776 (d1 + M1),d2],q,1⟩:=(by rw [← ep];exact okD_pass HX.out)
      have HX2:=Lib.hid hx2
      clear hx2
      have HM2 : Hid (serveD m ⟨[w0,w1,w2],[d0,min 1099511627776 (d1 + M1),d2],q,1⟩ [h0,h1,h2] = serveD fuelD X0 [h0,h1,h2] ∧ muD ⟨[w0,w1,w2],[d0,min 1099511627776 (d1 + M1),d2],q,1⟩ [h0,h1,h2] p < m):=Lib.hid (by
       have h9:=muD_pass HX.out rfl hp HPP.out hst
       rw [ep] at h9
       have h8:=HM.out.1
       rw [pass_serve hst,ep] at h8
       exact ⟨h8,by have:=HM.out.2;omega⟩)
      clear ep hst
      clear z1
      have v1 : IntKind.i64.wrap M1 = M1:=IntWalk.i64_in _ (by omega)
      have v1' : IntKind.i64.wrap (d1 + M1) = d1 + M1:=IntWalk.i64_in _ (by omega)
      go_upto_region 11 with fail
      refine wp_region_tail 27 (by kernel_rfl) (by kernel_rfl) ?_
      intro W0 hE hN
      have k1 : blk W0 c = some #[.slice (some ⟨gw,0,none⟩) 3 cw,.int .i64 q,.slice (some ⟨g,0,none⟩) 3 cd,.int .i64 1]:=(by rw [hE.out];exact kcU2)
      have k2 : blk W0 g = some (rowC ic [d0,d1,d2] ++ sp).toArray:=(by rw [hE.out];exact kgU2)
      have k3 : blk W0 gw = some (rowC ic [w0,w1,w2] ++ spw).toArray:=(by rw [hE.out];exact kwU2)
      have k4 : blk W0 hb = some #[.int .i64 h0,.int .i64 h1,.int .i64 h2]:=(by rw [hE.out];exact khU2)
      have k5 : Below B w W0:=(by rw [hE.out];exact bU2)
      clear hE
      clear nU2 mU2 fU2 g0U2 g1U2 g2U2 w0U2 w1U2 w2U2
      clear kcU2 kgU2 kwU2 khU2 bU2
      have q1:=calm_kn k1
      have q4:=calm_kn k4
      have r0 : ∀ X : Class (Calm W0),X.wd.cell? ⟨g,0,none⟩ = some (.int .i64 (d0)):=fun X => blk_cellI (M:=[d0,d1,d2]) (k:=0) rfl (blk_below X.ok k2)
      have s0 : ∀ X : Class (Calm W0),X.wd.cell? ⟨gw,0,none⟩ = some (.int .i64 w0):=fun X => blk_cellI (M:=[w0,w1,w2]) (k:=0) rfl (blk_below X.ok k3)
      have r1 : ∀ X : Class (Calm W0),X.wd.cell? ⟨g,1,none⟩ = some (.int .i64 (d1)):=fun X => blk_cellI (M:=[d0,d1,d2]) (k:=1) rfl (blk_below X.ok k2)
      have s1 : ∀ X : Class (Calm W0),X.wd.cell? ⟨gw,1,none⟩ = some (.int .i64 w1):=fun X => blk_cellI (M:=[w0,w1,w2]) (k:=1) rfl (blk_below X.ok k3)
      have r2 : ∀ X : Class (Calm W0),X.wd.cell? ⟨g,2,none⟩ = some (.int .i64 (d2)):=fun X => blk_cellI (M:=[d0,d1,d2]) (k:=2) rfl (blk_below X.ok k2)
      have s2 : ∀ X : Class (Calm W0),X.wd.cell? ⟨gw,2,none⟩ = some (.int .i64 w2):=fun X => blk_cellI (M:=[w0,w1,w2]) (k:=2) rfl (blk_below X.ok k3)
      simp only [List.take_succ_cons,List.take_zero,List.drop_succ_cons,List.drop_zero]
      repeat (go_big_quiet_step (fail))
      refine wpQuiet_nil ?_
      rintro _ ⟨x',rfl⟩
      have kcU4:=blk_below x'.ok k1
      have kgU4:=blk_below x'.ok k2
      have kwU4:=blk_below x'.ok k3
      have khU4:=blk_below x'.ok k4
      have bU4 : Below B w x'.wd:=k5.trans (x'.ok.mono (Nat.le_trans hBw' k5.size))
      obtain ⟨U4,hu⟩ : ∃ u,u = x'.wd:=⟨_,rfl⟩
      rw [← hu] at kcU4 kgU4 kwU4 khU4 bU4 ⊢
      clear hu x' hN q1 q4 r0 r1 r2 s0 s1 s2 k1 k2 k3 k4 k5
      have nU4:=kn kcU4
      have mU4:=kn khU4
      have fU4:=(kn kgU4).2.1
      have g0U4 : U4.cell? ⟨g,0,none⟩ = some (.int .i64 (d0)):=blk_cellI (M:=[d0,d1,d2]) (k:=0) rfl kgU4
      have g1U4 : U4.cell? ⟨g,1,none⟩ = some (.int .i64 (d1)):=blk_cellI (M:=[d0,d1,d2]) (k:=1) rfl kgU4
      have g2U4 : U4.cell? ⟨g,2,none⟩ = some (.int .i64 (d2)):=blk_cellI (M:=[d0,d1,d2]) (k:=2) rfl kgU4
      have w0U4 : U4.cell? ⟨gw,0,none⟩ = some (.int .i64 w0):=blk_cellI (M:=[w0,w1,w2]) (k:=0) rfl kwU4
      have w1U4 : U4.cell? ⟨gw,1,none⟩ = some (.int .i64 w1):=blk_cellI (M:=[w0,w1,w2]) (k:=1) rfl kwU4
      have w2U4 : U4.cell? ⟨gw,2,none⟩ = some (.int .i64 w2):=blk_cellI (M:=[w0,w1,w2]) (k:=2) rfl kwU4
      go_wp2
      obtain ⟨U3,eU3⟩ : ∃ v,v = U4.setCell ⟨g,1,none⟩ (.int .i64 (min 1099511627776 (d1 + M1))):=⟨_,rfl⟩
      have kcU3 : blk U3 c = some #[.slice (some ⟨gw,0,none⟩) 3 cw,.int .i64 q,.slice (some ⟨g,0,none⟩) 3 cd,.int .i64 1]:=(by rw [eU3];exact blk_other kcU4 hcg)
      have kgU3 : blk U3 g = some (rowC ic [d0,min 1099511627776 (d1 + M1),d2] ++ sp).toArray:=(by rw [eU3];exact blk_setI (M:=[d0,d1,d2]) (k:=1) (x:=(d1)) rfl kgU4)
      have kwU3 : blk U3 gw = some (rowC ic [w0,w1,w2] ++ spw).toArray:=(by rw [eU3];exact blk_other kwU4 hwg)
      have khU3 : blk U3 hb = some #[.int .i64 h0,.int .i64 h1,.int .i64 h2]:=(by rw [eU3];exact blk_other khU4 hhg)
      have bU3 : Below B w U3:=(by rw [eU3];exact bU4.setCell (show B ≤ g from hg) _)
      rw [← eU3]
      clear eU3
      clear nU4 mU4 fU4 g0U4 g1U4 g2U4 w0U4 w1U4 w2U4
      have nU3:=kn kcU3
      have mU3:=kn khU3
      have fU3:=(kn kgU3).2.1
      have g0U3 : U3.cell? ⟨g,0,none⟩ = some (.int .i64 (d0)):=blk_cellI (M:=[d0,min 1099511627776 (d1 + M1),d2]) (k:=0) rfl kgU3
      have g1U3 : U3.cell? ⟨g,1,none⟩ = some (.int .i64 (min 1099511627776 (d1 + M1))):=blk_cellI (M:=[d0,min 1099511627776 (d1 + M1),d2]) (k:=1) rfl kgU3
      have g2U3 : U3.cell? ⟨g,2,none⟩ = some (.int .i64 (d2)):=blk_cellI (M:=[d0,min 1099511627776 (d1 + M1),d2]) (k:=2) rfl kgU3
      have w0U3 : U3.cell? ⟨gw,0,none⟩ = some (.int .i64 w0):=blk_cellI (M:=[w0,w1,w2]) (k:=0) rfl kwU3
      have w1U3 : U3.cell? ⟨gw,1,none⟩ = some (.int .i64 w1):=blk_cellI (M:=[w0,w1,w2]) (k:=1) rfl kwU3
      have w2U3 : U3.cell? ⟨gw,2,none⟩ = some (.int .i64 w2):=blk_cellI (M:=[w0,w1,w2]) (k:=2) rfl kwU3
      go_roundw
      case rel => exact ⟨k + 1,m,[d0,min 1099511627776 (d1 + M1),d2],1,by go_num,by omega,bU3,Lib.hid ⟨HX2.out,HM2.out,kcU3,kgU3,kwU3,khU3⟩⟩
      case measure => simp [intOf];omega
theorem arrAt3 (ad : Addr) (c : Nat) (w : World) : Sem.run Tryd.prog (Instr.arrayAt 45 (.slice (some ad) 3 c)) w = .ok (.pointer (some ad)) w:=by kernel_rfl
def RetX (x : Rr) (h : List Int) (w : World) (e : Ending) (w' : World) : Prop :=
  Below w.heap.size w w' ∧ (linD x h ≠ 0 ∧ e = .returned (.tuple #[.int .i64 0,.agg #[.slice none 0 0,.int .i64 0,.slice none 0 0,.int .i64 0],.int .i64 (linD x h)]) ∨
    linD x h = 0 ∧ ∃ a1 c1 a2 c2,e = .returned (.tuple #[.int .i64 (nextD x h).1,.agg #[.slice a1 3 c1,.int .i64 x.q,.slice a2 3 c2,.int .i64 (nextD x h).2.t],.int .i64 0]) ∧ SRow ic 1 w' a1 c1 x.w ∧ SRow ic 1 w' a2 c2 (nextD x h).2.d ∧ upR w.heap.size a1 ∧ upR w.heap.size a2)
set_option maxHeartbeats 3200000 in
theorem next_bad (aw : Option Addr) (cw : Nat) (ad : Option Addr) (cd : Nat) (x : Rr) (ah : Option Addr) (ch : Nat) (h : List Int) (w : World) (hw : SRow ic 1 w aw cw x.w) (hd : SRow ic 1 w ad cd x.d) (hh : SRow ic 1 w ah ch h) (hb : linD x h ≠ 0) :
    Calls Tryd.prog 62 #[.agg #[.slice aw x.w.length cw,.int .i64 x.q,.slice ad x.d.length cd,.int .i64 x.t],.slice ah h.length ch] w fun e w' => RetX x h w e w':=by
  have G:=Lib.hid (fun W (hB : Below w.heap.size w W) => lined_any aw cw ad cd x ah ch h W (hw.below hB) (hd.below hB) (hh.below hB))
  have hR : ∀ W',Below w.heap.size w W' → RetX x h w (.returned (.tuple #[.int .i64 0,.agg #[.slice none 0 0,.int .i64 0,.slice none 0 0,.int .i64 0],.int .i64 (linD x h)])) W':=fun W' hB => ⟨hB,.inl ⟨hb,rfl⟩⟩
  have HR:=Lib.hid hR
  clear hR hw hd hh
  obtain ⟨c,hc⟩ : ∃ c,linD x h = c:=⟨_,rfl⟩
  rw [hc] at G hb HR
  have t1 : (c != 0) = true:=by simpa using hb
  have L8 : w.heap.size ≤ w.heap.size + 1:=Nat.le_succ _
  clear hc hb
  go_enter Tryd.func62,Tryd.ntmps62
  go_wp2_with (go_at_call 79;(with_reducible refine (G.out _ (by (repeat(first|(with_reducible first|assumption|exact Below.refl _ _|refine je ?_|refine jl ?_)|((with_reducible refine jp ?_ ?_);first|focus(dsimp only;assumption)|focus(simp;done)|focus(dsimp only;omega))|(with_reducible refine bt ?_ (by assumption)))))).mono ?_);rintro e w2 ⟨rfl,h2⟩;(have b2 : Below w.heap.size w w2:=by (repeat(first|(with_reducible first|assumption|exact Below.refl _ _|refine je ?_|refine jl ?_)|((with_reducible refine jp ?_ ?_);first|focus(dsimp only;assumption)|focus(simp;done)|focus(dsimp only;omega))|(with_reducible refine bt ?_ (by assumption)))));(have k2 : blk w2 (w.heap.size + 1) = some #[.slice none 0 0,.int .i64 0,.slice none 0 0,.int .i64 0]:=blk_below h2 (blk_alloc_new _ _ _ (by simp)));(have n2:=kn k2);clear h2)
  refine ret_blk (b:=w.heap.size + 1) (c:=#[.slice none 0 0,.int .i64 0,.slice none 0 0,.int .i64 0]) (v:=.tuple #[.int .i64 0,.agg #[.slice none 0 0,.int .i64 0,.slice none 0 0,.int .i64 0],.int .i64 c]) (by have h9:=blk_set (i:=3) (v:=.int .i64 0) (blk_set (i:=2) (v:=.slice none 0 0) (blk_set (i:=1) (v:=.int .i64 0) (blk_set (i:=0) (v:=.slice none 0 0) k2)));exact h9) (fun W' hc => by simp [results,Tryd.results62,go_sem,hc]) rfl (HR.out _ ?_)
  exact (((b2.setCell L8 _).setCell L8 _).setCell L8 _).setCell L8 _
set_option maxHeartbeats 3200000 in
theorem next_ok (aw : Option Addr) (cw : Nat) (ad : Option Addr) (cd : Nat) (w0 w1 w2 d0 d1 d2 q t h0 h1 h2 : Int) (ah : Option Addr) (ch : Nat) (w : World) (hw : SRow ic 1 w aw cw [w0,w1,w2]) (hd : SRow ic 1 w ad cd [d0,d1,d2]) (hh : SRow ic 1 w ah ch [h0,h1,h2])
    (hb : linD ⟨[w0,w1,w2],[d0,d1,d2],q,t⟩ [h0,h1,h2] = 0) :
    Calls Tryd.prog 62 #[.agg #[.slice aw 3 cw,.int .i64 q,.slice ad 3 cd,.int .i64 t],.slice ah 3 ch] w fun e w' => RetX ⟨[w0,w1,w2],[d0,d1,d2],q,t⟩ [h0,h1,h2] w e w':=by
  have G:=Lib.hid (fun W (hB : Below w.heap.size w W) => (show Calls Tryd.prog 79 #[.agg #[.slice aw 3 cw,.int .i64 q,.slice ad 3 cd,.int .i64 t],.slice ah 3 ch] W fun e w' => e = .returned (.int .i64 0) ∧ Below W.heap.size W w' from by
    have h9:=lined_any aw cw ad cd ⟨[w0,w1,w2],[d0,d1,d2],q,t⟩ ah ch [h0,h1,h2] W (hw.below hB) (hd.below hB) (hh.below hB)
    rw [hb] at h9
    exact h9))
  have GC:=Lib.hid (fun W (hB : Below w.heap.size w W) => (show Calls Tryd.prog 80 #[.agg #[.slice aw 3 cw,.int .i64 q,.slice ad 3 cd,.int .i64 t]] W fun e w' => ∃ a1 c1 a2 c2,e = .returned (.agg #[.slice a1 3 c1,.int .i64 q,.slice a2 3 c2,.int .i64 t]) ∧ w'.ownsRow W.heap.size 3 1 (.slice a1 3 c1) 3 (rowC ic [w0,w1,w2]) ∧
      (∃ m,W.heap.size ≤ m ∧ (∀ k,(Value.slice a1 3 c1).ownBlock = some k → k < m) ∧ w'.ownsRow m 3 1 (.slice a2 3 c2) 3 (rowC ic [d0,d1,d2])) ∧ Below W.heap.size W w' from dclone_any aw cw ad cd [w0,w1,w2] [d0,d1,d2] q t (by simp) (by simp) W (hw.below hB) (hd.below hB)))
  obtain ⟨hx,hk,hn⟩:=linD_zero hb
  obtain ⟨bh,oh,rfl,lh,rh⟩:=hh.2.2.2 (by simp)
  have ch0 : w.rangeAt bh oh [.int .i64 h0,.int .i64 h1,.int .i64 h2]:=by
    intro j v hj
    have hl : j < 3:=(List.getElem?_eq_some_iff.1 hj).1
    match j,hl with
    | 0,_ => cases hj;exact (srow_cellE hh (j:=0) (by simp)).2
    | 1,_ => cases hj;exact (srow_cellE hh (j:=1) (by simp)).2
    | 2,_ => cases hj;exact (srow_cellE hh (j:=2) (by simp)).2
  have hsl:=hh.1
  have HX:=Lib.hid hx;have HK:=Lib.hid hk;have HN:=Lib.hid hn;have HBZ:=Lib.hid hb;have CH:=Lib.hid ch0
  clear hb hw hd hh hx hk hn rh ch0
  have t1 : ((0 : Int) != 0) = false:=rfl
  have L8 : w.heap.size ≤ w.heap.size + 1:=Nat.le_succ _
  go_enter Tryd.func62,Tryd.ntmps62
  go_upto_region 5 with (first
    | (go_at_call 79;(with_reducible refine (G.out _ (by (repeat(first|(with_reducible first|assumption|exact Below.refl _ _|refine je ?_|refine jl ?_)|((with_reducible refine jp ?_ ?_);first|focus(dsimp only;assumption)|focus(simp;done)|focus(dsimp only;omega))|(with_reducible refine bt ?_ (by assumption)))))).mono ?_);rintro e u2 ⟨rfl,h2e⟩;(have b2 : Below w.heap.size w u2:=by (repeat(first|(with_reducible first|assumption|exact Below.refl _ _|refine je ?_|refine jl ?_)|((with_reducible refine jp ?_ ?_);first|focus(dsimp only;assumption)|focus(simp;done)|focus(dsimp only;omega))|(with_reducible refine bt ?_ (by assumption)))));(have k2 : blk u2 (w.heap.size + 1) = some #[.slice none 0 0,.int .i64 0,.slice none 0 0,.int .i64 0]:=blk_below h2e (blk_alloc_new _ _ _ (by simp)));(have k3 : blk u2 w.heap.size = some #[.slice aw 3 cw,.int .i64 q,.slice ad 3 cd,.int .i64 t]:=blk_below h2e (blk_alloc (blk_alloc_new _ _ _ rfl) _));(have n2:=kn k2);(have n3:=kn k3);(have s2 : w.heap.size + 2 ≤ u2.heap.size:=blk_lt k2);clear h2e)
    | (go_at_call 80;(with_reducible refine (GC.out _ b2).mono ?_);rintro e u3 ⟨a1,c1,a2,c2,rfl,ho1,⟨mm,hm1,hm2,ho2⟩,h3⟩;(have b3:=bt b2 h3);(have k4:=blk_below h3 k2);(have n4:=kn k4);clear n2 n3 k2 k3))
  obtain ⟨V,hV⟩ : ∃ V,V = u3.alloc (.cells #[.slice a1 3 c1,.int .i64 q,.slice a2 3 c2,.int .i64 t] 26):=⟨_,rfl⟩
  obtain ⟨c,hc⟩ : ∃ c,c = u3.heap.size:=⟨_,rfl⟩
  have kV : blk V c = some #[.slice a1 3 c1,.int .i64 q,.slice a2 3 c2,.int .i64 t]:=by rw [hV,hc];exact blk_alloc_new _ _ _ rfl
  have zV : blk V (w.heap.size + 1) = some #[.slice none 0 0,.int .i64 0,.slice none 0 0,.int .i64 0]:=by rw [hV];exact blk_alloc k4 _
  have bV : Below w.heap.size w V:=by rw [hV];exact b3.alloc b3.size _
  have s3:=b2.size
  have cB : w.heap.size ≤ c:=by rw [hc];exact b3.size
  have zc : w.heap.size + 1 < c:=by rw [hc];exact blk_lt k4
  rw [← hV,← hc]
  have o1V:=Lib.hid (by rw [hV];exact ho1.alloc _ : World.ownsRow V u2.heap.size 3 1 (.slice a1 3 c1) 3 (rowC ic [w0,w1,w2]))
  have o2V:=Lib.hid (by rw [hV];exact ho2.alloc _ : World.ownsRow V mm 3 1 (.slice a2 3 c2) 3 (rowC ic [d0,d1,d2]))
  have l1 : ∀ k,(Value.slice a1 3 c1).ownBlock = some k → u2.heap.size ≤ k ∧ k < c:=fun k e => by rw [hc];exact ho1.lt k e
  have l2 : ∀ k,(Value.slice a2 3 c2).ownBlock = some k → mm ≤ k ∧ k < c:=fun k e => by rw [hc];exact ho2.lt k e
  clear hV ho1 ho2 h3 n4 k4 b3 hc
  rcases o1V.out.2 with ⟨e,_⟩|⟨g1,cc1,cur1,e,hg1b,hg1,cl1,cm1,cs1,ct1⟩
  · cases e
  rcases o2V.out.2 with ⟨e2,_⟩|⟨g2,cc2,cur2,e2,hg2b,hg2,cl2,cm2,cs2,ct2⟩
  · cases e2
  cases e
  cases e2
  have L1:=l1 g1 rfl
  have L2:=l2 g2 rfl
  have M1:=hm2 g1 rfl
  clear l1 l2 hm2
  obtain ⟨sp1,hs1⟩ : ∃ sp,sp = cur1.toList.drop (3 * 1):=⟨_,rfl⟩
  obtain ⟨sp2,hs2⟩ : ∃ sp,sp = cur2.toList.drop (3 * 1):=⟨_,rfl⟩
  have kg1 : blk V g1 = some (rowC ic [w0,w1,w2] ++ sp1).toArray:=by rw [blk_of hg1,hs1,← ct1,List.take_append_drop]
  have kg2 : blk V g2 = some (rowC ic [d0,d1,d2] ++ sp2).toArray:=by rw [blk_of hg2,hs2,← ct2,List.take_append_drop]
  have aa:=arrAt3
  refine wp_region_tail0 2 ?_
  intro W0 hE hN
  have r1 : blk W0 c = some #[.slice (some ⟨g1,0,none⟩) 3 c1,.int .i64 q,.slice (some ⟨g2,0,none⟩) 3 c2,.int .i64 t]:=(by rw [hE.out];exact kV)
  have r2 : blk W0 g1 = some (rowC ic [w0,w1,w2] ++ sp1).toArray:=(by rw [hE.out];exact kg1)
  have r3 : blk W0 g2 = some (rowC ic [d0,d1,d2] ++ sp2).toArray:=(by rw [hE.out];exact kg2)
  have r4 : blk W0 (w.heap.size + 1) = some #[.slice none 0 0,.int .i64 0,.slice none 0 0,.int .i64 0]:=(by rw [hE.out];exact zV)
  have r5 : Below w.heap.size w W0:=(by rw [hE.out];exact bV)
  clear hE kV kg1 kg2 zV bV hg1 hg2 cs1 cs2 ct1 ct2 hs1 hs2 o1V o2V
  simp only [List.take_succ_cons,List.take_zero,List.drop_succ_cons,List.drop_zero]
  repeat (go_big_quiet_step (fail))
  refine wpQuiet_nil ?_
  rintro _ ⟨x',rfl⟩
  have kV:=blk_below x'.ok r1
  have kg1:=blk_below x'.ok r2
  have kg2:=blk_below x'.ok r3
  have zV:=blk_below x'.ok r4
  have bV:=bt r5 x'.ok
  obtain ⟨u,hu⟩ : ∃ u,u = x'.wd:=⟨_,rfl⟩
  rw [← hu] at kV kg1 kg2 zV bV ⊢
  clear hu x' hN r1 r2 r3 r4 r5 aa V
  have lV:=blk_lt kV
  have GS:=Lib.hid (serve_any (w.heap.size + 2) c g2 g1 c1 c2 sp2 sp1 w0 w1 w2 d0 d1 d2 q t h0 h1 h2 u HX.out HK.out HN.out (by omega) (by omega) (by omega) (by omega) (by omega) (by omega) kV kg2 kg1)
  have CHV:=range_below lh CH.out bV
  clear kg1 kg2 kV
  refine wpList_load_mid rfl 45 (.tmp 22) rfl bh oh rfl [.int .i64 h0,.int .i64 h1,.int .i64 h2] _ CHV Tryd.underlying45 rfl (by kernel_rfl) ?_
  conv => arg 5;simp [Act.put]
  clear CHV
  go_wp2_with (go_at_call 81;(with_reducible refine (GS.out).mono ?_);rintro e w5 ⟨n,rfl,b5,kc5,kg5,kw5⟩;(have z5 : blk w5 (w.heap.size + 1) = some #[.slice none 0 0,.int .i64 0,.slice none 0 0,.int .i64 0]:=(blk_kept (b5.block _ (Nat.lt_succ_self _))).trans zV);(have b5w : Below w.heap.size w w5:=bV.trans (b5.mono (Nat.le_add_right _ _)));clear b5 zV)
  have NS:=nextD_spec HX.out HK.out HN.out
  obtain ⟨N,hNN⟩ : ∃ N,nextD ⟨[w0,w1,w2],[d0,d1,d2],q,t⟩ [h0,h1,h2] = N:=⟨_,rfl⟩
  rw [hNN] at NS kc5 kg5 ⊢
  have HNN:=Lib.hid hNN
  have HNS:=Lib.hid NS
  clear NS hNN
  have zne : w.heap.size + 1 ≠ c:=by omega
  have zng1 : w.heap.size + 1 ≠ g1:=by omega
  have zng2 : w.heap.size + 1 ≠ g2:=by omega
  refine wp_region_held_drew (S:=fun W => ∀ o,W.cell? ⟨c,o,none⟩ = (#[.slice (some ⟨g1,0,none⟩) 3 c1,.int .i64 q,.slice (some ⟨g2,0,none⟩) 3 c2,.int .i64 N.2.t] : Array Value)[o]?) (by kernel_rfl) (fun o => blk_cell (blk_drew kc5) o) (fun hHeld => ?_)
  obtain ⟨x0,hx0⟩ : ∃ v,v = w5.drew:=⟨_,rfl⟩
  have kc0 : blk x0 c = some #[.slice (some ⟨g1,0,none⟩) 3 c1,.int .i64 q,.slice (some ⟨g2,0,none⟩) 3 c2,.int .i64 N.2.t]:=(by rw [hx0];exact blk_drew kc5)
  have kg0 : blk x0 g2 = some (rowC ic N.2.d ++ sp2).toArray:=(by rw [hx0];exact blk_drew kg5)
  have kw0 : blk x0 g1 = some (rowC ic [w0,w1,w2] ++ sp1).toArray:=(by rw [hx0];exact blk_drew kw5)
  have kz0 : blk x0 (w.heap.size + 1) = some #[.slice none 0 0,.int .i64 0,.slice none 0 0,.int .i64 0]:=(by rw [hx0];exact blk_drew z5)
  have bx0 : Below w.heap.size w x0:=(by rw [hx0];exact b5w.drew)
  rw [← hx0] at hHeld ⊢
  clear hx0 kc5 kg5 kw5 z5 b5w
  have nz0:=kn kz0
  refine jK (v:=?_) 0 ?_ ?_
  rotate_left;focus(intro W h;(try dsimp only at h);go_simp;(try with_reducible rfl));(try simp only[Act.put,jA,jB,jC,jD,jE,jF])
  refine jK (v:=?_) 1 ?_ ?_
  rotate_left;focus(intro W h;(try dsimp only at h);go_simp;(try with_reducible rfl));(try simp only[Act.put,jA,jB,jC,jD,jE,jF])
  refine jK (v:=?_) 2 ?_ ?_
  rotate_left;focus(intro W h;(try dsimp only at h);go_simp;(try with_reducible rfl));(try simp only[Act.put,jA,jB,jC,jD,jE,jF])
  refine jR 3 (fun K hK => ?_)
  go_simp
  refine hK.out _ _ (fun o => blk_cell (blk_other (blk_other (blk_other (blk_other kc0 zne.symm) zne.symm) zne.symm) zne.symm) o) (fun hHeld2 => ?_)
  clear hK K
  (try simp only[Act.put,jA,jB,jC,jD,jE,jF])
  refine jK (v:=?_) 4 ?_ ?_
  rotate_left;focus(intro W h;(try dsimp only at h);go_simp;(try with_reducible rfl));(try simp only[Act.put,jA,jB,jC,jD,jE,jF])
  refine wpAnyH_done (by kernel_rfl) ?_ _
  go_wp2
  refine ret_blk (b:=w.heap.size + 1) (c:=#[.slice (some ⟨g1,0,none⟩) 3 c1,.int .i64 q,.slice (some ⟨g2,0,none⟩) 3 c2,.int .i64 N.2.t]) (v:=.tuple #[.int .i64 N.1,.agg #[.slice (some ⟨g1,0,none⟩) 3 c1,.int .i64 q,.slice (some ⟨g2,0,none⟩) 3 c2,.int .i64 N.2.t],.int .i64 0]) (by have h9:=blk_set (i:=3) (v:=.int .i64 N.2.t) (blk_set (i:=2) (v:=.slice (some ⟨g2,0,none⟩) 3 c2) (blk_set (i:=1) (v:=.int .i64 q) (blk_set (i:=0) (v:=.slice (some ⟨g1,0,none⟩) 3 c1) kz0)));exact h9) (fun W' hc => by simp [results,Tryd.results62,go_sem,hc]) rfl ?_
  refine ⟨(((bx0.setCell L8 _).setCell L8 _).setCell L8 _).setCell L8 _,.inr ⟨HBZ.out,some ⟨g1,0,none⟩,c1,some ⟨g2,0,none⟩,c2,by rw [HNN.out],?_,?_,upR_at (by omega),upR_at (by omega)⟩⟩
  · have kw9:=blk_other (v:=.int .i64 N.2.t) (a:=⟨w.heap.size + 1,3,none⟩) (blk_other (v:=.slice (some ⟨g2,0,none⟩) 3 c2) (a:=⟨w.heap.size + 1,2,none⟩) (blk_other (v:=.int .i64 q) (a:=⟨w.heap.size + 1,1,none⟩) (blk_other (v:=.slice (some ⟨g1,0,none⟩) 3 c1) (a:=⟨w.heap.size + 1,0,none⟩) kw0 zng1.symm) zng1.symm) zng1.symm) zng1.symm
    exact ⟨cl1,cm1,(fun h => by cases h),fun _ => ⟨g1,0,rfl,blk_lt kw9,fun i hi => by rw [Nat.zero_add];exact range_row ic_len kw9 (List.getElem?_eq_getElem hi)⟩⟩
  · have kg9:=blk_other (v:=.int .i64 N.2.t) (a:=⟨w.heap.size + 1,3,none⟩) (blk_other (v:=.slice (some ⟨g2,0,none⟩) 3 c2) (a:=⟨w.heap.size + 1,2,none⟩) (blk_other (v:=.int .i64 q) (a:=⟨w.heap.size + 1,1,none⟩) (blk_other (v:=.slice (some ⟨g1,0,none⟩) 3 c1) (a:=⟨w.heap.size + 1,0,none⟩) kg0 zng2.symm) zng2.symm) zng2.symm) zng2.symm
    rw [HNN.out]
    exact ⟨by rw [HNS.out.2.2.2.1];exact cl2,cm2,(fun h => by cases h),fun _ => ⟨g2,0,rfl,blk_lt kg9,fun i hi => by rw [Nat.zero_add];exact range_row ic_len kg9 (List.getElem?_eq_getElem hi)⟩⟩
end Go.Proofs.YtkaehoihpgelnaaDoor
