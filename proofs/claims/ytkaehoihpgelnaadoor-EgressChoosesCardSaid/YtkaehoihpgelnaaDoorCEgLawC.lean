/- EgLawC -/
import Derived.Test.YtkaehoihpgelnaaDoorCE
import Derived.Test.YtkaehoihpgelnaaDoorCK
import Derived.Test.YtkaehoihpgelnaaDoorCU
import Derived.Test.YtkaehoihpgelnaaDoorCV
import Derived.Test.YtkaehoihpgelnaaDoorCY
import Derived.Test.YtkaehoihpgelnaaDoorCZ2
set_option linter.unusedSimpArgs false
set_option linter.unusedVariables false
set_option maxRecDepth 100000
namespace Go.Proofs.YtkaehoihpgelnaaDoor
open Go.RowKit
theorem sX {c1 c2 : Array Value} {r : Rr} {ps : List Int} {w : World} (h1 : ExitG w c1 r ps) (h2 : ExitG w c2 r ps) (l : r.w.length ≤ 10 ∧ r.d.length ≤ 10 ∧ ps.length ≤ 10) : Calls Tryd.prog 16 #[.agg c1,.agg c2] w fun e w' => e = .returned (.bool true) ∧ Below w.heap.size w w':=by
  have h:=sameX_any c1 c2 r r ps ps w h1 h2 (by omega) (by omega) (by omega) (by omega) (by omega) (by omega)
  rwa [eqX_self] at h
set_option maxHeartbeats 12800000 in
theorem egressChooses_walk (aw : Option Addr) (cw : Nat) (ad : Option Addr) (cd : Nat) (ap : Option Addr) (cp : Nat) (ws ds ps : List Int) (q t : Int) (a : Option Addr) (cap : Nat) (l : List Bn) (us bu by' : Int) (hus : 0 ≤ us ∧ us ≤ 18446744073709551615) (hbu : bu ≤ 9223372036854775807) (hsq : ∀ x ∈ l,0 ≤ x.sq) (w : World) (hT : HTab w) (hw : SRow ic 1 w aw cw ws) (hd : SRow ic 1 w ad cd ds) (hp : SRow ic 1 w ap cp ps) (hrow : SRow bn 9 w a cap l) :
    Calls Tryd.prog 9 #[.agg #[.slice aw ws.length cw,.int .i64 q,.slice ad ds.length cd,.int .i64 t,.slice ap ps.length cp],.slice a l.length cap,.int .u64 us,.int .i64 bu,.int .i64 by'] w fun e w' => e = .returned (.bool true) ∧ Below w.heap.size w w':=by
  have HT:=Lib.hid hT;have HW:=Lib.hid hw;have HD:=Lib.hid hd;have HP:=Lib.hid hp;have HR:=Lib.hid hrow;have HG:=Lib.hid hsq
  clear hT hw hd hp hrow hsq
  go_enter Tryd.func9,Tryd.ntmps9
  obtain ⟨V0,e0⟩ : ∃ v,v = w.alloc (.cells #[.slice aw ws.length cw,.int .i64 q,.slice ad ds.length cd,.int .i64 t,.slice ap ps.length cp] 28):=⟨_,rfl⟩
  have bV0 : Below w.heap.size w V0:=(by rw [e0];exact (Below.refl _ _).alloc (Nat.le_refl _) _)
  have kx0 : blk V0 w.heap.size = some #[.slice aw ws.length cw,.int .i64 q,.slice ad ds.length cd,.int .i64 t,.slice ap ps.length cp]:=(by rw [e0];exact blk_alloc_new _ _ _ rfl)
  go_upto_region 1 with fail
  rw [← e0]
  clear e0
  have nx:=kn kx0
  have HL:=Lib.hid (light_any aw cw ad cd ap cp ws ds ps q t a cap l V0 (HR.out.below bV0))
  go_wp2_with fail
  (with_reducible refine (HL.out).mono ?_)
  rintro e u1 ⟨p,rfl,hP,B1⟩
  clear HL nx
  have bu1:=bt bV0 B1
  have kx1:=blk_below B1 kx0
  clear kx0 bV0 B1
  cases p
  · clear hP kx1
    go_wp2_with (go_at_call 14;(with_reducible refine (awake_any _ (HT.out.on bu1)).mono ?_);rintro e u2 ⟨rfl,h2⟩)
    go_ret
    exact ⟨rfl,bt bu1 h2⟩
  obtain ⟨n1,n2,n3,n4,n5⟩:=hP rfl
  clear hP
  have OK : OkA l us bu:=⟨n4,fun x hx => by have:=n5 x hx;unfold maxLen;omega,HG.out,hus,hbu⟩
  have HLN:=Lib.hid (forms_len (r:=⟨ws,ds,q,t⟩) (ps:=ps) by' OK)
  have GOWN:=Lib.hid (fun W (hB : Below w.heap.size w W) => xown_any aw cw ad cd ap cp ws ds ps q t (by omega) (by omega) (by omega) W (HW.out.below hB) (HD.out.below hB) (HP.out.below hB))
  have GOB:=Lib.hid (fun W (hB : Below w.heap.size w W) => own_any a cap l (by omega) W (HR.out.below hB))
  obtain ⟨ek,hek⟩ : ∃ v,asksE ⟨ws,ds,q,t⟩ ps l bu by' = v:=⟨_,rfl⟩
  obtain ⟨cl,hcl⟩ : ∃ v,canF ⟨ws,ds,q,t⟩ ps l us bu by' = v:=⟨_,rfl⟩
  obtain ⟨⟨nc,rc,pc,ec⟩,hch⟩ : ∃ v,choF ⟨ws,ds,q,t⟩ ps l us bu by' = v:=⟨_,rfl⟩
  obtain ⟨⟨la,ra,pa⟩,hal⟩ : ∃ v,allF ⟨ws,ds,q,t⟩ ps l us bu by' = v:=⟨_,rfl⟩
  have tek : (ek != ek) = false:=by simp
  have tek2 : (ek == ek) = true:=by simp
  have tec : (ec != ec) = false:=by simp
  have tnc : (nc != nc) = false:=by simp
  rw [hcl,hch,hal] at HLN
  simp only at HLN
  have RC:=Lib.hid (fun W (hB : Below w.heap.size w W) => rcandF aw cw ad cd ap cp ⟨ws,ds,q,t⟩ ps a cap l us bu by' OK W (HW.out.below hB) (HD.out.below hB) (HP.out.below hB) (HR.out.below hB))
  have RH:=Lib.hid (fun W (hB : Below w.heap.size w W) => rchoF aw cw ad cd ap cp ⟨ws,ds,q,t⟩ ps a cap l us bu by' OK W (HW.out.below hB) (HD.out.below hB) (HP.out.below hB) (HR.out.below hB))
  have RA:=Lib.hid (fun (S : Nat → Prop) (hS0 : ∀ b,S b → w.heap.size ≤ b) W (hB : Below w.heap.size w W) (hS : ∀ b,S b → b < W.heap.size) => rallF aw cw ad cd ap cp ⟨ws,ds,q,t⟩ ps a cap l us bu by' OK W (HW.out.below hB) (HD.out.below hB) (HP.out.below hB) (HR.out.below hB) S hS (HW.out.neS hS0) (HD.out.neS hS0) (HP.out.neS hS0))
  rw [hcl,hek] at RC
  rw [hch] at RH
  rw [hal,hek] at RA
  unfold RetCN at RC
  unfold RetCHF ExitH at RH
  unfold RetALF ExitH at RA
  simp only at RC RH RA
  have HOK:=Lib.hid OK
  have HEK:=Lib.hid (And.intro hek (And.intro hcl (And.intro hch hal)))
  have n14:=Lib.hid (And.intro n1 (And.intro n2 (And.intro n3 (And.intro n4 n5))))
  clear n1 n2 n3 n4 n5 OK hek hcl hch hal hus hbu
  have nx:=kn kx1
  go_upto_region 4 with (first|(go_at_call 24;(with_reducible refine (GOWN.out _ bu1).mono ?_);rintro e u2 ⟨sa,sb,sc,sd,se,sf,rfl,S1,S2,S3,_,_,_,B2⟩;(have bu2:=bt bu1 B2);(have kx2:=blk_below B2 kx1);(have SS2:=Lib.hid (And.intro S1 (And.intro S2 S3)));clear S1 S2 S3 B2)|(go_at_call 18;(with_reducible refine (GOB.out _ bu2).mono ?_);rintro e u3 ⟨vo,rfl,ho,B3⟩;obtain ⟨ao,co,rfl,hro,hz9⟩:=srow_of_owns bn_len ho;(have RO3:=Lib.hid hro);(have bu3:=bt bu2 B3);(have kx3:=blk_below B3 kx2);(have SS3:=Lib.hid (And.intro (SS2.out.1.below B3) (And.intro (SS2.out.2.1.below B3) (SS2.out.2.2.below B3))));clear hz9 ho hro B3 SS2))
  clear nx kx1 kx2 bu1 bu2
  obtain ⟨g1,eg1⟩ : ∃ v,v = u3.heap.size:=⟨_,rfl⟩
  obtain ⟨W4,eW⟩ : ∃ v,v = u3.alloc (.cells #[.slice sa ws.length sb,.int .i64 q,.slice sc ds.length sd,.int .i64 t,.slice se ps.length sf] 28):=⟨_,rfl⟩
  have d4 : Below u3.heap.size u3 W4:=(by rw [eW];exact (Below.refl _ _).alloc (Nat.le_refl _) _)
  have ks4 : blk W4 g1 = some #[.slice sa ws.length sb,.int .i64 q,.slice sc ds.length sd,.int .i64 t,.slice se ps.length sf]:=(by rw [eW];exact blk_alloc_new _ _ _ eg1)
  have kx4:=blk_below d4 kx3
  have b4:=bt bu3 d4
  have SS:=Lib.hid (And.intro (SS3.out.1.below d4) (And.intro (SS3.out.2.1.below d4) (SS3.out.2.2.below d4)))
  have RO:=Lib.hid (RO3.out.below d4)
  rw [← eW,← eg1]
  clear eW eg1 d4 kx3 bu3 SS3 RO3
  have PC:=Lib.hid (fun W (hB : Below W4.heap.size W4 W) => pcandF sa sb sc sd se sf ⟨ws,ds,q,t⟩ ps ao co l us bu by' HOK.out W (SS.out.1.below hB) (SS.out.2.1.below hB) (SS.out.2.2.below hB) (RO.out.below hB) (HT.out.on (bt b4 hB)))
  have PH:=Lib.hid (fun W (hB : Below W4.heap.size W4 W) => pchoF sa sb sc sd se sf ⟨ws,ds,q,t⟩ ps ao co l us bu by' HOK.out W (SS.out.1.below hB) (SS.out.2.1.below hB) (SS.out.2.2.below hB) (RO.out.below hB) (HT.out.on (bt b4 hB)))
  have PA:=Lib.hid (fun (S : Nat → Prop) (hS0 : ∀ b,S b → W4.heap.size ≤ b) W (hB : Below W4.heap.size W4 W) (hS : ∀ b,S b → b < W.heap.size) => pallF sa sb sc sd se sf ⟨ws,ds,q,t⟩ ps ao co l us bu by' HOK.out W (SS.out.1.below hB) (SS.out.2.1.below hB) (SS.out.2.2.below hB) (RO.out.below hB) (HT.out.on (bt b4 hB)) S hS (SS.out.1.neS hS0) (SS.out.2.1.neS hS0) (SS.out.2.2.neS hS0) (RO.out.neS hS0))
  rw [HEK.out.2.1,HEK.out.1] at PC
  rw [HEK.out.2.2.1] at PH
  rw [HEK.out.2.2.2,HEK.out.1] at PA
  unfold RetCN at PC
  unfold RetCHF ExitH at PH
  unfold RetALF ExitH at PA
  simp only at PC PH PA
  have ns:=kn ks4
  go_upto_region 5 with (go_at_call 29;(with_reducible refine (PC.out _ (Below.refl _ _)).mono ?_);rintro e u5 ⟨ka,kb,rfl,K1,m5⟩)
  have K5:=Lib.hid K1
  have kx5:=blk_below m5 kx4
  have nx5:=kn kx5
  clear K1 ns
  go_upto_region 6 with (go_at_call 34;(with_reducible refine (RC.out _ (bt b4 m5)).mono ?_);rintro e u6 ⟨kc,kd,rfl,L1,h6⟩)
  have m6:=bt m5 h6
  have GI:=Lib.hid (show Calls Tryd.prog 26 #[.slice ka cl.length kb,.slice kc cl.length kd] u6 fun e w' => e = .returned (.bool true) ∧ Below u6.heap.size u6 w' from by
    have h9:=sameZ_any ka kc kb kd cl cl (by have:=HLN.out.1;omega) (by have:=HLN.out.1;omega) u6 (K5.out.below h6) L1
    rw [decide_eq_true rfl] at h9
    exact h9)
  clear K5 L1 h6 m5 nx5 kx5 PC RC
  have kx6:=blk_below m6 kx4
  have ks6:=blk_below m6 ks4
  go_upto_region 8 with (go_at_call 26;(with_reducible refine (GI.out).mono ?_);rintro e u7 ⟨rfl,h7⟩)
  have m7:=bt m6 h7
  have ks7:=blk_below h7 ks6
  have kx7:=blk_below h7 kx6
  clear GI h7 m6 kx6 ks6
  have ns7:=kn ks7
  go_upto_region 9 with (go_at_call 30;(with_reducible refine (PH.out _ m7).mono ?_);rintro e u8 ⟨_,rfl,⟨ca,cb,cc,cd_,ce,cf,rfl,C1,C2,C3,_⟩,h8⟩)
  have m8:=bt m7 h8
  have kx8:=blk_below h8 kx7
  have ks8:=blk_below h8 ks7
  have CC8:=Lib.hid (And.intro C1 (And.intro C2 C3))
  clear C1 C2 C3 h8 ns7 kx7 ks7 m7 PH
  obtain ⟨g2,eg2⟩ : ∃ v,v = u8.heap.size:=⟨_,rfl⟩
  obtain ⟨W9,eW⟩ : ∃ v,v = u8.alloc (.cells #[.slice ca rc.w.length cb,.int .i64 rc.q,.slice cc rc.d.length cd_,.int .i64 rc.t,.slice ce pc.length cf] 28):=⟨_,rfl⟩
  have d9 : Below u8.heap.size u8 W9:=(by rw [eW];exact (Below.refl _ _).alloc (Nat.le_refl _) _)
  have kc9 : blk W9 g2 = some #[.slice ca rc.w.length cb,.int .i64 rc.q,.slice cc rc.d.length cd_,.int .i64 rc.t,.slice ce pc.length cf]:=(by rw [eW];exact blk_alloc_new _ _ _ eg2)
  have lg2 : W4.heap.size ≤ g2:=(by rw [eg2];exact m8.size)
  have kx9:=blk_below d9 kx8
  have ks9:=blk_below d9 ks8
  have m9:=bt m8 d9
  have CC9:=Lib.hid (And.intro (CC8.out.1.below d9) (And.intro (CC8.out.2.1.below d9) (CC8.out.2.2.below d9)))
  rw [← eW,← eg2]
  clear eW eg2 d9 kx8 ks8 m8 CC8
  have nx9:=kn kx9
  go_upto_region 10 with (go_at_call 35;(with_reducible refine (RH.out _ (bt b4 m9)).mono ?_);rintro e u10 ⟨_,rfl,⟨da,db,dc,dd,de,df,rfl,D1,D2,D3,_⟩,h10⟩)
  have m10:=bt m9 h10
  have kx10:=blk_below h10 kx9
  have ks10:=blk_below h10 ks9
  have kc10:=blk_below h10 kc9
  have DD10:=Lib.hid (And.intro D1 (And.intro D2 D3))
  have CC10:=Lib.hid (And.intro (CC9.out.1.below h10) (And.intro (CC9.out.2.1.below h10) (CC9.out.2.2.below h10)))
  clear D1 D2 D3 h10 nx9 kx9 ks9 kc9 m9 CC9 RH
  obtain ⟨g3,eg3⟩ : ∃ v,v = u10.heap.size:=⟨_,rfl⟩
  obtain ⟨W11,eW⟩ : ∃ v,v = u10.alloc (.cells #[.slice da rc.w.length db,.int .i64 rc.q,.slice dc rc.d.length dd,.int .i64 rc.t,.slice de pc.length df] 28):=⟨_,rfl⟩
  have d11 : Below u10.heap.size u10 W11:=(by rw [eW];exact (Below.refl _ _).alloc (Nat.le_refl _) _)
  have kd11 : blk W11 g3 = some #[.slice da rc.w.length db,.int .i64 rc.q,.slice dc rc.d.length dd,.int .i64 rc.t,.slice de pc.length df]:=(by rw [eW];exact blk_alloc_new _ _ _ eg3)
  have lg3 : W4.heap.size ≤ g3:=(by rw [eg3];exact m10.size)
  have n23 : g2 ≠ g3:=(by rw [eg3];exact Nat.ne_of_lt (blk_lt kc10))
  have kx11:=blk_below d11 kx10
  have ks11:=blk_below d11 ks10
  have kc11:=blk_below d11 kc10
  have m11:=bt m10 d11
  have GSX:=Lib.hid (sX (w:=W11) (r:=rc) (ps:=pc) ⟨ca,cb,cc,cd_,ce,cf,rfl,CC10.out.1.below d11,CC10.out.2.1.below d11,CC10.out.2.2.below d11⟩ ⟨da,db,dc,dd,de,df,rfl,DD10.out.1.below d11,DD10.out.2.1.below d11,DD10.out.2.2.below d11⟩ (by have:=HLN.out.2.1;omega))
  rw [← eW,← eg3]
  clear eW eg3 d11 kx10 ks10 kc10 m10 CC10 DD10
  have nc11:=kn kc11
  have nd11:=kn kd11
  go_upto_region 12 with (go_at_call 16;(with_reducible refine (GSX.out).mono ?_);rintro e u12 ⟨rfl,h12⟩)
  have m12:=bt m11 h12
  have kx12:=blk_below h12 kx11
  have ks12:=blk_below h12 ks11
  have kc12:=blk_below h12 kc11
  have kd12:=blk_below h12 kd11
  clear h12 GSX nc11 nd11 kx11 ks11 kc11 kd11 m11
  obtain ⟨SA,hSA⟩ : ∃ S : Nat → Prop,S = fun b => b = g2 ∨ b = g3:=⟨_,rfl⟩
  have sa2 : SA g2:=(by rw [hSA];exact .inl rfl)
  have sa3 : SA g3:=(by rw [hSA];exact .inr rfl)
  have sa4 : ∀ b,SA b → W4.heap.size ≤ b:=(by rw [hSA];rintro b (rfl|rfl);exact lg2;exact lg3)
  have sa5 : ∀ b,SA b → b < u12.heap.size:=(by rw [hSA];rintro b (rfl|rfl);exact blk_lt kc12;exact blk_lt kd12)
  have HSA:=Lib.hid (And.intro sa2 (And.intro sa3 (And.intro sa4 sa5)))
  have GPA:=Lib.hid (PA.out SA sa4 u12 m12 sa5)
  clear hSA sa2 sa3 sa4 sa5 PA
  have ns12:=kn ks12
  have nc12:=kn kc12
  go_upto_region 13 with (go_at_call 11;(with_reducible refine (GPA.out).mono ?_);rintro e u13 ⟨la1,lc1,_,rfl,A1,⟨xa,xb,xc,xd,xe,xf,rfl,A2,A3,A4,N2,N3,N4⟩,h13,N1⟩;(have m13:=bt m12 h13);(have kx13:=blk_below h13 kx12);(have ks13:=blk_below h13 ks12);(have kc13:=blk_below h13 kc12);(have kd13:=blk_below h13 kd12);(have AA13:=Lib.hid (And.intro A1 (And.intro A2 (And.intro A3 A4))));(have NN:=Lib.hid (And.intro N1 (And.intro N2 (And.intro N3 N4))));(have s13:=h13.size);clear A1 A2 A3 A4 N1 N2 N3 N4 h13 ns12 nc12;(have nc13:=kn kc13))
  clear GPA kx12 ks12 kc12 kd12 m12
  obtain ⟨X,eX⟩ : ∃ X,X = (((((u13).setCell ⟨g2,0,none⟩ (.slice xa ra.w.length xb)).setCell ⟨g2,1,none⟩ (.int .i64 ra.q)).setCell ⟨g2,2,none⟩ (.slice xc ra.d.length xd)).setCell ⟨g2,3,none⟩ (.int .i64 ra.t)).setCell ⟨g2,4,none⟩ (.slice xe pa.length xf):=⟨_,rfl⟩
  have sX : SameB g2 u13 X:=(by rw [eX];(repeat (first|(with_reducible exact SameB.refl _ _)|(with_reducible refine SameB.set ?_ _ _))))
  have kcX : blk X g2 = some #[.slice xa ra.w.length xb,.int .i64 ra.q,.slice xc ra.d.length xd,.int .i64 ra.t,.slice xe pa.length xf]:=(by rw [eX];exact blk_set (i:=4) (v:=.slice xe pa.length xf) (blk_set (i:=3) (v:=.int .i64 ra.t) (blk_set (i:=2) (v:=.slice xc ra.d.length xd) (blk_set (i:=1) (v:=.int .i64 ra.q) (blk_set (i:=0) (v:=.slice xa ra.w.length xb) kc13)))))
  have mX : Below W4.heap.size W4 X:=(by rw [eX];exact (((((m13.setCell lg2 _).setCell lg2 _).setCell lg2 _).setCell lg2 _).setCell lg2 _))
  have kdX:=blk_same kd13 n23.symm sX
  have AAX:=Lib.hid (And.intro (AA13.out.1.sameB sX (NN.out.1.neA HSA.out.1)) (And.intro (AA13.out.2.1.sameB sX (NN.out.2.1.neA HSA.out.1)) (And.intro (AA13.out.2.2.1.sameB sX (NN.out.2.2.1.neA HSA.out.1)) (AA13.out.2.2.2.sameB sX (NN.out.2.2.2.neA HSA.out.1)))))
  have s5X : ∀ b,SA b → b < X.heap.size:=(fun b hb => Nat.lt_of_lt_of_le (HSA.out.2.2.2 b hb) (Nat.le_trans s13 sX.1))
  rw [← eX]
  clear eX sX AA13 kc13 kd13 kx13 ks13 m13 nc13 s13
  have kxX:=blk_below mX kx4
  have nxX:=kn kxX
  have GRA:=Lib.hid (RA.out SA (fun b hb => Nat.le_trans b4.size (HSA.out.2.2.1 b hb)) X (bt b4 mX) s5X)
  clear RA s5X
  have ndX:=kn kdX
  go_upto_region 14 with (go_at_call 36;(with_reducible refine (GRA.out).mono ?_);rintro e u14 ⟨la2,lc2,_,rfl,Y1,⟨ya,yb,yc,yd,ye,yf,rfl,Y2,Y3,Y4,M2,M3,M4⟩,h14,M1⟩;(have m14:=bt mX h14);(have kc14:=blk_below h14 kcX);(have kd14:=blk_below h14 kdX);(have AA14:=Lib.hid (And.intro (AAX.out.1.below h14) (And.intro (AAX.out.2.1.below h14) (And.intro (AAX.out.2.2.1.below h14) (AAX.out.2.2.2.below h14)))));(have YY14:=Lib.hid (And.intro Y1 (And.intro Y2 (And.intro Y3 Y4))));(have MM:=Lib.hid (And.intro M1 (And.intro M2 (And.intro M3 M4))));clear Y1 Y2 Y3 Y4 M1 M2 M3 M4 h14 nxX ndX;(have nd14:=kn kd14))
  clear GRA AAX kcX kdX kxX mX
  obtain ⟨Z,eZ⟩ : ∃ X,X = (((((u14).setCell ⟨g3,0,none⟩ (.slice ya ra.w.length yb)).setCell ⟨g3,1,none⟩ (.int .i64 ra.q)).setCell ⟨g3,2,none⟩ (.slice yc ra.d.length yd)).setCell ⟨g3,3,none⟩ (.int .i64 ra.t)).setCell ⟨g3,4,none⟩ (.slice ye pa.length yf):=⟨_,rfl⟩
  have sZ : SameB g3 u14 Z:=(by rw [eZ];(repeat (first|(with_reducible exact SameB.refl _ _)|(with_reducible refine SameB.set ?_ _ _))))
  have kdZ : blk Z g3 = some #[.slice ya ra.w.length yb,.int .i64 ra.q,.slice yc ra.d.length yd,.int .i64 ra.t,.slice ye pa.length yf]:=(by rw [eZ];exact blk_set (i:=4) (v:=.slice ye pa.length yf) (blk_set (i:=3) (v:=.int .i64 ra.t) (blk_set (i:=2) (v:=.slice yc ra.d.length yd) (blk_set (i:=1) (v:=.int .i64 ra.q) (blk_set (i:=0) (v:=.slice ya ra.w.length yb) kd14)))))
  have mZ : Below W4.heap.size W4 Z:=(by rw [eZ];exact (((((m14.setCell lg3 _).setCell lg3 _).setCell lg3 _).setCell lg3 _).setCell lg3 _))
  have kcZ:=blk_same kc14 n23 sZ
  have AAZ:=Lib.hid (And.intro (AA14.out.1.sameB sZ (NN.out.1.neA HSA.out.2.1)) (And.intro (AA14.out.2.1.sameB sZ (NN.out.2.1.neA HSA.out.2.1)) (And.intro (AA14.out.2.2.1.sameB sZ (NN.out.2.2.1.neA HSA.out.2.1)) (AA14.out.2.2.2.sameB sZ (NN.out.2.2.2.neA HSA.out.2.1)))))
  have YYZ:=Lib.hid (And.intro (YY14.out.1.sameB sZ (MM.out.1.neA HSA.out.2.1)) (And.intro (YY14.out.2.1.sameB sZ (MM.out.2.1.neA HSA.out.2.1)) (And.intro (YY14.out.2.2.1.sameB sZ (MM.out.2.2.1.neA HSA.out.2.1)) (YY14.out.2.2.2.sameB sZ (MM.out.2.2.2.neA HSA.out.2.1)))))
  rw [← eZ]
  clear eZ sZ AA14 YY14 kc14 kd14 m14 nd14 NN MM HSA
  have kxZ:=blk_below mZ kx4
  have ksZ:=blk_below mZ ks4
  have GI:=Lib.hid (show Calls Tryd.prog 26 #[.slice la1 la.length lc1,.slice la2 la.length lc2] Z fun e w' => e = .returned (.bool true) ∧ Below Z.heap.size Z w' from by
    have h9:=sameZ_any la1 la2 lc1 lc2 la la (by have:=HLN.out.2.2.1;omega) (by have:=HLN.out.2.2.1;omega) Z AAZ.out.1 YYZ.out.1
    rw [decide_eq_true rfl] at h9
    exact h9)
  have GX:=Lib.hid (fun W (hB : Below Z.heap.size Z W) => sX (w:=W) (r:=ra) (ps:=pa) ⟨xa,xb,xc,xd,xe,xf,rfl,AAZ.out.2.1.below hB,AAZ.out.2.2.1.below hB,AAZ.out.2.2.2.below hB⟩ ⟨ya,yb,yc,yd,ye,yf,rfl,YYZ.out.2.1.below hB,YYZ.out.2.2.1.below hB,YYZ.out.2.2.2.below hB⟩ (by have:=HLN.out.2.2.2;omega))
  have GS:=Lib.hid (fun W (hB : Below Z.heap.size Z W) => (show Calls Tryd.prog 16 #[.agg #[.slice sa ws.length sb,.int .i64 q,.slice sc ds.length sd,.int .i64 t,.slice se ps.length sf],.agg #[.slice aw ws.length cw,.int .i64 q,.slice ad ds.length cd,.int .i64 t,.slice ap ps.length cp]] W fun e w' => e = .returned (.bool true) ∧ Below W.heap.size W w' from sX (r:=⟨ws,ds,q,t⟩) ⟨sa,sb,sc,sd,se,sf,rfl,(SS.out.1.below mZ).below hB,(SS.out.2.1.below mZ).below hB,(SS.out.2.2.below mZ).below hB⟩ ⟨aw,cw,ad,cd,ap,cp,rfl,HW.out.below (bt (bt b4 mZ) hB),HD.out.below (bt (bt b4 mZ) hB),HP.out.below (bt (bt b4 mZ) hB)⟩ (by have:=n14.out;simp only;omega)))
  have GB:=Lib.hid (fun W (hB : Below Z.heap.size Z W) => (show Calls Tryd.prog 27 #[.slice ao l.length co,.slice a l.length cap] W fun e w' => e = .returned (.bool true) ∧ Below W.heap.size W w' from by
    have h9:=sameB_any ao a co cap l l (by have:=n14.out.2.2.2.1;omega) (by have:=n14.out.2.2.2.1;omega) W ((RO.out.below mZ).below hB) (HR.out.below (bt (bt b4 mZ) hB))
    rw [(sameL_iff l l).2 rfl] at h9
    exact h9))
  have bZ:=bt b4 mZ
  have r1:=kn kcZ
  have r2:=kn kdZ
  have r3:=kn kxZ
  have r4:=kn ksZ
  have HKZ:=Lib.hid (And.intro kcZ (And.intro kdZ (And.intro kxZ ksZ)))
  clear kcZ kdZ kxZ ksZ ks4 kx4 AAZ YYZ
  go_wp2_with (first
    | (go_at_call 26;(with_reducible refine (GI.out).mono ?_);rintro e z1 ⟨rfl,h1⟩;clear r1 r2 r3 r4;(have r1:=kn (blk_below h1 HKZ.out.1));(have r2:=kn (blk_below h1 HKZ.out.2.1)))
    | (go_at_call 16;(with_reducible refine (GX.out _ h1).mono ?_);rintro e z2 ⟨rfl,h2⟩;(have m2:=bt h1 h2);clear r1 r2;(have r3:=kn (blk_below m2 HKZ.out.2.2.1));(have r4:=kn (blk_below m2 HKZ.out.2.2.2)))
    | (go_at_call 16;(with_reducible refine (GS.out _ m2).mono ?_);rintro e z3 ⟨rfl,h3⟩;(have m3:=bt m2 h3);clear r3 r4)
    | (go_at_call 27;(with_reducible refine (GB.out _ m3).mono ?_);rintro e z4 ⟨rfl,h4⟩;(have m4:=bt m3 h4))
    | (go_at_call 14;(with_reducible refine (awake_any _ (HT.out.on (bt bZ m4))).mono ?_);rintro e z5 ⟨rfl,h5⟩))
  go_ret
  exact ⟨rfl,bt (bt bZ m4) h5⟩
theorem egressChooses_row (aw : Option Addr) (cw : Nat) (ad : Option Addr) (cd : Nat) (ap : Option Addr) (cp : Nat) (ws ds ps : List Int) (q t : Int) (a : Option Addr) (cap : Nat) (l : List Bn) (us bu by' : Int) (w : World) (hw : SRow ic 1 w aw cw ws) (hd : SRow ic 1 w ad cd ds) (hp : SRow ic 1 w ap cp ps) (hrow : SRow bn 9 w a cap l) (hG : ∀ x ∈ l,GdB x) (w2 : (Lit.int .u64 us).wf = true) (w3 : (Lit.int .i64 bu).wf = true) (hT : Lib.TabIs Tryd.prog w headsNm .u8 headsTab) :
    Calls Tryd.prog 9 #[.agg #[.slice aw ws.length cw,.int .i64 q,.slice ad ds.length cd,.int .i64 t,.slice ap ps.length cp],.slice a l.length cap,.int .u64 us,.int .i64 bu,.int .i64 by'] w fun e w' => e = .returned (.bool true) ∧ Below w.heap.size w w' :=
  egressChooses_walk aw cw ad cd ap cp ws ds ps q t a cap l us bu by' (by have:=bounds_u64 w2;omega) (by have:=bounds_i64 w3;omega) (fun x hx => by have:=bounds_u64 (hG x hx).2;omega) w (htab_of hT) hw hd hp hrow
end Go.Proofs.YtkaehoihpgelnaaDoor
