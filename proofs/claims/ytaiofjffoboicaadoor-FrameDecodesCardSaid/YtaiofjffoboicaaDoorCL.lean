/- Parts of a proof, printed by a program of mine out of my texts: WiRefDece, WiRefDecf. -/
import Derived.Test.YtaiofjffoboicaaDoorCI
import Derived.Test.YtaiofjffoboicaaDoorCJ
import Derived.Test.YtaiofjffoboicaaDoorCK
import Derived.Test.YtaiofjffoboicaaDoorCWiDec3
set_option linter.unusedSimpArgs false
set_option linter.unusedVariables false
namespace Go.Proofs.YtaiofjffoboicaaDoor
open Go.RowKit
set_option maxRecDepth 100000 in
set_option maxHeartbeats 3200000 in
theorem rdec6_false (s : ByteArray) (hs : s.size ≤ 1000000) (no sq of de bo li to q er' fa' pr : Int) (cf : ∀ b w,blk w b = some (rdC s 0 0 0) → Calls Tryd.prog 89 #[.pointer (some ⟨b,0,none⟩)] w fun x w' => x = .returned (.tuple #[buv no sq of de pr bo li to ⟨#[]⟩,.bool false]) ∧ (∃ p,blk w' b = some (rdC s p er' fa') ∧ (er' = 0 → p = q)) ∧ Touch b w w') (hX0 : er' = 0) (dd : ByteArray) (n : Nat) (ht : getTextN s.data.toList q 1000 = (dd.data.toList,(n : Int),0)) (hq1 : 0 ≤ q) (hq2 : q ≤ s.size) (hn : n ≤ s.size) (hd : dd.size ≤ 1000000) (c1 : n + 4 ≤ s.size) (c2 : (s.data.toList.drop n).take 4 = four (crcN (s.data.toList.take n))) (c3 : s.size = n + 4) (hbc : buC no sq of de pr bo li to dd.size = 0) (wh : Bool) (hwh : wholeB of to dd.size = wh) (hwf : wh = true → false = true) (w : World) :
    Calls Tryd.prog 58 #[.string s] w fun e w' => e = .returned (.tuple #[.agg #[.int .i64 no,.int .u64 sq,.int .i64 of,.int .i64 de,.int .i64 pr,.int .i64 bo,.int .i64 li,.int .i64 to,.string dd],.agg #[.int .i64 0,.int .i64 0]]) ∧ Below w.heap.size w w':=by
  replace cf:=Lib.hid cf
  subst hX0
  have ct:=fun w => refGetText_any s q 1000 w (by unfold maxLen;omega) (by omega) (by omega) (by omega)
  rw [ht] at ct
  have ct : ∀ w,Calls Tryd.prog 57 #[.string s,.int .i64 q,.int .i64 1000] w fun e w' => e = .returned (.tuple #[.string dd,.int .i64 (n : Int),.int .i64 0]) ∧ w = w':=ct
  replace ct:=Lib.hid ct;clear ht
  have k1 : (n : Int) + 4 ≤ (s.size : Int):=by omega
  have x1 : (s.extract 0 n).size = n:=by simp;omega
  have x2 : (s.extract 0 n).data.toList = s.data.toList.take n:=by simp
  have gc:=fun w => refCrc32_any (s.extract 0 n) (by omega) w
  have gf:=fun w => refFour_any (crcN (s.extract 0 n).data.toList) (crcN_lt _) w
  obtain ⟨t2,ht2⟩ : ∃ t,s.extract n (n + 4) = t:=⟨_,rfl⟩
  have h1 : t2.data.toList = (s.data.toList.drop n).take 4:=by rw [← ht2,Lib.extract_data,show n + 4 - n = 4 by omega]
  have e3 : bstr (four (crcN (s.extract 0 n).data.toList)) = .string t2:=by rw [x2];exact (vstr (by rw [h1];exact c2)).symm
  rw [e3] at gf
  obtain ⟨c,hc⟩ : ∃ c,crcN (s.extract 0 n).data.toList = c:=⟨_,rfl⟩
  rw [hc] at gc gf
  replace gc:=Lib.hid gc;replace gf:=Lib.hid gf
  clear hc e3 h1 c2 x2
  have k3 : ¬ ((n : Int) + 4 < (s.size : Int)):=by omega
  have hdm : dd.size ≤ maxLen:=by unfold maxLen;omega
  have gk:=fun w => refCheck_any no sq of de pr bo li to dd hdm w
  rw [hbc] at gk
  replace gk:=Lib.hid gk
  have HB:=Lib.hid hbc;clear hbc
  have hc3:=Lib.hid c3;clear c3
  have gw:=fun w => refWhole_any no sq of de pr bo li to dd hdm w
  rw [hwh] at gw
  replace gw:=Lib.hid gw;clear hwh
  have HC1:=Lib.hid c1;clear c1
  have hwh0 : wh = false:=by
    cases wh
    · rfl
    · exact absurd (hwf rfl) (by decide)
  subst hwh0
  go_enter Tryd.func58,Tryd.ntmps58
  go_wp2_with fail
  (with_reducible refine (cf.out _ _ ?_).mono ?_)
  · exact blk_alloc_new _ _ _ (by simp)
  rintro e w1 ⟨rfl,⟨p,k1_,kp⟩,t1⟩
  obtain rfl:=kp (by trivial)
  have x1_ : blk w1 w.heap.size = some (#[.int .i64 0,.int .u64 0,.int .i64 0,.int .i64 0,.int .i64 0,.int .i64 0,.int .i64 0,.int .i64 0,.string ⟨#[]⟩]):=t1.2.1 _ _ (by omega) (by (apply jt;(focus repeat(first|(with_reducible first|assumption|apply js)|((with_reducible apply jo);first|focus(dsimp only;assumption)|focus(simp;done)|focus(dsimp only;omega))|((with_reducible apply jn);first|with_reducible rfl|focus(simp;done)|focus(simp;omega))|(with_reducible apply ja)|((with_reducible apply jb);with_reducible assumption)));rfl))
  have y1_ : blk w1 (w.heap.size + 1) = some #[.int .i64 0,.int .i64 0]:=t1.2.1 _ _ (by omega) (by (apply jt;(focus repeat(first|(with_reducible first|assumption|apply js)|((with_reducible apply jo);first|focus(dsimp only;assumption)|focus(simp;done)|focus(dsimp only;omega))|((with_reducible apply jn);first|with_reducible rfl|focus(simp;done)|focus(simp;omega))|(with_reducible apply ja)|((with_reducible apply jb);with_reducible assumption)));rfl))
  have B1 : Below w.heap.size w w1:=((((Below.refl w.heap.size w).alloc (Nat.le_refl _) _).alloc (by simp) _).alloc (by simp;omega) _).trans (t1.1.mono (by omega))
  clear t1
  have kn1:=kn k1_;have knx:=kn x1_;have kny:=kn y1_
  go_wp2_with (go_at_call 57;(with_reducible refine (ct.out _).mono ?_);rintro e wx ⟨rfl,rfl⟩)
  refine wp_region_in (by kernel_rfl) (by kernel_rfl) ?_
  intro W0_1 hE_1 hN_1
  have bW0_1 : Below w.heap.size w W0_1:=(by rw [hE_1.out];(repeat(first|(with_reducible first|assumption|exact Below.refl _ _|refine je ?_|refine jl ?_)|((with_reducible refine jp ?_ ?_);first|focus(dsimp only;assumption)|focus(simp;done)|focus(dsimp only;omega))|(with_reducible refine bt ?_ (by assumption)))))
  have kk2 : blk W0_1 (w1.heap.size) = some (#[.int .i64 no,.int .u64 sq,.int .i64 of,.int .i64 de,.int .i64 pr,.int .i64 bo,.int .i64 li,.int .i64 to,.string dd]):=(by rw [hE_1.out];(apply jt;(focus repeat(first|(with_reducible first|assumption|apply jd|apply js)|((with_reducible apply jo);first|focus(dsimp only;assumption)|focus(simp;done)|focus(dsimp only;omega))|((with_reducible apply jn);first|with_reducible rfl|focus(simp;done)|focus(simp;omega))|(with_reducible apply ja)|((with_reducible apply jb);with_reducible assumption)));rfl))
  have kk3 : blk W0_1 (w.heap.size) = some (#[.int .i64 0,.int .u64 0,.int .i64 0,.int .i64 0,.int .i64 0,.int .i64 0,.int .i64 0,.int .i64 0,.string ⟨#[]⟩]):=(by rw [hE_1.out];(apply jt;(focus repeat(first|(with_reducible first|assumption|apply jd|apply js)|((with_reducible apply jo);first|focus(dsimp only;assumption)|focus(simp;done)|focus(dsimp only;omega))|((with_reducible apply jn);first|with_reducible rfl|focus(simp;done)|focus(simp;omega))|(with_reducible apply ja)|((with_reducible apply jb);with_reducible assumption)));rfl))
  have kk4 : blk W0_1 (w.heap.size + 1) = some (#[.int .i64 0,.int .i64 0]):=(by rw [hE_1.out];(apply jt;(focus repeat(first|(with_reducible first|assumption|apply jd|apply js)|((with_reducible apply jo);first|focus(dsimp only;assumption)|focus(simp;done)|focus(dsimp only;omega))|((with_reducible apply jn);first|with_reducible rfl|focus(simp;done)|focus(simp;omega))|(with_reducible apply ja)|((with_reducible apply jb);with_reducible assumption)));rfl))
  have kn2:=calm_kn kk2
  have kn3:=calm_kn kk3
  have kn4:=calm_kn kk4
  clear hE_1
  repeat (go_big_quiet_step ((first|(go_at_call 91;(with_reducible refine Class.same _ (gc.out _)))|(go_at_call 90;(with_reducible refine Class.go _ (gf.out _))))))
  refine wpQuiet_nil ?_
  rintro _ ⟨x_1,rfl⟩
  have hx_1 : Calm W0_1 x_1.wd:=x_1.ok
  have bw2 : Below w.heap.size w x_1.wd:=bt bW0_1 hx_1
  clear kn2;replace kk2:=blk_below hx_1 kk2;have kn2:=kn kk2
  clear kn3;replace kk3:=blk_below hx_1 kk3;have kn3:=kn kk3
  clear kn4;replace kk4:=blk_below hx_1 kk4;have kn4:=kn kk4
  clear hx_1 bW0_1 hN_1
  generalize x_1.wd = w2 at *
  have sw2:=bw2.size
  go_wp2_with fail
  (with_reducible refine (gk.out _).mono ?_)
  rintro e w3 ⟨rfl,hw3⟩
  have kk5 : blk w3 (w1.heap.size) = some (#[.int .i64 no,.int .u64 sq,.int .i64 of,.int .i64 de,.int .i64 pr,.int .i64 bo,.int .i64 li,.int .i64 to,.string dd]):=(by (apply jt;(focus repeat(first|(with_reducible first|assumption|apply jd|apply js)|((with_reducible apply jo);first|focus(dsimp only;assumption)|focus(simp;done)|focus(dsimp only;omega))|((with_reducible apply jn);first|with_reducible rfl|focus(simp;done)|focus(simp;omega))|(with_reducible apply ja)|((with_reducible apply jb);with_reducible assumption)));rfl))
  have kk6 : blk w3 (w.heap.size) = some (#[.int .i64 0,.int .u64 0,.int .i64 0,.int .i64 0,.int .i64 0,.int .i64 0,.int .i64 0,.int .i64 0,.string ⟨#[]⟩]):=(by (apply jt;(focus repeat(first|(with_reducible first|assumption|apply jd|apply js)|((with_reducible apply jo);first|focus(dsimp only;assumption)|focus(simp;done)|focus(dsimp only;omega))|((with_reducible apply jn);first|with_reducible rfl|focus(simp;done)|focus(simp;omega))|(with_reducible apply ja)|((with_reducible apply jb);with_reducible assumption)));rfl))
  have kk7 : blk w3 (w.heap.size + 1) = some (#[.int .i64 0,.int .i64 0]):=(by (apply jt;(focus repeat(first|(with_reducible first|assumption|apply jd|apply js)|((with_reducible apply jo);first|focus(dsimp only;assumption)|focus(simp;done)|focus(dsimp only;omega))|((with_reducible apply jn);first|with_reducible rfl|focus(simp;done)|focus(simp;omega))|(with_reducible apply ja)|((with_reducible apply jb);with_reducible assumption)));rfl))
  clear kk2 kn2 kk3 kn3 kk4 kn4
  have kn5:=kn kk5
  have kn6:=kn kk6
  have kn7:=kn kk7
  have bw3 : Below w.heap.size w w3:=(by (repeat(first|(with_reducible first|assumption|exact Below.refl _ _|refine je ?_|refine jl ?_)|((with_reducible refine jp ?_ ?_);first|focus(dsimp only;assumption)|focus(simp;done)|focus(dsimp only;omega))|(with_reducible refine bt ?_ (by assumption)))))
  have sw3:=bw3.size
  clear hw3 bw2
  go_wp2_with fail
  (with_reducible refine (gw.out _).mono ?_)
  rintro e w4 ⟨rfl,hw4⟩
  have kk8 : blk w4 (w1.heap.size) = some (#[.int .i64 no,.int .u64 sq,.int .i64 of,.int .i64 de,.int .i64 pr,.int .i64 bo,.int .i64 li,.int .i64 to,.string dd]):=(by (apply jt;(focus repeat(first|(with_reducible first|assumption|apply jd|apply js)|((with_reducible apply jo);first|focus(dsimp only;assumption)|focus(simp;done)|focus(dsimp only;omega))|((with_reducible apply jn);first|with_reducible rfl|focus(simp;done)|focus(simp;omega))|(with_reducible apply ja)|((with_reducible apply jb);with_reducible assumption)));rfl))
  have kk9 : blk w4 (w.heap.size) = some (#[.int .i64 0,.int .u64 0,.int .i64 0,.int .i64 0,.int .i64 0,.int .i64 0,.int .i64 0,.int .i64 0,.string ⟨#[]⟩]):=(by (apply jt;(focus repeat(first|(with_reducible first|assumption|apply jd|apply js)|((with_reducible apply jo);first|focus(dsimp only;assumption)|focus(simp;done)|focus(dsimp only;omega))|((with_reducible apply jn);first|with_reducible rfl|focus(simp;done)|focus(simp;omega))|(with_reducible apply ja)|((with_reducible apply jb);with_reducible assumption)));rfl))
  have kk10 : blk w4 (w.heap.size + 1) = some (#[.int .i64 0,.int .i64 0]):=(by (apply jt;(focus repeat(first|(with_reducible first|assumption|apply jd|apply js)|((with_reducible apply jo);first|focus(dsimp only;assumption)|focus(simp;done)|focus(dsimp only;omega))|((with_reducible apply jn);first|with_reducible rfl|focus(simp;done)|focus(simp;omega))|(with_reducible apply ja)|((with_reducible apply jb);with_reducible assumption)));rfl))
  clear kk5 kn5 kk6 kn6 kk7 kn7
  have kn8:=kn kk8
  have kn9:=kn kk9
  have kn10:=kn kk10
  have bw4 : Below w.heap.size w w4:=(by (repeat(first|(with_reducible first|assumption|exact Below.refl _ _|refine je ?_|refine jl ?_)|((with_reducible refine jp ?_ ?_);first|focus(dsimp only;assumption)|focus(simp;done)|focus(dsimp only;omega))|(with_reducible refine bt ?_ (by assumption)))))
  have sw4:=bw4.size
  clear hw4 bw3
  go_wp2
  refine ret_blk2 (b:=w.heap.size) (d:=w.heap.size + 1) (c:=#[.int .i64 no,.int .u64 sq,.int .i64 of,.int .i64 de,.int .i64 pr,.int .i64 bo,.int .i64 li,.int .i64 to,.string dd]) (c':=#[.int .i64 0,.int .i64 0]) (v:=.tuple #[.agg #[.int .i64 no,.int .u64 sq,.int .i64 of,.int .i64 de,.int .i64 pr,.int .i64 bo,.int .i64 li,.int .i64 to,.string dd],.agg #[.int .i64 0,.int .i64 0]]) (by (apply jt;(focus repeat(first|(with_reducible first|assumption|apply jd|apply js)|((with_reducible apply jo);first|focus(dsimp only;assumption)|focus(simp;done)|focus(dsimp only;omega))|((with_reducible apply jn);first|with_reducible rfl|focus(simp;done)|focus(simp;omega))|(with_reducible apply ja)|((with_reducible apply jb);with_reducible assumption)));rfl)) (by (apply jt;(focus repeat(first|(with_reducible first|assumption|apply jd|apply js)|((with_reducible apply jo);first|focus(dsimp only;assumption)|focus(simp;done)|focus(dsimp only;omega))|((with_reducible apply jn);first|with_reducible rfl|focus(simp;done)|focus(simp;omega))|(with_reducible apply ja)|((with_reducible apply jb);with_reducible assumption)));rfl)) (fun W' e1 e2 => by simp [results,Tryd.results58,go_sem,e1,e2]) rfl ⟨rfl,by (repeat(first|(with_reducible first|assumption|exact Below.refl _ _|refine je ?_|refine jl ?_)|((with_reducible refine jp ?_ ?_);first|focus(dsimp only;assumption)|focus(simp;done)|focus(dsimp only;omega))|(with_reducible refine bt ?_ (by assumption))))⟩
end Go.Proofs.YtaiofjffoboicaaDoor
namespace Go.Proofs.YtaiofjffoboicaaDoor
open Go.RowKit
theorem refDecode_any (s : ByteArray) (hs : s.size ≤ 1000000) (w : World) :
    Calls Tryd.prog 58 #[.string s] w fun e w' => e = .returned (decV (decL s.data.toList)) ∧ Below w.heap.size w w':=by
  have hl : s.data.toList.length = s.size:=by simp
  obtain ⟨⟨pr,fu,r0⟩,hst⟩ : ∃ x,startR s.data.toList = x:=⟨_,rfl⟩
  obtain ⟨rj,hJ,hS⟩:=fields_same s.data.toList fu r0
  obtain ⟨⟨no,sq,of,de,bo,li,to,⟨q,er',fa'⟩⟩,hX⟩ : ∃ X,fieldsR s.data.toList fu r0 = X:=⟨_,rfl⟩
  rw [hX] at hJ hS
  have hdec : decL s.data.toList = decF s.data.toList pr fu ⟨no,sq,of,de,bo,li,to,⟨q,er',fa'⟩⟩:=by
    unfold decL;rw [hst];simp only;rw [hX]
  rw [hdec]
  have hok:=fieldsR_ok s.data.toList fu r0
  rw [hX] at hok
  have cf0:=fun b w hb => refFields_any b s (by unfold maxLen;omega) pr fu r0 hst _ hJ w hb
  obtain ⟨q',er2,fa2⟩:=rj
  obtain ⟨h1,h2,h3⟩:=hS
  simp only at h1 h2 h3 cf0
  subst h1 h2
  have cf : ∀ b w,blk w b = some (rdC s 0 0 0) → Calls Tryd.prog 89 #[.pointer (some ⟨b,0,none⟩)] w fun x w' => x = .returned (.tuple #[buv no sq of de pr bo li to ⟨#[]⟩,.bool fu]) ∧ (∃ p,blk w' b = some (rdC s p er' fa') ∧ (er' = 0 → p = q)) ∧ Touch b w w' :=
    fun b w hb => (cf0 b w hb).mono fun x w' ⟨a1,⟨p,a2,a4⟩,a3⟩ => ⟨a1,⟨p,a2,fun h => by rw [a4 h,h3 h]⟩,a3⟩
  clear cf0 h3 hJ
  unfold decF
  by_cases he : er' = 0
  · subst he
    rw [if_neg (by simp)]
    obtain ⟨_,j,no',sq',of',de',bo',li',to',qn,_,hq,hqn,_⟩:=hok rfl
    simp only at hq
    subst hq
    rw [hl] at hqn
    obtain ⟨⟨d,nx,te⟩,ht⟩ : ∃ t,getTextN s.data.toList qn 1000 = t:=⟨_,rfl⟩
    simp only
    rw [ht]
    unfold decT
    by_cases hte : te = 0
    · subst hte
      obtain ⟨n,rfl,hn,hdr⟩:=textN_only s.data.toList qn d nx ht
      rw [hl] at hn
      have hdl : d.length ≤ s.size:=by
        have:=congrArg List.length hdr
        simp only [List.length_drop,List.length_append,putTextN,hl] at this
        omega
      obtain ⟨dd,rfl⟩ : ∃ dd : ByteArray,d = dd.data.toList:=⟨⟨d.toArray⟩,rfl⟩
      have hdd : dd.data.toList.length = dd.size:=by simp
      rw [hdd] at hdl
      have hd : dd.size ≤ 1000000:=by omega
      simp only [ne_eq,not_true_eq_false,if_false]
      rw [hl,hdd,show ((n : Int)).toNat = n by omega]
      have hbad : ∀ e a : Int,decV (.bad e a) = .tuple #[.agg #[.int .i64 0,.int .u64 0,.int .i64 0,.int .i64 0,.int .i64 0,.int .i64 0,.int .i64 0,.int .i64 0,.string ⟨#[]⟩],.agg #[.int .i64 e,.int .i64 a]]:=fun e a => rfl
      have hbs : (⟨dd.data.toList.toArray⟩ : ByteArray) = dd:=by simp
      by_cases h1 : (s.size : Int) - (n : Int) < 4
      · rw [if_pos h1,hbad]
        cases fu
        · exact rdec1_false s hs no sq of de bo li to qn 0 fa' pr cf rfl dd n ht (by omega) (by omega) hn hd h1 w
        · exact rdec1_true s hs no sq of de bo li to qn 0 fa' pr cf rfl dd n ht (by omega) (by omega) hn hd h1 w
      · rw [if_neg h1]
        have h1' : n + 4 ≤ s.size:=by omega
        by_cases h2 : (s.data.toList.drop n).take 4 = four (crcN (s.data.toList.take n))
        · rw [if_neg (by simp [h2])]
          by_cases h3 : (n : Int) + 4 < (s.size : Int)
          · rw [if_pos h3,hbad]
            cases fu
            · exact rdec3_false s hs no sq of de bo li to qn 0 fa' pr cf rfl dd n ht (by omega) (by omega) hn hd h1' h2 (by omega) w
            · exact rdec3_true s hs no sq of de bo li to qn 0 fa' pr cf rfl dd n ht (by omega) (by omega) hn hd h1' h2 (by omega) w
          · rw [if_neg h3]
            have h3' : s.size = n + 4:=by omega
            cases fu
            · simp only [Bool.false_eq_true,if_false,true_and]
              by_cases h4 : buC no sq of de pr bo li to dd.size = 0
              · rw [if_neg (by simp [h4])]
                by_cases h5 : wholeB of to dd.size = true
                · rw [if_pos h5,hbad]
                  exact rdec5_false s hs no sq of de bo li to qn 0 fa' pr cf rfl dd n ht (by omega) (by omega) hn hd h1' h2 h3' h4 h5 w
                · rw [if_neg h5]
                  have:=rdec6_false s hs no sq of de bo li to qn 0 fa' pr cf rfl dd n ht (by omega) (by omega) hn hd h1' h2 h3' h4 false (by simpa using h5) (fun h => h) w
                  unfold decV;simp only [hbs];exact this
              · rw [if_pos h4,hbad]
                exact rdec4_false s hs no sq of de bo li to qn 0 fa' pr cf rfl dd n ht (by omega) (by omega) hn hd h1' h2 h3' _ rfl h4 w
            · simp only [if_true,Bool.true_eq_false,false_and,if_false]
              by_cases h4 : buC no sq of de pr bo li dd.size dd.size = 0
              · rw [if_neg (by simp [h4])]
                have:=rdec6_true s hs no sq of de bo li to qn 0 fa' pr cf rfl dd n ht (by omega) (by omega) hn hd h1' h2 h3' h4 _ rfl (fun _ => rfl) w
                unfold decV;simp only [hbs];exact this
              · rw [if_pos h4,hbad]
                exact rdec4_true s hs no sq of de bo li to qn 0 fa' pr cf rfl dd n ht (by omega) (by omega) hn hd h1' h2 h3' _ rfl h4 w
        · rw [if_pos h2,hbad]
          cases fu
          · exact rdec2_false s hs no sq of de bo li to qn 0 fa' pr cf rfl dd n ht (by omega) (by omega) hn hd h1' h2 w
          · exact rdec2_true s hs no sq of de bo li to qn 0 fa' pr cf rfl dd n ht (by omega) (by omega) hn hd h1' h2 w
    · rw [if_pos hte]
      cases fu
      · exact rdecB_false s hs no sq of de bo li to qn 0 fa' pr cf rfl d nx te ht (by omega) (by omega) hte w
      · exact rdecB_true s hs no sq of de bo li to qn 0 fa' pr cf rfl d nx te ht (by omega) (by omega) hte w
  · rw [if_pos he]
    cases fu
    · exact rdecA_false s hs no sq of de bo li to q er' fa' pr cf he w
    · exact rdecA_true s hs no sq of de bo li to q er' fa' pr cf he w
end Go.Proofs.YtaiofjffoboicaaDoor
