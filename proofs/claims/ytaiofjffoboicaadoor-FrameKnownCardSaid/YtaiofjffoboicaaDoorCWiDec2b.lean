/- Parts of a proof, printed by a program of mine out of my texts: WiDec2b. -/
import Derived.Test.YtaiofjffoboicaaDoorCF
set_option linter.unusedSimpArgs false
set_option linter.unusedVariables false
namespace Go.Proofs.YtaiofjffoboicaaDoor
open Go.RowKit
set_option maxRecDepth 100000 in
set_option maxHeartbeats 3200000 in
theorem dec2_true (s : ByteArray) (hs : s.size ≤ 1000000) (pr : Int) (p er fa : Int) (no sq of de bo li to q er' fa' : Int) (hst : startR s.data.toList = (pr,true,⟨p,er,fa⟩)) (hX : fieldsR s.data.toList true ⟨p,er,fa⟩ = ⟨no,sq,of,de,bo,li,to,⟨q,er',fa'⟩⟩) (hX0 : er' = 0) (dd : ByteArray) (n : Nat) (ht : getTextN s.data.toList q 1000 = (dd.data.toList,(n : Int),0)) (hq1 : 0 ≤ q) (hq2 : q ≤ s.size) (hn : n ≤ s.size) (hd : dd.size ≤ 1000000) (c1 : n + 4 ≤ s.size) (c2 : sealedB (s.extract 0 (n + 4)).data.toList n = false) (w : World) (hH : HTab w) (hT : STab w) :
    Calls Tryd.prog 54 #[.string s] w fun e w' => e = .returned (.tuple #[.agg #[.int .i64 0,.int .u64 0,.int .i64 0,.int .i64 0,.int .i64 0,.int .i64 0,.int .i64 0,.int .i64 0,.string ⟨#[]⟩],.agg #[.int .i64 10,.int .i64 (n : Int)]]) ∧ Below w.heap.size w w':=by
  have cs:=fun b w h hb => start_any b s (by unfold maxLen;omega) w h hb
  have hp:=startR_pos s.data.toList
  rw [show s.data.toList.length = s.size by simp] at hp
  rw [hst] at cs hp
  simp only at cs hp
  have cf:=fun b w hb => fields_any b s p er fa pr true (by unfold maxLen;omega) hp.1 hp.2 _ hX w hb
  simp only at cf
  replace cs:=Lib.hid cs;replace cf:=Lib.hid cf
  clear hst hX hp
  have HT:=Lib.hid hH;clear hH
  have ST:=Lib.hid hT;clear hT
  subst hX0
  have ct:=fun b w hb => text_read b s q 0 fa' no sq of de pr bo li to ⟨#[]⟩ true 1000 (by unfold maxLen;omega) (by omega) (by omega) (by omega) w hb
  rw [rdT_go s.data.toList 1000 q fa' n 0 dd.data.toList ht,if_neg (by simp)] at ct
  simp only [show ∀ v : ByteArray,bstr v.data.toList = .string v from fun v => rfl] at ct
  replace ct:=Lib.hid ct
  have hdm : dd.size ≤ maxLen:=by unfold maxLen;omega
  have gc:=fun w => check_any no sq of de pr bo li (dd.size : Int) dd hdm w
  obtain ⟨bc,hbc⟩ : ∃ bc,buC no sq of de pr bo li (dd.size : Int) dd.size = bc:=⟨_,rfl⟩
  rw [hbc] at gc
  replace gc:=Lib.hid gc
  have gs : (s.extract 0 (n + 4)).size = n + 4:=by simp;omega
  have go:=Lib.hid fun w h => open_bad (s.extract 0 (n + 4)) n gs (by omega) c2 w h
  have c4 : ¬ ((s.size : Int) - (n : Int) < 4):=by omega
  have hn4 : n + 4 ≤ s.size:=c1
  have hcs:=Lib.hid hbc;clear hbc
  clear ht hdm c2
  go_enter Tryd.func54,Tryd.ntmps54
  go_wp2_with fail
  (with_reducible refine (cs.out _ _ ?_ ?_).mono ?_)
  · exact HT.out.on (by (repeat(first|(with_reducible first|assumption|exact Below.refl _ _|refine je ?_|refine jl ?_)|((with_reducible refine jp ?_ ?_);first|focus(dsimp only;assumption)|focus(simp;done)|focus(dsimp only;omega))|(with_reducible refine bt ?_ (by assumption)))))
  · exact blk_alloc_new _ _ _ (by simp)
  rintro e w1 ⟨rfl,k1,b1⟩
  have x1 : blk w1 w.heap.size = some (#[.int .i64 0,.int .u64 0,.int .i64 0,.int .i64 0,.int .i64 0,.int .i64 0,.int .i64 0,.int .i64 0,.string ⟨#[]⟩]):=kept_blk b1 (by first|omega|(simp;omega)|simp) (by (apply jt;(focus repeat(first|(with_reducible first|assumption|apply js)|((with_reducible apply jo);first|focus(dsimp only;assumption)|focus(simp;done)|focus(dsimp only;omega))|((with_reducible apply jn);first|with_reducible rfl|focus(simp;done)|focus(simp;omega))|(with_reducible apply ja)|((with_reducible apply jb);with_reducible assumption)));rfl))
  have y1 : blk w1 (w.heap.size + 1) = some #[.int .i64 0,.int .i64 0]:=kept_blk b1 (by first|omega|(simp;omega)|simp) (by (apply jt;(focus repeat(first|(with_reducible first|assumption|apply js)|((with_reducible apply jo);first|focus(dsimp only;assumption)|focus(simp;done)|focus(dsimp only;omega))|((with_reducible apply jn);first|with_reducible rfl|focus(simp;done)|focus(simp;omega))|(with_reducible apply ja)|((with_reducible apply jb);with_reducible assumption)));rfl))
  have B1 : Below w.heap.size w w1:=((((Below.refl w.heap.size w).alloc (Nat.le_refl _) _).alloc (by simp) _).alloc (by simp;omega) _).trans (b1.mono (by omega))
  clear b1
  have kn1:=kn k1
  go_wp2_with fail
  (with_reducible refine (cf.out _ _ k1).mono ?_)
  rintro e w2 ⟨rfl,k2,b2⟩
  have x2:=kept_blk b2 (by omega) x1
  have y2:=kept_blk b2 (by omega) y1
  have B2 : Below w.heap.size w w2:=B1.trans (b2.mono (by omega))
  clear b2 x1 y1 B1 kn1 k1
  have kn2:=kn k2
  go_wp2_with fail
  (with_reducible refine (ct.out _ _ k2).mono ?_)
  rintro e w3 ⟨rfl,k3,b3⟩
  have x3:=kept_blk b3 (by omega) x2
  have y3:=kept_blk b3 (by omega) y2
  have B3 : Below w.heap.size w w3:=B2.trans (b3.mono (by omega))
  clear b3 x2 y2 B2 kn2 k2
  have kn3:=kn k3
  have knx:=kn x3
  have kny:=kn y3
  go_wp2_with (first|(go_at_call 85;(with_reducible refine (go.out _ (ST.out.on (by (repeat(first|(with_reducible first|assumption|exact Below.refl _ _|refine je ?_|refine jl ?_)|((with_reducible refine jp ?_ ?_);first|focus(dsimp only;assumption)|focus(simp;done)|focus(dsimp only;omega))|(with_reducible refine bt ?_ (by assumption))))))).mono ?_);rintro e wo ⟨rfl,ho⟩;have ko : blk wo (w.heap.size + 1 + 1) = some (formC s (n : Int) 0 fa' no sq of de pr bo li (dd.size : Int) dd true):=(by (apply jt;(focus repeat(first|(with_reducible first|assumption|apply jd|apply js)|((with_reducible apply jo);first|focus(dsimp only;assumption)|focus(simp;done)|focus(dsimp only;omega))|((with_reducible apply jn);first|with_reducible rfl|focus(simp;done)|focus(simp;omega))|(with_reducible apply ja)|((with_reducible apply jb);with_reducible assumption)));rfl));have xo : blk wo w.heap.size = some (#[.int .i64 0,.int .u64 0,.int .i64 0,.int .i64 0,.int .i64 0,.int .i64 0,.int .i64 0,.int .i64 0,.string ⟨#[]⟩]):=(by (apply jt;(focus repeat(first|(with_reducible first|assumption|apply jd|apply js)|((with_reducible apply jo);first|focus(dsimp only;assumption)|focus(simp;done)|focus(dsimp only;omega))|((with_reducible apply jn);first|with_reducible rfl|focus(simp;done)|focus(simp;omega))|(with_reducible apply ja)|((with_reducible apply jb);with_reducible assumption)));rfl));have yo : blk wo (w.heap.size + 1) = some (#[.int .i64 0,.int .i64 0]):=(by (apply jt;(focus repeat(first|(with_reducible first|assumption|apply jd|apply js)|((with_reducible apply jo);first|focus(dsimp only;assumption)|focus(simp;done)|focus(dsimp only;omega))|((with_reducible apply jn);first|with_reducible rfl|focus(simp;done)|focus(simp;omega))|(with_reducible apply ja)|((with_reducible apply jb);with_reducible assumption)));rfl));have Bo : Below w.heap.size w wo:=(by (repeat(first|(with_reducible first|assumption|exact Below.refl _ _|refine je ?_|refine jl ?_)|((with_reducible refine jp ?_ ?_);first|focus(dsimp only;assumption)|focus(simp;done)|focus(dsimp only;omega))|(with_reducible refine bt ?_ (by assumption)))));have kno:=kn ko;have knxo:=kn xo;have knyo:=kn yo))
  refine wp_region_tail 8 (by kernel_rfl) (by kernel_rfl) ?_
  intro W0_1 hE_1 hN_1
  have bW0_1 : Below w.heap.size w W0_1:=(by rw [hE_1.out];(repeat(first|(with_reducible first|assumption|exact Below.refl _ _|refine je ?_|refine jl ?_)|((with_reducible refine jp ?_ ?_);first|focus(dsimp only;assumption)|focus(simp;done)|focus(dsimp only;omega))|(with_reducible refine bt ?_ (by assumption)))))
  have kk2 : blk W0_1 (w.heap.size + 1 + 1) = some (formC s (n : Int) 0 fa' no sq of de pr bo li (dd.size : Int) dd true):=(by rw [hE_1.out];(apply jt;(focus repeat(first|(with_reducible first|assumption|apply jd|apply js)|((with_reducible apply jo);first|focus(dsimp only;assumption)|focus(simp;done)|focus(dsimp only;omega))|((with_reducible apply jn);first|with_reducible rfl|focus(simp;done)|focus(simp;omega))|(with_reducible apply ja)|((with_reducible apply jb);with_reducible assumption)));rfl))
  have kk3 : blk W0_1 (w.heap.size) = some (#[.int .i64 0,.int .u64 0,.int .i64 0,.int .i64 0,.int .i64 0,.int .i64 0,.int .i64 0,.int .i64 0,.string ⟨#[]⟩]):=(by rw [hE_1.out];(apply jt;(focus repeat(first|(with_reducible first|assumption|apply jd|apply js)|((with_reducible apply jo);first|focus(dsimp only;assumption)|focus(simp;done)|focus(dsimp only;omega))|((with_reducible apply jn);first|with_reducible rfl|focus(simp;done)|focus(simp;omega))|(with_reducible apply ja)|((with_reducible apply jb);with_reducible assumption)));rfl))
  have kk4 : blk W0_1 (w.heap.size + 1) = some (#[.int .i64 0,.int .i64 0]):=(by rw [hE_1.out];(apply jt;(focus repeat(first|(with_reducible first|assumption|apply jd|apply js)|((with_reducible apply jo);first|focus(dsimp only;assumption)|focus(simp;done)|focus(dsimp only;omega))|((with_reducible apply jn);first|with_reducible rfl|focus(simp;done)|focus(simp;omega))|(with_reducible apply ja)|((with_reducible apply jb);with_reducible assumption)));rfl))
  have kn2:=calm_kn kk2
  have kn3:=calm_kn kk3
  have kn4:=calm_kn kk4
  clear hE_1
  simp only [List.take_succ_cons,List.take_zero,List.drop_succ_cons,List.drop_zero]
  repeat (go_big_quiet_step (fail))
  refine wpQuiet_nil ?_
  rintro _ ⟨x_1,rfl⟩
  have hx_1 : Calm W0_1 x_1.wd:=x_1.ok
  have bw35 : Below w.heap.size w x_1.wd:=bt bW0_1 hx_1
  clear kn2;replace kk2:=blk_below hx_1 kk2;have kn2:=kn kk2
  clear kn3;replace kk3:=blk_below hx_1 kk3;have kn3:=kn kk3
  clear kn4;replace kk4:=blk_below hx_1 kk4;have kn4:=kn kk4
  clear hx_1 bW0_1 hN_1
  generalize x_1.wd = w35 at *
  have sw35:=bw35.size
  go_wp2_with fail
  (with_reducible refine (fail_set (w.heap.size + 1 + 1) s n fa' no sq of de pr bo li (dd.size : Int) dd true 10 n _ ?_ (by decide)).mono ?_)
  · (apply jt;(focus repeat(first|(with_reducible first|assumption|apply jd|apply js)|((with_reducible apply jo);first|focus(dsimp only;assumption)|focus(simp;done)|focus(dsimp only;omega))|((with_reducible apply jn);first|with_reducible rfl|focus(simp;done)|focus(simp;omega))|(with_reducible apply ja)|((with_reducible apply jb);with_reducible assumption)));rfl)
  rintro e w4 ⟨rfl,k4,b4⟩
  have x4 : blk w4 w.heap.size = some (#[.int .i64 0,.int .u64 0,.int .i64 0,.int .i64 0,.int .i64 0,.int .i64 0,.int .i64 0,.int .i64 0,.string ⟨#[]⟩]):=kept_blk b4 (by omega) (by (apply jt;(focus repeat(first|(with_reducible first|assumption|apply jd|apply js)|((with_reducible apply jo);first|focus(dsimp only;assumption)|focus(simp;done)|focus(dsimp only;omega))|((with_reducible apply jn);first|with_reducible rfl|focus(simp;done)|focus(simp;omega))|(with_reducible apply ja)|((with_reducible apply jb);with_reducible assumption)));rfl))
  have y4 : blk w4 (w.heap.size + 1) = some (#[.int .i64 0,.int .i64 0]):=kept_blk b4 (by omega) (by (apply jt;(focus repeat(first|(with_reducible first|assumption|apply jd|apply js)|((with_reducible apply jo);first|focus(dsimp only;assumption)|focus(simp;done)|focus(dsimp only;omega))|((with_reducible apply jn);first|with_reducible rfl|focus(simp;done)|focus(simp;omega))|(with_reducible apply ja)|((with_reducible apply jb);with_reducible assumption)));rfl))
  have B4 : Below w.heap.size w w4:=Below.trans (by (repeat(first|(with_reducible first|assumption|exact Below.refl _ _|refine je ?_|refine jl ?_)|((with_reducible refine jp ?_ ?_);first|focus(dsimp only;assumption)|focus(simp;done)|focus(dsimp only;omega))|(with_reducible refine bt ?_ (by assumption))))) (b4.mono (by omega))
  clear b4
  have kn4:=kn k4;have knx4:=kn x4;have kny4:=kn y4
  clear ko xo yo kno knxo knyo
  have gk:=Lib.hid fun e a W hb => fail_keep (w.heap.size + 1 + 1) s n 10 n no sq of de pr bo li (dd.size : Int) dd true e a W hb (.inl (by decide))
  by_cases c5 : (n : Int) + 4 < (s.size : Int)
  · go_wp2_with fail
    refine wp_region_in (by kernel_rfl) (by kernel_rfl) ?_
    intro W0_5 hE_5 hN_5
    have bW0_5 : Below w.heap.size w W0_5:=(by rw [hE_5.out];(repeat(first|(with_reducible first|assumption|exact Below.refl _ _|refine je ?_|refine jl ?_)|((with_reducible refine jp ?_ ?_);first|focus(dsimp only;assumption)|focus(simp;done)|focus(dsimp only;omega))|(with_reducible refine bt ?_ (by assumption)))))
    have kk6 : blk W0_5 (w.heap.size + 1 + 1) = some (formC s (n : Int) 10 (n : Int) no sq of de pr bo li (dd.size : Int) dd true):=(by rw [hE_5.out];(apply jt;(focus repeat(first|(with_reducible first|assumption|apply jd|apply js)|((with_reducible apply jo);first|focus(dsimp only;assumption)|focus(simp;done)|focus(dsimp only;omega))|((with_reducible apply jn);first|with_reducible rfl|focus(simp;done)|focus(simp;omega))|(with_reducible apply ja)|((with_reducible apply jb);with_reducible assumption)));rfl))
    have kk7 : blk W0_5 (w.heap.size) = some (#[.int .i64 0,.int .u64 0,.int .i64 0,.int .i64 0,.int .i64 0,.int .i64 0,.int .i64 0,.int .i64 0,.string ⟨#[]⟩]):=(by rw [hE_5.out];(apply jt;(focus repeat(first|(with_reducible first|assumption|apply jd|apply js)|((with_reducible apply jo);first|focus(dsimp only;assumption)|focus(simp;done)|focus(dsimp only;omega))|((with_reducible apply jn);first|with_reducible rfl|focus(simp;done)|focus(simp;omega))|(with_reducible apply ja)|((with_reducible apply jb);with_reducible assumption)));rfl))
    have kk8 : blk W0_5 (w.heap.size + 1) = some (#[.int .i64 0,.int .i64 0]):=(by rw [hE_5.out];(apply jt;(focus repeat(first|(with_reducible first|assumption|apply jd|apply js)|((with_reducible apply jo);first|focus(dsimp only;assumption)|focus(simp;done)|focus(dsimp only;omega))|((with_reducible apply jn);first|with_reducible rfl|focus(simp;done)|focus(simp;omega))|(with_reducible apply ja)|((with_reducible apply jb);with_reducible assumption)));rfl))
    clear kk2 kn2 kk3 kn3 kk4 kn4
    have kn6:=calm_kn kk6
    have kn7:=calm_kn kk7
    have kn8:=calm_kn kk8
    clear hE_5
    repeat (go_big_quiet_step ((go_at_call 84;(with_reducible refine Class.same _ (gk.out _ _ _ (calm_blk _ (by assumption)))))))
    refine wpQuiet_nil ?_
    rintro _ ⟨x_5,rfl⟩
    have hx_5 : Calm W0_5 x_5.wd:=x_5.ok
    have bw45 : Below w.heap.size w x_5.wd:=bt bW0_5 hx_5
    clear kn6;replace kk6:=blk_below hx_5 kk6;have kn6:=kn kk6
    clear kn7;replace kk7:=blk_below hx_5 kk7;have kn7:=kn kk7
    clear kn8;replace kk8:=blk_below hx_5 kk8;have kn8:=kn kk8
    clear hx_5 bW0_5 hN_5 bw35
    generalize x_5.wd = w45 at *
    have sw45:=bw45.size
    go_wp2_with fail
    refine wp_region_in (by kernel_rfl) (by kernel_rfl) ?_
    intro W0_9 hE_9 hN_9
    have bW0_9 : Below w.heap.size w W0_9:=(by rw [hE_9.out];(repeat(first|(with_reducible first|assumption|exact Below.refl _ _|refine je ?_|refine jl ?_)|((with_reducible refine jp ?_ ?_);first|focus(dsimp only;assumption)|focus(simp;done)|focus(dsimp only;omega))|(with_reducible refine bt ?_ (by assumption)))))
    have kk10 : blk W0_9 (w.heap.size + 1 + 1) = some (formC s (n : Int) 10 (n : Int) no sq of de pr bo li (dd.size : Int) dd true):=(by rw [hE_9.out];(apply jt;(focus repeat(first|(with_reducible first|assumption|apply jd|apply js)|((with_reducible apply jo);first|focus(dsimp only;assumption)|focus(simp;done)|focus(dsimp only;omega))|((with_reducible apply jn);first|with_reducible rfl|focus(simp;done)|focus(simp;omega))|(with_reducible apply ja)|((with_reducible apply jb);with_reducible assumption)));rfl))
    have kk11 : blk W0_9 (w.heap.size) = some (#[.int .i64 0,.int .u64 0,.int .i64 0,.int .i64 0,.int .i64 0,.int .i64 0,.int .i64 0,.int .i64 0,.string ⟨#[]⟩]):=(by rw [hE_9.out];(apply jt;(focus repeat(first|(with_reducible first|assumption|apply jd|apply js)|((with_reducible apply jo);first|focus(dsimp only;assumption)|focus(simp;done)|focus(dsimp only;omega))|((with_reducible apply jn);first|with_reducible rfl|focus(simp;done)|focus(simp;omega))|(with_reducible apply ja)|((with_reducible apply jb);with_reducible assumption)));rfl))
    have kk12 : blk W0_9 (w.heap.size + 1) = some (#[.int .i64 0,.int .i64 0]):=(by rw [hE_9.out];(apply jt;(focus repeat(first|(with_reducible first|assumption|apply jd|apply js)|((with_reducible apply jo);first|focus(dsimp only;assumption)|focus(simp;done)|focus(dsimp only;omega))|((with_reducible apply jn);first|with_reducible rfl|focus(simp;done)|focus(simp;omega))|(with_reducible apply ja)|((with_reducible apply jb);with_reducible assumption)));rfl))
    clear kk6 kn6 kk7 kn7 kk8 kn8
    have kn10:=calm_kn kk10
    have kn11:=calm_kn kk11
    have kn12:=calm_kn kk12
    clear hE_9
    repeat (go_big_quiet_step ((first|(go_at_call 41;(with_reducible refine Class.go _ (gc.out _)))|(go_at_call 84;(with_reducible refine Class.same _ (gk.out _ _ _ (calm_blk _ (by assumption))))))))
    refine wpQuiet_nil ?_
    rintro _ ⟨x_9,rfl⟩
    have hx_9 : Calm W0_9 x_9.wd:=x_9.ok
    have bw5 : Below w.heap.size w x_9.wd:=bt bW0_9 hx_9
    clear kn10;replace kk10:=blk_below hx_9 kk10;have kn10:=kn kk10
    clear kn11;replace kk11:=blk_below hx_9 kk11;have kn11:=kn kk11
    clear kn12;replace kk12:=blk_below hx_9 kk12;have kn12:=kn kk12
    clear hx_9 bW0_9 hN_9 bw45
    generalize x_9.wd = w5 at *
    have sw5:=bw5.size
    all_goals
      go_wp2
      go_region_held3 (fun W => ∀ o,W.cell? ⟨w.heap.size + 1 + 1,o,none⟩ = (formC s (n : Int) 10 (n : Int) no sq of de pr bo li (dd.size : Int) dd true)[o]?) (exact fun o => blk_cell (by (apply jt;(focus repeat(first|(with_reducible first|assumption|apply jd|apply js)|((with_reducible apply jo);first|focus(dsimp only;assumption)|focus(simp;done)|focus(dsimp only;omega))|((with_reducible apply jn);first|with_reducible rfl|focus(simp;done)|focus(simp;omega))|(with_reducible apply ja)|((with_reducible apply jb);with_reducible assumption)));rfl)) o) (fail)
    all_goals
      go_wp2
      (refine ret_blk2 (b:=w.heap.size) (d:=w.heap.size + 1) (c:=#[.int .i64 0,.int .u64 0,.int .i64 0,.int .i64 0,.int .i64 0,.int .i64 0,.int .i64 0,.int .i64 0,.string ⟨#[]⟩]) (c':=#[.int .i64 10,.int .i64 (n : Int)]) (v:=.tuple #[.agg #[.int .i64 0,.int .u64 0,.int .i64 0,.int .i64 0,.int .i64 0,.int .i64 0,.int .i64 0,.int .i64 0,.string ⟨#[]⟩],.agg #[.int .i64 10,.int .i64 (n : Int)]]) (by (apply jt;(focus repeat(first|(with_reducible first|assumption|apply jd|apply js)|((with_reducible apply jo);first|focus(dsimp only;assumption)|focus(simp;done)|focus(dsimp only;omega))|((with_reducible apply jn);first|with_reducible rfl|focus(simp;done)|focus(simp;omega))|(with_reducible apply ja)|((with_reducible apply jb);with_reducible assumption)));rfl)) (by (apply jt;(focus repeat(first|(with_reducible first|assumption|apply jd|apply js)|((with_reducible apply jo);first|focus(dsimp only;assumption)|focus(simp;done)|focus(dsimp only;omega))|((with_reducible apply jn);first|with_reducible rfl|focus(simp;done)|focus(simp;omega))|(with_reducible apply ja)|((with_reducible apply jb);with_reducible assumption)));rfl)) (fun W' e1 e2 => by simp [results,Tryd.results54,go_sem,e1,e2]) rfl ⟨rfl,by (repeat(first|(with_reducible first|assumption|exact Below.refl _ _|refine je ?_|refine jl ?_)|((with_reducible refine jp ?_ ?_);first|focus(dsimp only;assumption)|focus(simp;done)|focus(dsimp only;omega))|(with_reducible refine bt ?_ (by assumption))))⟩)
  
  · go_wp2_with fail
    refine wp_region_in (by kernel_rfl) (by kernel_rfl) ?_
    intro W0_13 hE_13 hN_13
    have bW0_13 : Below w.heap.size w W0_13:=(by rw [hE_13.out];(repeat(first|(with_reducible first|assumption|exact Below.refl _ _|refine je ?_|refine jl ?_)|((with_reducible refine jp ?_ ?_);first|focus(dsimp only;assumption)|focus(simp;done)|focus(dsimp only;omega))|(with_reducible refine bt ?_ (by assumption)))))
    have kk14 : blk W0_13 (w.heap.size + 1 + 1) = some (formC s (n : Int) 10 (n : Int) no sq of de pr bo li (dd.size : Int) dd true):=(by rw [hE_13.out];(apply jt;(focus repeat(first|(with_reducible first|assumption|apply jd|apply js)|((with_reducible apply jo);first|focus(dsimp only;assumption)|focus(simp;done)|focus(dsimp only;omega))|((with_reducible apply jn);first|with_reducible rfl|focus(simp;done)|focus(simp;omega))|(with_reducible apply ja)|((with_reducible apply jb);with_reducible assumption)));rfl))
    have kk15 : blk W0_13 (w.heap.size) = some (#[.int .i64 0,.int .u64 0,.int .i64 0,.int .i64 0,.int .i64 0,.int .i64 0,.int .i64 0,.int .i64 0,.string ⟨#[]⟩]):=(by rw [hE_13.out];(apply jt;(focus repeat(first|(with_reducible first|assumption|apply jd|apply js)|((with_reducible apply jo);first|focus(dsimp only;assumption)|focus(simp;done)|focus(dsimp only;omega))|((with_reducible apply jn);first|with_reducible rfl|focus(simp;done)|focus(simp;omega))|(with_reducible apply ja)|((with_reducible apply jb);with_reducible assumption)));rfl))
    have kk16 : blk W0_13 (w.heap.size + 1) = some (#[.int .i64 0,.int .i64 0]):=(by rw [hE_13.out];(apply jt;(focus repeat(first|(with_reducible first|assumption|apply jd|apply js)|((with_reducible apply jo);first|focus(dsimp only;assumption)|focus(simp;done)|focus(dsimp only;omega))|((with_reducible apply jn);first|with_reducible rfl|focus(simp;done)|focus(simp;omega))|(with_reducible apply ja)|((with_reducible apply jb);with_reducible assumption)));rfl))
    have kn14:=calm_kn kk14
    have kn15:=calm_kn kk15
    have kn16:=calm_kn kk16
    clear hE_13
    repeat (go_big_quiet_step ((first|(go_at_call 41;(with_reducible refine Class.go _ (gc.out _)))|(go_at_call 84;(with_reducible refine Class.same _ (gk.out _ _ _ (calm_blk _ (by assumption))))))))
    refine wpQuiet_nil ?_
    rintro _ ⟨x_13,rfl⟩
    have hx_13 : Calm W0_13 x_13.wd:=x_13.ok
    have bw5 : Below w.heap.size w x_13.wd:=bt bW0_13 hx_13
    clear kn14;replace kk14:=blk_below hx_13 kk14;have kn14:=kn kk14
    clear kn15;replace kk15:=blk_below hx_13 kk15;have kn15:=kn kk15
    clear kn16;replace kk16:=blk_below hx_13 kk16;have kn16:=kn kk16
    clear hx_13 bW0_13 hN_13
    generalize x_13.wd = w5 at *
    have sw5:=bw5.size
    all_goals
      go_wp2
      go_region_held3 (fun W => ∀ o,W.cell? ⟨w.heap.size + 1 + 1,o,none⟩ = (formC s (n : Int) 10 (n : Int) no sq of de pr bo li (dd.size : Int) dd true)[o]?) (exact fun o => blk_cell (by (apply jt;(focus repeat(first|(with_reducible first|assumption|apply jd|apply js)|((with_reducible apply jo);first|focus(dsimp only;assumption)|focus(simp;done)|focus(dsimp only;omega))|((with_reducible apply jn);first|with_reducible rfl|focus(simp;done)|focus(simp;omega))|(with_reducible apply ja)|((with_reducible apply jb);with_reducible assumption)));rfl)) o) (fail)
    all_goals
      go_wp2
      (refine ret_blk2 (b:=w.heap.size) (d:=w.heap.size + 1) (c:=#[.int .i64 0,.int .u64 0,.int .i64 0,.int .i64 0,.int .i64 0,.int .i64 0,.int .i64 0,.int .i64 0,.string ⟨#[]⟩]) (c':=#[.int .i64 10,.int .i64 (n : Int)]) (v:=.tuple #[.agg #[.int .i64 0,.int .u64 0,.int .i64 0,.int .i64 0,.int .i64 0,.int .i64 0,.int .i64 0,.int .i64 0,.string ⟨#[]⟩],.agg #[.int .i64 10,.int .i64 (n : Int)]]) (by (apply jt;(focus repeat(first|(with_reducible first|assumption|apply jd|apply js)|((with_reducible apply jo);first|focus(dsimp only;assumption)|focus(simp;done)|focus(dsimp only;omega))|((with_reducible apply jn);first|with_reducible rfl|focus(simp;done)|focus(simp;omega))|(with_reducible apply ja)|((with_reducible apply jb);with_reducible assumption)));rfl)) (by (apply jt;(focus repeat(first|(with_reducible first|assumption|apply jd|apply js)|((with_reducible apply jo);first|focus(dsimp only;assumption)|focus(simp;done)|focus(dsimp only;omega))|((with_reducible apply jn);first|with_reducible rfl|focus(simp;done)|focus(simp;omega))|(with_reducible apply ja)|((with_reducible apply jb);with_reducible assumption)));rfl)) (fun W' e1 e2 => by simp [results,Tryd.results54,go_sem,e1,e2]) rfl ⟨rfl,by (repeat(first|(with_reducible first|assumption|exact Below.refl _ _|refine je ?_|refine jl ?_)|((with_reducible refine jp ?_ ?_);first|focus(dsimp only;assumption)|focus(simp;done)|focus(dsimp only;omega))|(with_reducible refine bt ?_ (by assumption))))⟩)
  
set_option maxRecDepth 100000 in
set_option maxHeartbeats 3200000 in
theorem dec2_false (s : ByteArray) (hs : s.size ≤ 1000000) (pr : Int) (p er fa : Int) (no sq of de bo li to q er' fa' : Int) (hst : startR s.data.toList = (pr,false,⟨p,er,fa⟩)) (hX : fieldsR s.data.toList false ⟨p,er,fa⟩ = ⟨no,sq,of,de,bo,li,to,⟨q,er',fa'⟩⟩) (hX0 : er' = 0) (dd : ByteArray) (n : Nat) (ht : getTextN s.data.toList q 1000 = (dd.data.toList,(n : Int),0)) (hq1 : 0 ≤ q) (hq2 : q ≤ s.size) (hn : n ≤ s.size) (hd : dd.size ≤ 1000000) (c1 : n + 4 ≤ s.size) (c2 : sealedB (s.extract 0 (n + 4)).data.toList n = false) (w : World) (hH : HTab w) (hT : STab w) :
    Calls Tryd.prog 54 #[.string s] w fun e w' => e = .returned (.tuple #[.agg #[.int .i64 0,.int .u64 0,.int .i64 0,.int .i64 0,.int .i64 0,.int .i64 0,.int .i64 0,.int .i64 0,.string ⟨#[]⟩],.agg #[.int .i64 10,.int .i64 (n : Int)]]) ∧ Below w.heap.size w w':=by
  have cs:=fun b w h hb => start_any b s (by unfold maxLen;omega) w h hb
  have hp:=startR_pos s.data.toList
  rw [show s.data.toList.length = s.size by simp] at hp
  rw [hst] at cs hp
  simp only at cs hp
  have cf:=fun b w hb => fields_any b s p er fa pr false (by unfold maxLen;omega) hp.1 hp.2 _ hX w hb
  simp only at cf
  replace cs:=Lib.hid cs;replace cf:=Lib.hid cf
  clear hst hX hp
  have HT:=Lib.hid hH;clear hH
  have ST:=Lib.hid hT;clear hT
  subst hX0
  have ct:=fun b w hb => text_read b s q 0 fa' no sq of de pr bo li to ⟨#[]⟩ false 1000 (by unfold maxLen;omega) (by omega) (by omega) (by omega) w hb
  rw [rdT_go s.data.toList 1000 q fa' n 0 dd.data.toList ht,if_neg (by simp)] at ct
  simp only [show ∀ v : ByteArray,bstr v.data.toList = .string v from fun v => rfl] at ct
  replace ct:=Lib.hid ct
  have hdm : dd.size ≤ maxLen:=by unfold maxLen;omega
  have gc:=fun w => check_any no sq of de pr bo li to dd hdm w
  obtain ⟨bc,hbc⟩ : ∃ bc,buC no sq of de pr bo li to dd.size = bc:=⟨_,rfl⟩
  rw [hbc] at gc
  replace gc:=Lib.hid gc
  have gw:=fun w => whole_any no sq of de pr bo li to dd hdm w
  obtain ⟨wh,hwh⟩ : ∃ wh,wholeB of to dd.size = wh:=⟨_,rfl⟩
  rw [hwh] at gw
  replace gw:=Lib.hid gw;clear hwh
  have gs : (s.extract 0 (n + 4)).size = n + 4:=by simp;omega
  have go:=Lib.hid fun w h => open_bad (s.extract 0 (n + 4)) n gs (by omega) c2 w h
  have c4 : ¬ ((s.size : Int) - (n : Int) < 4):=by omega
  have hn4 : n + 4 ≤ s.size:=c1
  have hcs:=Lib.hid hbc;clear hbc
  clear ht hdm c2
  go_enter Tryd.func54,Tryd.ntmps54
  go_wp2_with fail
  (with_reducible refine (cs.out _ _ ?_ ?_).mono ?_)
  · exact HT.out.on (by (repeat(first|(with_reducible first|assumption|exact Below.refl _ _|refine je ?_|refine jl ?_)|((with_reducible refine jp ?_ ?_);first|focus(dsimp only;assumption)|focus(simp;done)|focus(dsimp only;omega))|(with_reducible refine bt ?_ (by assumption)))))
  · exact blk_alloc_new _ _ _ (by simp)
  rintro e w1 ⟨rfl,k1,b1⟩
  have x1 : blk w1 w.heap.size = some (#[.int .i64 0,.int .u64 0,.int .i64 0,.int .i64 0,.int .i64 0,.int .i64 0,.int .i64 0,.int .i64 0,.string ⟨#[]⟩]):=kept_blk b1 (by first|omega|(simp;omega)|simp) (by (apply jt;(focus repeat(first|(with_reducible first|assumption|apply js)|((with_reducible apply jo);first|focus(dsimp only;assumption)|focus(simp;done)|focus(dsimp only;omega))|((with_reducible apply jn);first|with_reducible rfl|focus(simp;done)|focus(simp;omega))|(with_reducible apply ja)|((with_reducible apply jb);with_reducible assumption)));rfl))
  have y1 : blk w1 (w.heap.size + 1) = some #[.int .i64 0,.int .i64 0]:=kept_blk b1 (by first|omega|(simp;omega)|simp) (by (apply jt;(focus repeat(first|(with_reducible first|assumption|apply js)|((with_reducible apply jo);first|focus(dsimp only;assumption)|focus(simp;done)|focus(dsimp only;omega))|((with_reducible apply jn);first|with_reducible rfl|focus(simp;done)|focus(simp;omega))|(with_reducible apply ja)|((with_reducible apply jb);with_reducible assumption)));rfl))
  have B1 : Below w.heap.size w w1:=((((Below.refl w.heap.size w).alloc (Nat.le_refl _) _).alloc (by simp) _).alloc (by simp;omega) _).trans (b1.mono (by omega))
  clear b1
  have kn1:=kn k1
  go_wp2_with fail
  (with_reducible refine (cf.out _ _ k1).mono ?_)
  rintro e w2 ⟨rfl,k2,b2⟩
  have x2:=kept_blk b2 (by omega) x1
  have y2:=kept_blk b2 (by omega) y1
  have B2 : Below w.heap.size w w2:=B1.trans (b2.mono (by omega))
  clear b2 x1 y1 B1 kn1 k1
  have kn2:=kn k2
  go_wp2_with fail
  (with_reducible refine (ct.out _ _ k2).mono ?_)
  rintro e w3 ⟨rfl,k3,b3⟩
  have x3:=kept_blk b3 (by omega) x2
  have y3:=kept_blk b3 (by omega) y2
  have B3 : Below w.heap.size w w3:=B2.trans (b3.mono (by omega))
  clear b3 x2 y2 B2 kn2 k2
  have kn3:=kn k3
  have knx:=kn x3
  have kny:=kn y3
  go_wp2_with (first|(go_at_call 85;(with_reducible refine (go.out _ (ST.out.on (by (repeat(first|(with_reducible first|assumption|exact Below.refl _ _|refine je ?_|refine jl ?_)|((with_reducible refine jp ?_ ?_);first|focus(dsimp only;assumption)|focus(simp;done)|focus(dsimp only;omega))|(with_reducible refine bt ?_ (by assumption))))))).mono ?_);rintro e wo ⟨rfl,ho⟩;have ko : blk wo (w.heap.size + 1 + 1) = some (formC s (n : Int) 0 fa' no sq of de pr bo li to dd false):=(by (apply jt;(focus repeat(first|(with_reducible first|assumption|apply jd|apply js)|((with_reducible apply jo);first|focus(dsimp only;assumption)|focus(simp;done)|focus(dsimp only;omega))|((with_reducible apply jn);first|with_reducible rfl|focus(simp;done)|focus(simp;omega))|(with_reducible apply ja)|((with_reducible apply jb);with_reducible assumption)));rfl));have xo : blk wo w.heap.size = some (#[.int .i64 0,.int .u64 0,.int .i64 0,.int .i64 0,.int .i64 0,.int .i64 0,.int .i64 0,.int .i64 0,.string ⟨#[]⟩]):=(by (apply jt;(focus repeat(first|(with_reducible first|assumption|apply jd|apply js)|((with_reducible apply jo);first|focus(dsimp only;assumption)|focus(simp;done)|focus(dsimp only;omega))|((with_reducible apply jn);first|with_reducible rfl|focus(simp;done)|focus(simp;omega))|(with_reducible apply ja)|((with_reducible apply jb);with_reducible assumption)));rfl));have yo : blk wo (w.heap.size + 1) = some (#[.int .i64 0,.int .i64 0]):=(by (apply jt;(focus repeat(first|(with_reducible first|assumption|apply jd|apply js)|((with_reducible apply jo);first|focus(dsimp only;assumption)|focus(simp;done)|focus(dsimp only;omega))|((with_reducible apply jn);first|with_reducible rfl|focus(simp;done)|focus(simp;omega))|(with_reducible apply ja)|((with_reducible apply jb);with_reducible assumption)));rfl));have Bo : Below w.heap.size w wo:=(by (repeat(first|(with_reducible first|assumption|exact Below.refl _ _|refine je ?_|refine jl ?_)|((with_reducible refine jp ?_ ?_);first|focus(dsimp only;assumption)|focus(simp;done)|focus(dsimp only;omega))|(with_reducible refine bt ?_ (by assumption)))));have kno:=kn ko;have knxo:=kn xo;have knyo:=kn yo))
  refine wp_region_tail 8 (by kernel_rfl) (by kernel_rfl) ?_
  intro W0_17 hE_17 hN_17
  have bW0_17 : Below w.heap.size w W0_17:=(by rw [hE_17.out];(repeat(first|(with_reducible first|assumption|exact Below.refl _ _|refine je ?_|refine jl ?_)|((with_reducible refine jp ?_ ?_);first|focus(dsimp only;assumption)|focus(simp;done)|focus(dsimp only;omega))|(with_reducible refine bt ?_ (by assumption)))))
  have kk18 : blk W0_17 (w.heap.size + 1 + 1) = some (formC s (n : Int) 0 fa' no sq of de pr bo li to dd false):=(by rw [hE_17.out];(apply jt;(focus repeat(first|(with_reducible first|assumption|apply jd|apply js)|((with_reducible apply jo);first|focus(dsimp only;assumption)|focus(simp;done)|focus(dsimp only;omega))|((with_reducible apply jn);first|with_reducible rfl|focus(simp;done)|focus(simp;omega))|(with_reducible apply ja)|((with_reducible apply jb);with_reducible assumption)));rfl))
  have kk19 : blk W0_17 (w.heap.size) = some (#[.int .i64 0,.int .u64 0,.int .i64 0,.int .i64 0,.int .i64 0,.int .i64 0,.int .i64 0,.int .i64 0,.string ⟨#[]⟩]):=(by rw [hE_17.out];(apply jt;(focus repeat(first|(with_reducible first|assumption|apply jd|apply js)|((with_reducible apply jo);first|focus(dsimp only;assumption)|focus(simp;done)|focus(dsimp only;omega))|((with_reducible apply jn);first|with_reducible rfl|focus(simp;done)|focus(simp;omega))|(with_reducible apply ja)|((with_reducible apply jb);with_reducible assumption)));rfl))
  have kk20 : blk W0_17 (w.heap.size + 1) = some (#[.int .i64 0,.int .i64 0]):=(by rw [hE_17.out];(apply jt;(focus repeat(first|(with_reducible first|assumption|apply jd|apply js)|((with_reducible apply jo);first|focus(dsimp only;assumption)|focus(simp;done)|focus(dsimp only;omega))|((with_reducible apply jn);first|with_reducible rfl|focus(simp;done)|focus(simp;omega))|(with_reducible apply ja)|((with_reducible apply jb);with_reducible assumption)));rfl))
  have kn18:=calm_kn kk18
  have kn19:=calm_kn kk19
  have kn20:=calm_kn kk20
  clear hE_17
  simp only [List.take_succ_cons,List.take_zero,List.drop_succ_cons,List.drop_zero]
  repeat (go_big_quiet_step (fail))
  refine wpQuiet_nil ?_
  rintro _ ⟨x_17,rfl⟩
  have hx_17 : Calm W0_17 x_17.wd:=x_17.ok
  have bw35 : Below w.heap.size w x_17.wd:=bt bW0_17 hx_17
  clear kn18;replace kk18:=blk_below hx_17 kk18;have kn18:=kn kk18
  clear kn19;replace kk19:=blk_below hx_17 kk19;have kn19:=kn kk19
  clear kn20;replace kk20:=blk_below hx_17 kk20;have kn20:=kn kk20
  clear hx_17 bW0_17 hN_17
  generalize x_17.wd = w35 at *
  have sw35:=bw35.size
  go_wp2_with fail
  (with_reducible refine (fail_set (w.heap.size + 1 + 1) s n fa' no sq of de pr bo li to dd false 10 n _ ?_ (by decide)).mono ?_)
  · (apply jt;(focus repeat(first|(with_reducible first|assumption|apply jd|apply js)|((with_reducible apply jo);first|focus(dsimp only;assumption)|focus(simp;done)|focus(dsimp only;omega))|((with_reducible apply jn);first|with_reducible rfl|focus(simp;done)|focus(simp;omega))|(with_reducible apply ja)|((with_reducible apply jb);with_reducible assumption)));rfl)
  rintro e w4 ⟨rfl,k4,b4⟩
  have x4 : blk w4 w.heap.size = some (#[.int .i64 0,.int .u64 0,.int .i64 0,.int .i64 0,.int .i64 0,.int .i64 0,.int .i64 0,.int .i64 0,.string ⟨#[]⟩]):=kept_blk b4 (by omega) (by (apply jt;(focus repeat(first|(with_reducible first|assumption|apply jd|apply js)|((with_reducible apply jo);first|focus(dsimp only;assumption)|focus(simp;done)|focus(dsimp only;omega))|((with_reducible apply jn);first|with_reducible rfl|focus(simp;done)|focus(simp;omega))|(with_reducible apply ja)|((with_reducible apply jb);with_reducible assumption)));rfl))
  have y4 : blk w4 (w.heap.size + 1) = some (#[.int .i64 0,.int .i64 0]):=kept_blk b4 (by omega) (by (apply jt;(focus repeat(first|(with_reducible first|assumption|apply jd|apply js)|((with_reducible apply jo);first|focus(dsimp only;assumption)|focus(simp;done)|focus(dsimp only;omega))|((with_reducible apply jn);first|with_reducible rfl|focus(simp;done)|focus(simp;omega))|(with_reducible apply ja)|((with_reducible apply jb);with_reducible assumption)));rfl))
  have B4 : Below w.heap.size w w4:=Below.trans (by (repeat(first|(with_reducible first|assumption|exact Below.refl _ _|refine je ?_|refine jl ?_)|((with_reducible refine jp ?_ ?_);first|focus(dsimp only;assumption)|focus(simp;done)|focus(dsimp only;omega))|(with_reducible refine bt ?_ (by assumption))))) (b4.mono (by omega))
  clear b4
  have kn4:=kn k4;have knx4:=kn x4;have kny4:=kn y4
  clear ko xo yo kno knxo knyo
  have gk:=Lib.hid fun e a W hb => fail_keep (w.heap.size + 1 + 1) s n 10 n no sq of de pr bo li to dd false e a W hb (.inl (by decide))
  by_cases c5 : (n : Int) + 4 < (s.size : Int)
  · go_wp2_with fail
    refine wp_region_in (by kernel_rfl) (by kernel_rfl) ?_
    intro W0_21 hE_21 hN_21
    have bW0_21 : Below w.heap.size w W0_21:=(by rw [hE_21.out];(repeat(first|(with_reducible first|assumption|exact Below.refl _ _|refine je ?_|refine jl ?_)|((with_reducible refine jp ?_ ?_);first|focus(dsimp only;assumption)|focus(simp;done)|focus(dsimp only;omega))|(with_reducible refine bt ?_ (by assumption)))))
    have kk22 : blk W0_21 (w.heap.size + 1 + 1) = some (formC s (n : Int) 10 (n : Int) no sq of de pr bo li to dd false):=(by rw [hE_21.out];(apply jt;(focus repeat(first|(with_reducible first|assumption|apply jd|apply js)|((with_reducible apply jo);first|focus(dsimp only;assumption)|focus(simp;done)|focus(dsimp only;omega))|((with_reducible apply jn);first|with_reducible rfl|focus(simp;done)|focus(simp;omega))|(with_reducible apply ja)|((with_reducible apply jb);with_reducible assumption)));rfl))
    have kk23 : blk W0_21 (w.heap.size) = some (#[.int .i64 0,.int .u64 0,.int .i64 0,.int .i64 0,.int .i64 0,.int .i64 0,.int .i64 0,.int .i64 0,.string ⟨#[]⟩]):=(by rw [hE_21.out];(apply jt;(focus repeat(first|(with_reducible first|assumption|apply jd|apply js)|((with_reducible apply jo);first|focus(dsimp only;assumption)|focus(simp;done)|focus(dsimp only;omega))|((with_reducible apply jn);first|with_reducible rfl|focus(simp;done)|focus(simp;omega))|(with_reducible apply ja)|((with_reducible apply jb);with_reducible assumption)));rfl))
    have kk24 : blk W0_21 (w.heap.size + 1) = some (#[.int .i64 0,.int .i64 0]):=(by rw [hE_21.out];(apply jt;(focus repeat(first|(with_reducible first|assumption|apply jd|apply js)|((with_reducible apply jo);first|focus(dsimp only;assumption)|focus(simp;done)|focus(dsimp only;omega))|((with_reducible apply jn);first|with_reducible rfl|focus(simp;done)|focus(simp;omega))|(with_reducible apply ja)|((with_reducible apply jb);with_reducible assumption)));rfl))
    clear kk18 kn18 kk19 kn19 kk20 kn20
    have kn22:=calm_kn kk22
    have kn23:=calm_kn kk23
    have kn24:=calm_kn kk24
    clear hE_21
    repeat (go_big_quiet_step ((go_at_call 84;(with_reducible refine Class.same _ (gk.out _ _ _ (calm_blk _ (by assumption)))))))
    refine wpQuiet_nil ?_
    rintro _ ⟨x_21,rfl⟩
    have hx_21 : Calm W0_21 x_21.wd:=x_21.ok
    have bw45 : Below w.heap.size w x_21.wd:=bt bW0_21 hx_21
    clear kn22;replace kk22:=blk_below hx_21 kk22;have kn22:=kn kk22
    clear kn23;replace kk23:=blk_below hx_21 kk23;have kn23:=kn kk23
    clear kn24;replace kk24:=blk_below hx_21 kk24;have kn24:=kn kk24
    clear hx_21 bW0_21 hN_21 bw35
    generalize x_21.wd = w45 at *
    have sw45:=bw45.size
    go_wp2_with fail
    refine wp_region_in (by kernel_rfl) (by kernel_rfl) ?_
    intro W0_25 hE_25 hN_25
    have bW0_25 : Below w.heap.size w W0_25:=(by rw [hE_25.out];(repeat(first|(with_reducible first|assumption|exact Below.refl _ _|refine je ?_|refine jl ?_)|((with_reducible refine jp ?_ ?_);first|focus(dsimp only;assumption)|focus(simp;done)|focus(dsimp only;omega))|(with_reducible refine bt ?_ (by assumption)))))
    have kk26 : blk W0_25 (w.heap.size + 1 + 1) = some (formC s (n : Int) 10 (n : Int) no sq of de pr bo li to dd false):=(by rw [hE_25.out];(apply jt;(focus repeat(first|(with_reducible first|assumption|apply jd|apply js)|((with_reducible apply jo);first|focus(dsimp only;assumption)|focus(simp;done)|focus(dsimp only;omega))|((with_reducible apply jn);first|with_reducible rfl|focus(simp;done)|focus(simp;omega))|(with_reducible apply ja)|((with_reducible apply jb);with_reducible assumption)));rfl))
    have kk27 : blk W0_25 (w.heap.size) = some (#[.int .i64 0,.int .u64 0,.int .i64 0,.int .i64 0,.int .i64 0,.int .i64 0,.int .i64 0,.int .i64 0,.string ⟨#[]⟩]):=(by rw [hE_25.out];(apply jt;(focus repeat(first|(with_reducible first|assumption|apply jd|apply js)|((with_reducible apply jo);first|focus(dsimp only;assumption)|focus(simp;done)|focus(dsimp only;omega))|((with_reducible apply jn);first|with_reducible rfl|focus(simp;done)|focus(simp;omega))|(with_reducible apply ja)|((with_reducible apply jb);with_reducible assumption)));rfl))
    have kk28 : blk W0_25 (w.heap.size + 1) = some (#[.int .i64 0,.int .i64 0]):=(by rw [hE_25.out];(apply jt;(focus repeat(first|(with_reducible first|assumption|apply jd|apply js)|((with_reducible apply jo);first|focus(dsimp only;assumption)|focus(simp;done)|focus(dsimp only;omega))|((with_reducible apply jn);first|with_reducible rfl|focus(simp;done)|focus(simp;omega))|(with_reducible apply ja)|((with_reducible apply jb);with_reducible assumption)));rfl))
    clear kk22 kn22 kk23 kn23 kk24 kn24
    have kn26:=calm_kn kk26
    have kn27:=calm_kn kk27
    have kn28:=calm_kn kk28
    clear hE_25
    repeat (go_big_quiet_step ((first|(go_at_call 41;(with_reducible refine Class.go _ (gc.out _)))|(go_at_call 84;(with_reducible refine Class.same _ (gk.out _ _ _ (calm_blk _ (by assumption))))))))
    refine wpQuiet_nil ?_
    rintro _ ⟨x_25,rfl⟩
    have hx_25 : Calm W0_25 x_25.wd:=x_25.ok
    have bw5 : Below w.heap.size w x_25.wd:=bt bW0_25 hx_25
    clear kn26;replace kk26:=blk_below hx_25 kk26;have kn26:=kn kk26
    clear kn27;replace kk27:=blk_below hx_25 kk27;have kn27:=kn kk27
    clear kn28;replace kk28:=blk_below hx_25 kk28;have kn28:=kn kk28
    clear hx_25 bW0_25 hN_25 bw45
    generalize x_25.wd = w5 at *
    have sw5:=bw5.size
    go_wp2_with (first|(go_at_call 86;(with_reducible refine (gw.out _).mono ?_);rintro e ww ⟨rfl,hw⟩;have kw : blk ww (w.heap.size + 1 + 1) = some (formC s (n : Int) 10 (n : Int) no sq of de pr bo li to dd false):=(by (apply jt;(focus repeat(first|(with_reducible first|assumption|apply jd|apply js)|((with_reducible apply jo);first|focus(dsimp only;assumption)|focus(simp;done)|focus(dsimp only;omega))|((with_reducible apply jn);first|with_reducible rfl|focus(simp;done)|focus(simp;omega))|(with_reducible apply ja)|((with_reducible apply jb);with_reducible assumption)));rfl));have xw : blk ww w.heap.size = some (#[.int .i64 0,.int .u64 0,.int .i64 0,.int .i64 0,.int .i64 0,.int .i64 0,.int .i64 0,.int .i64 0,.string ⟨#[]⟩]):=(by (apply jt;(focus repeat(first|(with_reducible first|assumption|apply jd|apply js)|((with_reducible apply jo);first|focus(dsimp only;assumption)|focus(simp;done)|focus(dsimp only;omega))|((with_reducible apply jn);first|with_reducible rfl|focus(simp;done)|focus(simp;omega))|(with_reducible apply ja)|((with_reducible apply jb);with_reducible assumption)));rfl));have yw : blk ww (w.heap.size + 1) = some (#[.int .i64 0,.int .i64 0]):=(by (apply jt;(focus repeat(first|(with_reducible first|assumption|apply jd|apply js)|((with_reducible apply jo);first|focus(dsimp only;assumption)|focus(simp;done)|focus(dsimp only;omega))|((with_reducible apply jn);first|with_reducible rfl|focus(simp;done)|focus(simp;omega))|(with_reducible apply ja)|((with_reducible apply jb);with_reducible assumption)));rfl));have Bw : Below w.heap.size w ww:=(by (repeat(first|(with_reducible first|assumption|exact Below.refl _ _|refine je ?_|refine jl ?_)|((with_reducible refine jp ?_ ?_);first|focus(dsimp only;assumption)|focus(simp;done)|focus(dsimp only;omega))|(with_reducible refine bt ?_ (by assumption)))));have knw:=kn kw;have knxw:=kn xw;have knyw:=kn yw)|(go_at_call 84;(with_reducible refine (gk.out _ _ _ (by assumption)).mono ?_);rintro q wx ⟨rfl,rfl⟩))
    all_goals
      go_wp2
      go_region_held3 (fun W => ∀ o,W.cell? ⟨w.heap.size + 1 + 1,o,none⟩ = (formC s (n : Int) 10 (n : Int) no sq of de pr bo li to dd false)[o]?) (exact fun o => blk_cell (by (apply jt;(focus repeat(first|(with_reducible first|assumption|apply jd|apply js)|((with_reducible apply jo);first|focus(dsimp only;assumption)|focus(simp;done)|focus(dsimp only;omega))|((with_reducible apply jn);first|with_reducible rfl|focus(simp;done)|focus(simp;omega))|(with_reducible apply ja)|((with_reducible apply jb);with_reducible assumption)));rfl)) o) (fail)
    all_goals
      go_wp2
      (refine ret_blk2 (b:=w.heap.size) (d:=w.heap.size + 1) (c:=#[.int .i64 0,.int .u64 0,.int .i64 0,.int .i64 0,.int .i64 0,.int .i64 0,.int .i64 0,.int .i64 0,.string ⟨#[]⟩]) (c':=#[.int .i64 10,.int .i64 (n : Int)]) (v:=.tuple #[.agg #[.int .i64 0,.int .u64 0,.int .i64 0,.int .i64 0,.int .i64 0,.int .i64 0,.int .i64 0,.int .i64 0,.string ⟨#[]⟩],.agg #[.int .i64 10,.int .i64 (n : Int)]]) (by (apply jt;(focus repeat(first|(with_reducible first|assumption|apply jd|apply js)|((with_reducible apply jo);first|focus(dsimp only;assumption)|focus(simp;done)|focus(dsimp only;omega))|((with_reducible apply jn);first|with_reducible rfl|focus(simp;done)|focus(simp;omega))|(with_reducible apply ja)|((with_reducible apply jb);with_reducible assumption)));rfl)) (by (apply jt;(focus repeat(first|(with_reducible first|assumption|apply jd|apply js)|((with_reducible apply jo);first|focus(dsimp only;assumption)|focus(simp;done)|focus(dsimp only;omega))|((with_reducible apply jn);first|with_reducible rfl|focus(simp;done)|focus(simp;omega))|(with_reducible apply ja)|((with_reducible apply jb);with_reducible assumption)));rfl)) (fun W' e1 e2 => by simp [results,Tryd.results54,go_sem,e1,e2]) rfl ⟨rfl,by (repeat(first|(with_reducible first|assumption|exact Below.refl _ _|refine je ?_|refine jl ?_)|((with_reducible refine jp ?_ ?_);first|focus(dsimp only;assumption)|focus(simp;done)|focus(dsimp only;omega))|(with_reducible refine bt ?_ (by assumption))))⟩)
  
  · go_wp2_with fail
    refine wp_region_in (by kernel_rfl) (by kernel_rfl) ?_
    intro W0_29 hE_29 hN_29
    have bW0_29 : Below w.heap.size w W0_29:=(by rw [hE_29.out];(repeat(first|(with_reducible first|assumption|exact Below.refl _ _|refine je ?_|refine jl ?_)|((with_reducible refine jp ?_ ?_);first|focus(dsimp only;assumption)|focus(simp;done)|focus(dsimp only;omega))|(with_reducible refine bt ?_ (by assumption)))))
    have kk30 : blk W0_29 (w.heap.size + 1 + 1) = some (formC s (n : Int) 10 (n : Int) no sq of de pr bo li to dd false):=(by rw [hE_29.out];(apply jt;(focus repeat(first|(with_reducible first|assumption|apply jd|apply js)|((with_reducible apply jo);first|focus(dsimp only;assumption)|focus(simp;done)|focus(dsimp only;omega))|((with_reducible apply jn);first|with_reducible rfl|focus(simp;done)|focus(simp;omega))|(with_reducible apply ja)|((with_reducible apply jb);with_reducible assumption)));rfl))
    have kk31 : blk W0_29 (w.heap.size) = some (#[.int .i64 0,.int .u64 0,.int .i64 0,.int .i64 0,.int .i64 0,.int .i64 0,.int .i64 0,.int .i64 0,.string ⟨#[]⟩]):=(by rw [hE_29.out];(apply jt;(focus repeat(first|(with_reducible first|assumption|apply jd|apply js)|((with_reducible apply jo);first|focus(dsimp only;assumption)|focus(simp;done)|focus(dsimp only;omega))|((with_reducible apply jn);first|with_reducible rfl|focus(simp;done)|focus(simp;omega))|(with_reducible apply ja)|((with_reducible apply jb);with_reducible assumption)));rfl))
    have kk32 : blk W0_29 (w.heap.size + 1) = some (#[.int .i64 0,.int .i64 0]):=(by rw [hE_29.out];(apply jt;(focus repeat(first|(with_reducible first|assumption|apply jd|apply js)|((with_reducible apply jo);first|focus(dsimp only;assumption)|focus(simp;done)|focus(dsimp only;omega))|((with_reducible apply jn);first|with_reducible rfl|focus(simp;done)|focus(simp;omega))|(with_reducible apply ja)|((with_reducible apply jb);with_reducible assumption)));rfl))
    have kn30:=calm_kn kk30
    have kn31:=calm_kn kk31
    have kn32:=calm_kn kk32
    clear hE_29
    repeat (go_big_quiet_step ((first|(go_at_call 41;(with_reducible refine Class.go _ (gc.out _)))|(go_at_call 84;(with_reducible refine Class.same _ (gk.out _ _ _ (calm_blk _ (by assumption))))))))
    refine wpQuiet_nil ?_
    rintro _ ⟨x_29,rfl⟩
    have hx_29 : Calm W0_29 x_29.wd:=x_29.ok
    have bw5 : Below w.heap.size w x_29.wd:=bt bW0_29 hx_29
    clear kn30;replace kk30:=blk_below hx_29 kk30;have kn30:=kn kk30
    clear kn31;replace kk31:=blk_below hx_29 kk31;have kn31:=kn kk31
    clear kn32;replace kk32:=blk_below hx_29 kk32;have kn32:=kn kk32
    clear hx_29 bW0_29 hN_29
    generalize x_29.wd = w5 at *
    have sw5:=bw5.size
    go_wp2_with (first|(go_at_call 86;(with_reducible refine (gw.out _).mono ?_);rintro e ww ⟨rfl,hw⟩;have kw : blk ww (w.heap.size + 1 + 1) = some (formC s (n : Int) 10 (n : Int) no sq of de pr bo li to dd false):=(by (apply jt;(focus repeat(first|(with_reducible first|assumption|apply jd|apply js)|((with_reducible apply jo);first|focus(dsimp only;assumption)|focus(simp;done)|focus(dsimp only;omega))|((with_reducible apply jn);first|with_reducible rfl|focus(simp;done)|focus(simp;omega))|(with_reducible apply ja)|((with_reducible apply jb);with_reducible assumption)));rfl));have xw : blk ww w.heap.size = some (#[.int .i64 0,.int .u64 0,.int .i64 0,.int .i64 0,.int .i64 0,.int .i64 0,.int .i64 0,.int .i64 0,.string ⟨#[]⟩]):=(by (apply jt;(focus repeat(first|(with_reducible first|assumption|apply jd|apply js)|((with_reducible apply jo);first|focus(dsimp only;assumption)|focus(simp;done)|focus(dsimp only;omega))|((with_reducible apply jn);first|with_reducible rfl|focus(simp;done)|focus(simp;omega))|(with_reducible apply ja)|((with_reducible apply jb);with_reducible assumption)));rfl));have yw : blk ww (w.heap.size + 1) = some (#[.int .i64 0,.int .i64 0]):=(by (apply jt;(focus repeat(first|(with_reducible first|assumption|apply jd|apply js)|((with_reducible apply jo);first|focus(dsimp only;assumption)|focus(simp;done)|focus(dsimp only;omega))|((with_reducible apply jn);first|with_reducible rfl|focus(simp;done)|focus(simp;omega))|(with_reducible apply ja)|((with_reducible apply jb);with_reducible assumption)));rfl));have Bw : Below w.heap.size w ww:=(by (repeat(first|(with_reducible first|assumption|exact Below.refl _ _|refine je ?_|refine jl ?_)|((with_reducible refine jp ?_ ?_);first|focus(dsimp only;assumption)|focus(simp;done)|focus(dsimp only;omega))|(with_reducible refine bt ?_ (by assumption)))));have knw:=kn kw;have knxw:=kn xw;have knyw:=kn yw)|(go_at_call 84;(with_reducible refine (gk.out _ _ _ (by assumption)).mono ?_);rintro q wx ⟨rfl,rfl⟩))
    all_goals
      go_wp2
      go_region_held3 (fun W => ∀ o,W.cell? ⟨w.heap.size + 1 + 1,o,none⟩ = (formC s (n : Int) 10 (n : Int) no sq of de pr bo li to dd false)[o]?) (exact fun o => blk_cell (by (apply jt;(focus repeat(first|(with_reducible first|assumption|apply jd|apply js)|((with_reducible apply jo);first|focus(dsimp only;assumption)|focus(simp;done)|focus(dsimp only;omega))|((with_reducible apply jn);first|with_reducible rfl|focus(simp;done)|focus(simp;omega))|(with_reducible apply ja)|((with_reducible apply jb);with_reducible assumption)));rfl)) o) (fail)
    all_goals
      go_wp2
      (refine ret_blk2 (b:=w.heap.size) (d:=w.heap.size + 1) (c:=#[.int .i64 0,.int .u64 0,.int .i64 0,.int .i64 0,.int .i64 0,.int .i64 0,.int .i64 0,.int .i64 0,.string ⟨#[]⟩]) (c':=#[.int .i64 10,.int .i64 (n : Int)]) (v:=.tuple #[.agg #[.int .i64 0,.int .u64 0,.int .i64 0,.int .i64 0,.int .i64 0,.int .i64 0,.int .i64 0,.int .i64 0,.string ⟨#[]⟩],.agg #[.int .i64 10,.int .i64 (n : Int)]]) (by (apply jt;(focus repeat(first|(with_reducible first|assumption|apply jd|apply js)|((with_reducible apply jo);first|focus(dsimp only;assumption)|focus(simp;done)|focus(dsimp only;omega))|((with_reducible apply jn);first|with_reducible rfl|focus(simp;done)|focus(simp;omega))|(with_reducible apply ja)|((with_reducible apply jb);with_reducible assumption)));rfl)) (by (apply jt;(focus repeat(first|(with_reducible first|assumption|apply jd|apply js)|((with_reducible apply jo);first|focus(dsimp only;assumption)|focus(simp;done)|focus(dsimp only;omega))|((with_reducible apply jn);first|with_reducible rfl|focus(simp;done)|focus(simp;omega))|(with_reducible apply ja)|((with_reducible apply jb);with_reducible assumption)));rfl)) (fun W' e1 e2 => by simp [results,Tryd.results54,go_sem,e1,e2]) rfl ⟨rfl,by (repeat(first|(with_reducible first|assumption|exact Below.refl _ _|refine je ?_|refine jl ?_)|((with_reducible refine jp ?_ ?_);first|focus(dsimp only;assumption)|focus(simp;done)|focus(dsimp only;omega))|(with_reducible refine bt ?_ (by assumption))))⟩)
  
end Go.Proofs.YtaiofjffoboicaaDoor
