/- Parts of a proof, printed by a program of mine out of my texts: WiDec2e, WiDec2f. -/
import Derived.Test.YtaiofjffoboicaaDoorCF
set_option linter.unusedSimpArgs false
set_option linter.unusedVariables false
namespace Go.Proofs.YtaiofjffoboicaaDoor
open Go.RowKit
set_option maxRecDepth 100000 in
set_option maxHeartbeats 3200000 in
theorem dec5_false (s : ByteArray) (hs : s.size ≤ 1000000) (pr : Int) (p er fa : Int) (no sq of de bo li to q er' fa' : Int) (hst : startR s.data.toList = (pr,false,⟨p,er,fa⟩)) (hX : fieldsR s.data.toList false ⟨p,er,fa⟩ = ⟨no,sq,of,de,bo,li,to,⟨q,er',fa'⟩⟩) (hX0 : er' = 0) (dd : ByteArray) (n : Nat) (ht : getTextN s.data.toList q 1000 = (dd.data.toList,(n : Int),0)) (hq1 : 0 ≤ q) (hq2 : q ≤ s.size) (hn : n ≤ s.size) (hd : dd.size ≤ 1000000) (c1 : n + 4 ≤ s.size) (c2 : sealedB (s.extract 0 (n + 4)).data.toList n = true) (c3 : s.size = n + 4) (hbc : buC no sq of de pr bo li to dd.size = 0) (hwh : wholeB of to dd.size = true) (w : World) (hH : HTab w) (hT : STab w) :
    Calls Tryd.prog 54 #[.string s] w fun e w' => e = .returned (.tuple #[.agg #[.int .i64 0,.int .u64 0,.int .i64 0,.int .i64 0,.int .i64 0,.int .i64 0,.int .i64 0,.int .i64 0,.string ⟨#[]⟩],.agg #[.int .i64 3,.int .i64 0]]) ∧ Below w.heap.size w w':=by
  have cs:=fun b w h hb => start_any b s (by unfold maxLen;omega) w h hb
  have hp:=startR_pos s.data.toList
  rw [show s.data.toList.length = s.size by simp] at hp
  rw [hst] at cs hp
  simp only at cs hp
  have cf:=fun b w hb => fields_any b s p er fa pr false (by unfold maxLen;omega) hp.1 hp.2 _ hX w hb
  simp only at cf
  replace cs:=Lib.hid cs;replace cf:=Lib.hid cf
  clear hst hX hp
  have HT:=Lib.hid hH;clear hH
  have ST:=Lib.hid hT;clear hT
  subst hX0
  have ct:=fun b w hb => text_read b s q 0 fa' no sq of de pr bo li to ⟨#[]⟩ false 1000 (by unfold maxLen;omega) (by omega) (by omega) (by omega) w hb
  rw [rdT_go s.data.toList 1000 q fa' n 0 dd.data.toList ht,if_neg (by simp)] at ct
  simp only [show ∀ v : ByteArray,bstr v.data.toList = .string v from fun v => rfl] at ct
  replace ct:=Lib.hid ct
  have hdm : dd.size ≤ maxLen:=by unfold maxLen;omega
  have gc:=fun w => check_any no sq of de pr bo li to dd hdm w
  rw [hbc] at gc
  replace gc:=Lib.hid gc
  have gw:=fun w => whole_any no sq of de pr bo li to dd hdm w
  rw [hwh] at gw
  replace gw:=Lib.hid gw;clear hwh
  have gs : (s.extract 0 (n + 4)).size = n + 4:=by simp;omega
  have go:=Lib.hid fun w h => open_ok (s.extract 0 (n + 4)) n gs (by omega) c2 w h
  have c4 : ¬ ((s.size : Int) - (n : Int) < 4):=by omega
  have c5 : ¬ ((n : Int) + 4 < (s.size : Int)):=by omega
  have hn4 : n + 4 ≤ s.size:=c1
  have hcs:=Lib.hid hbc;clear hbc
  have hc3:=Lib.hid c3;clear c3
  clear ht hdm c2
  go_enter Tryd.func54,Tryd.ntmps54
  go_wp2_with fail
  (with_reducible refine (cs.out _ _ ?_ ?_).mono ?_)
  · exact HT.out.on (by (repeat(first|(with_reducible first|assumption|exact Below.refl _ _|refine je ?_|refine jl ?_)|((with_reducible refine jp ?_ ?_);first|focus(dsimp only;assumption)|focus(simp;done)|focus(dsimp only;omega))|(with_reducible refine bt ?_ (by assumption)))))
  · exact blk_alloc_new _ _ _ (by simp)
  rintro e w1 ⟨rfl,k1,b1⟩
  have x1 : blk w1 w.heap.size = some (#[.int .i64 0,.int .u64 0,.int .i64 0,.int .i64 0,.int .i64 0,.int .i64 0,.int .i64 0,.int .i64 0,.string ⟨#[]⟩]):=kept_blk b1 (by first|omega|(simp;omega)|simp) (by (apply jt;(focus repeat(first|(with_reducible first|assumption|apply js)|((with_reducible apply jo);first|focus(dsimp only;assumption)|focus(simp;done)|focus(dsimp only;omega))|((with_reducible apply jn);first|with_reducible rfl|focus(simp;done)|focus(simp;omega))|(with_reducible apply ja)|((with_reducible apply jb);with_reducible assumption)));rfl))
  have y1 : blk w1 (w.heap.size + 1) = some #[.int .i64 0,.int .i64 0]:=kept_blk b1 (by first|omega|(simp;omega)|simp) (by (apply jt;(focus repeat(first|(with_reducible first|assumption|apply js)|((with_reducible apply jo);first|focus(dsimp only;assumption)|focus(simp;done)|focus(dsimp only;omega))|((with_reducible apply jn);first|with_reducible rfl|focus(simp;done)|focus(simp;omega))|(with_reducible apply ja)|((with_reducible apply jb);with_reducible assumption)));rfl))
  have B1 : Below w.heap.size w w1:=((((Below.refl w.heap.size w).alloc (Nat.le_refl _) _).alloc (by simp) _).alloc (by simp;omega) _).trans (b1.mono (by omega))
  clear b1
  have kn1:=kn k1
  go_wp2_with fail
  (with_reducible refine (cf.out _ _ k1).mono ?_)
  rintro e w2 ⟨rfl,k2,b2⟩
  have x2:=kept_blk b2 (by omega) x1
  have y2:=kept_blk b2 (by omega) y1
  have B2 : Below w.heap.size w w2:=B1.trans (b2.mono (by omega))
  clear b2 x1 y1 B1 kn1 k1
  have kn2:=kn k2
  go_wp2_with fail
  (with_reducible refine (ct.out _ _ k2).mono ?_)
  rintro e w3 ⟨rfl,k3,b3⟩
  have x3:=kept_blk b3 (by omega) x2
  have y3:=kept_blk b3 (by omega) y2
  have B3 : Below w.heap.size w w3:=B2.trans (b3.mono (by omega))
  clear b3 x2 y2 B2 kn2 k2
  have kn3:=kn k3
  have knx:=kn x3
  have kny:=kn y3
  go_wp2_with (first|(go_at_call 85;(with_reducible refine (go.out _ (ST.out.on (by (repeat(first|(with_reducible first|assumption|exact Below.refl _ _|refine je ?_|refine jl ?_)|((with_reducible refine jp ?_ ?_);first|focus(dsimp only;assumption)|focus(simp;done)|focus(dsimp only;omega))|(with_reducible refine bt ?_ (by assumption))))))).mono ?_);rintro e wo ⟨rfl,ho⟩;have ko : blk wo (w.heap.size + 1 + 1) = some (formC s (n : Int) 0 fa' no sq of de pr bo li to dd false):=(by (apply jt;(focus repeat(first|(with_reducible first|assumption|apply jd|apply js)|((with_reducible apply jo);first|focus(dsimp only;assumption)|focus(simp;done)|focus(dsimp only;omega))|((with_reducible apply jn);first|with_reducible rfl|focus(simp;done)|focus(simp;omega))|(with_reducible apply ja)|((with_reducible apply jb);with_reducible assumption)));rfl));have xo : blk wo w.heap.size = some (#[.int .i64 0,.int .u64 0,.int .i64 0,.int .i64 0,.int .i64 0,.int .i64 0,.int .i64 0,.int .i64 0,.string ⟨#[]⟩]):=(by (apply jt;(focus repeat(first|(with_reducible first|assumption|apply jd|apply js)|((with_reducible apply jo);first|focus(dsimp only;assumption)|focus(simp;done)|focus(dsimp only;omega))|((with_reducible apply jn);first|with_reducible rfl|focus(simp;done)|focus(simp;omega))|(with_reducible apply ja)|((with_reducible apply jb);with_reducible assumption)));rfl));have yo : blk wo (w.heap.size + 1) = some (#[.int .i64 0,.int .i64 0]):=(by (apply jt;(focus repeat(first|(with_reducible first|assumption|apply jd|apply js)|((with_reducible apply jo);first|focus(dsimp only;assumption)|focus(simp;done)|focus(dsimp only;omega))|((with_reducible apply jn);first|with_reducible rfl|focus(simp;done)|focus(simp;omega))|(with_reducible apply ja)|((with_reducible apply jb);with_reducible assumption)));rfl));have Bo : Below w.heap.size w wo:=(by (repeat(first|(with_reducible first|assumption|exact Below.refl _ _|refine je ?_|refine jl ?_)|((with_reducible refine jp ?_ ?_);first|focus(dsimp only;assumption)|focus(simp;done)|focus(dsimp only;omega))|(with_reducible refine bt ?_ (by assumption)))));have kno:=kn ko;have knxo:=kn xo;have knyo:=kn yo))
  have gk:=Lib.hid fun a W hb => fail_keep (w.heap.size + 1 + 1) s n 0 fa' no sq of de pr bo li to dd false 0 a W hb (.inr rfl)
  refine wp_region_in (by kernel_rfl) (by kernel_rfl) ?_
  intro W0_1 hE_1 hN_1
  have bW0_1 : Below w.heap.size w W0_1:=(by rw [hE_1.out];(repeat(first|(with_reducible first|assumption|exact Below.refl _ _|refine je ?_|refine jl ?_)|((with_reducible refine jp ?_ ?_);first|focus(dsimp only;assumption)|focus(simp;done)|focus(dsimp only;omega))|(with_reducible refine bt ?_ (by assumption)))))
  have kk2 : blk W0_1 (w.heap.size + 1 + 1) = some (formC s (n : Int) 0 fa' no sq of de pr bo li to dd false):=(by rw [hE_1.out];(apply jt;(focus repeat(first|(with_reducible first|assumption|apply jd|apply js)|((with_reducible apply jo);first|focus(dsimp only;assumption)|focus(simp;done)|focus(dsimp only;omega))|((with_reducible apply jn);first|with_reducible rfl|focus(simp;done)|focus(simp;omega))|(with_reducible apply ja)|((with_reducible apply jb);with_reducible assumption)));rfl))
  have kk3 : blk W0_1 (w.heap.size) = some (#[.int .i64 0,.int .u64 0,.int .i64 0,.int .i64 0,.int .i64 0,.int .i64 0,.int .i64 0,.int .i64 0,.string ⟨#[]⟩]):=(by rw [hE_1.out];(apply jt;(focus repeat(first|(with_reducible first|assumption|apply jd|apply js)|((with_reducible apply jo);first|focus(dsimp only;assumption)|focus(simp;done)|focus(dsimp only;omega))|((with_reducible apply jn);first|with_reducible rfl|focus(simp;done)|focus(simp;omega))|(with_reducible apply ja)|((with_reducible apply jb);with_reducible assumption)));rfl))
  have kk4 : blk W0_1 (w.heap.size + 1) = some (#[.int .i64 0,.int .i64 0]):=(by rw [hE_1.out];(apply jt;(focus repeat(first|(with_reducible first|assumption|apply jd|apply js)|((with_reducible apply jo);first|focus(dsimp only;assumption)|focus(simp;done)|focus(dsimp only;omega))|((with_reducible apply jn);first|with_reducible rfl|focus(simp;done)|focus(simp;omega))|(with_reducible apply ja)|((with_reducible apply jb);with_reducible assumption)));rfl))
  have kn2:=calm_kn kk2
  have kn3:=calm_kn kk3
  have kn4:=calm_kn kk4
  clear hE_1
  repeat (go_big_quiet_step ((first|(go_at_call 41;(with_reducible refine Class.go _ (gc.out _)))|(go_at_call 84;(with_reducible refine Class.same _ (gk.out _ _ (calm_blk _ (by assumption))))))))
  refine wpQuiet_nil ?_
  rintro _ ⟨x_1,rfl⟩
  have hx_1 : Calm W0_1 x_1.wd:=x_1.ok
  have bw35 : Below w.heap.size w x_1.wd:=bt bW0_1 hx_1
  clear kn2;replace kk2:=blk_below hx_1 kk2;have kn2:=kn kk2
  clear kn3;replace kk3:=blk_below hx_1 kk3;have kn3:=kn kk3
  clear kn4;replace kk4:=blk_below hx_1 kk4;have kn4:=kn kk4
  clear hx_1 bW0_1 hN_1
  generalize x_1.wd = w35 at *
  have sw35:=bw35.size
  clear ko xo yo kno knxo knyo
  go_wp2_with (first|(go_at_call 86;(with_reducible refine (gw.out _).mono ?_);rintro e ww ⟨rfl,hw⟩;have kw : blk ww (w.heap.size + 1 + 1) = some (formC s (n : Int) 0 fa' no sq of de pr bo li to dd false):=(by (apply jt;(focus repeat(first|(with_reducible first|assumption|apply jd|apply js)|((with_reducible apply jo);first|focus(dsimp only;assumption)|focus(simp;done)|focus(dsimp only;omega))|((with_reducible apply jn);first|with_reducible rfl|focus(simp;done)|focus(simp;omega))|(with_reducible apply ja)|((with_reducible apply jb);with_reducible assumption)));rfl));have xw : blk ww w.heap.size = some (#[.int .i64 0,.int .u64 0,.int .i64 0,.int .i64 0,.int .i64 0,.int .i64 0,.int .i64 0,.int .i64 0,.string ⟨#[]⟩]):=(by (apply jt;(focus repeat(first|(with_reducible first|assumption|apply jd|apply js)|((with_reducible apply jo);first|focus(dsimp only;assumption)|focus(simp;done)|focus(dsimp only;omega))|((with_reducible apply jn);first|with_reducible rfl|focus(simp;done)|focus(simp;omega))|(with_reducible apply ja)|((with_reducible apply jb);with_reducible assumption)));rfl));have yw : blk ww (w.heap.size + 1) = some (#[.int .i64 0,.int .i64 0]):=(by (apply jt;(focus repeat(first|(with_reducible first|assumption|apply jd|apply js)|((with_reducible apply jo);first|focus(dsimp only;assumption)|focus(simp;done)|focus(dsimp only;omega))|((with_reducible apply jn);first|with_reducible rfl|focus(simp;done)|focus(simp;omega))|(with_reducible apply ja)|((with_reducible apply jb);with_reducible assumption)));rfl));have Bw : Below w.heap.size w ww:=(by (repeat(first|(with_reducible first|assumption|exact Below.refl _ _|refine je ?_|refine jl ?_)|((with_reducible refine jp ?_ ?_);first|focus(dsimp only;assumption)|focus(simp;done)|focus(dsimp only;omega))|(with_reducible refine bt ?_ (by assumption)))));have knw:=kn kw;have knxw:=kn xw;have knyw:=kn yw))
  (with_reducible refine (fail_set (w.heap.size + 1 + 1) s n fa' no sq of de pr bo li to dd false 3 0 _ ?_ (by decide)).mono ?_)
  · (apply jt;(focus repeat(first|(with_reducible first|assumption|apply jd|apply js)|((with_reducible apply jo);first|focus(dsimp only;assumption)|focus(simp;done)|focus(dsimp only;omega))|((with_reducible apply jn);first|with_reducible rfl|focus(simp;done)|focus(simp;omega))|(with_reducible apply ja)|((with_reducible apply jb);with_reducible assumption)));rfl)
  rintro e w4 ⟨rfl,k4,b4⟩
  have x4 : blk w4 w.heap.size = some (#[.int .i64 0,.int .u64 0,.int .i64 0,.int .i64 0,.int .i64 0,.int .i64 0,.int .i64 0,.int .i64 0,.string ⟨#[]⟩]):=kept_blk b4 (by omega) (by (apply jt;(focus repeat(first|(with_reducible first|assumption|apply jd|apply js)|((with_reducible apply jo);first|focus(dsimp only;assumption)|focus(simp;done)|focus(dsimp only;omega))|((with_reducible apply jn);first|with_reducible rfl|focus(simp;done)|focus(simp;omega))|(with_reducible apply ja)|((with_reducible apply jb);with_reducible assumption)));rfl))
  have y4 : blk w4 (w.heap.size + 1) = some (#[.int .i64 0,.int .i64 0]):=kept_blk b4 (by omega) (by (apply jt;(focus repeat(first|(with_reducible first|assumption|apply jd|apply js)|((with_reducible apply jo);first|focus(dsimp only;assumption)|focus(simp;done)|focus(dsimp only;omega))|((with_reducible apply jn);first|with_reducible rfl|focus(simp;done)|focus(simp;omega))|(with_reducible apply ja)|((with_reducible apply jb);with_reducible assumption)));rfl))
  have B4 : Below w.heap.size w w4:=Below.trans (by (repeat(first|(with_reducible first|assumption|exact Below.refl _ _|refine je ?_|refine jl ?_)|((with_reducible refine jp ?_ ?_);first|focus(dsimp only;assumption)|focus(simp;done)|focus(dsimp only;omega))|(with_reducible refine bt ?_ (by assumption))))) (b4.mono (by omega))
  clear b4
  have kn4:=kn k4;have knx4:=kn x4;have kny4:=kn y4
  all_goals
    go_wp2
    go_region_held3 (fun W => ∀ o,W.cell? ⟨w.heap.size + 1 + 1,o,none⟩ = (formC s (n : Int) 3 0 no sq of de pr bo li to dd false)[o]?) (exact fun o => blk_cell (by (apply jt;(focus repeat(first|(with_reducible first|assumption|apply jd|apply js)|((with_reducible apply jo);first|focus(dsimp only;assumption)|focus(simp;done)|focus(dsimp only;omega))|((with_reducible apply jn);first|with_reducible rfl|focus(simp;done)|focus(simp;omega))|(with_reducible apply ja)|((with_reducible apply jb);with_reducible assumption)));rfl)) o) (fail)
  all_goals
    go_wp2
    (refine ret_blk2 (b:=w.heap.size) (d:=w.heap.size + 1) (c:=#[.int .i64 0,.int .u64 0,.int .i64 0,.int .i64 0,.int .i64 0,.int .i64 0,.int .i64 0,.int .i64 0,.string ⟨#[]⟩]) (c':=#[.int .i64 3,.int .i64 0]) (v:=.tuple #[.agg #[.int .i64 0,.int .u64 0,.int .i64 0,.int .i64 0,.int .i64 0,.int .i64 0,.int .i64 0,.int .i64 0,.string ⟨#[]⟩],.agg #[.int .i64 3,.int .i64 0]]) (by (apply jt;(focus repeat(first|(with_reducible first|assumption|apply jd|apply js)|((with_reducible apply jo);first|focus(dsimp only;assumption)|focus(simp;done)|focus(dsimp only;omega))|((with_reducible apply jn);first|with_reducible rfl|focus(simp;done)|focus(simp;omega))|(with_reducible apply ja)|((with_reducible apply jb);with_reducible assumption)));rfl)) (by (apply jt;(focus repeat(first|(with_reducible first|assumption|apply jd|apply js)|((with_reducible apply jo);first|focus(dsimp only;assumption)|focus(simp;done)|focus(dsimp only;omega))|((with_reducible apply jn);first|with_reducible rfl|focus(simp;done)|focus(simp;omega))|(with_reducible apply ja)|((with_reducible apply jb);with_reducible assumption)));rfl)) (fun W' e1 e2 => by simp [results,Tryd.results54,go_sem,e1,e2]) rfl ⟨rfl,by (repeat(first|(with_reducible first|assumption|exact Below.refl _ _|refine je ?_|refine jl ?_)|((with_reducible refine jp ?_ ?_);first|focus(dsimp only;assumption)|focus(simp;done)|focus(dsimp only;omega))|(with_reducible refine bt ?_ (by assumption))))⟩)
end Go.Proofs.YtaiofjffoboicaaDoor
namespace Go.Proofs.YtaiofjffoboicaaDoor
open Go.RowKit
set_option maxRecDepth 100000 in
set_option maxHeartbeats 3200000 in
theorem dec6_true (s : ByteArray) (hs : s.size ≤ 1000000) (pr : Int) (p er fa : Int) (no sq of de bo li to q er' fa' : Int) (hst : startR s.data.toList = (pr,true,⟨p,er,fa⟩)) (hX : fieldsR s.data.toList true ⟨p,er,fa⟩ = ⟨no,sq,of,de,bo,li,to,⟨q,er',fa'⟩⟩) (hX0 : er' = 0) (dd : ByteArray) (n : Nat) (ht : getTextN s.data.toList q 1000 = (dd.data.toList,(n : Int),0)) (hq1 : 0 ≤ q) (hq2 : q ≤ s.size) (hn : n ≤ s.size) (hd : dd.size ≤ 1000000) (c1 : n + 4 ≤ s.size) (c2 : sealedB (s.extract 0 (n + 4)).data.toList n = true) (c3 : s.size = n + 4) (hbc : buC no sq of de pr bo li (dd.size : Int) dd.size = 0) (w : World) (hH : HTab w) (hT : STab w) :
    Calls Tryd.prog 54 #[.string s] w fun e w' => e = .returned (.tuple #[.agg #[.int .i64 no,.int .u64 sq,.int .i64 of,.int .i64 de,.int .i64 pr,.int .i64 bo,.int .i64 li,.int .i64 (dd.size : Int),.string dd],.agg #[.int .i64 0,.int .i64 0]]) ∧ Below w.heap.size w w':=by
  have cs:=fun b w h hb => start_any b s (by unfold maxLen;omega) w h hb
  have hp:=startR_pos s.data.toList
  rw [show s.data.toList.length = s.size by simp] at hp
  rw [hst] at cs hp
  simp only at cs hp
  have cf:=fun b w hb => fields_any b s p er fa pr true (by unfold maxLen;omega) hp.1 hp.2 _ hX w hb
  simp only at cf
  replace cs:=Lib.hid cs;replace cf:=Lib.hid cf
  clear hst hX hp
  have HT:=Lib.hid hH;clear hH
  have ST:=Lib.hid hT;clear hT
  subst hX0
  have ct:=fun b w hb => text_read b s q 0 fa' no sq of de pr bo li to ⟨#[]⟩ true 1000 (by unfold maxLen;omega) (by omega) (by omega) (by omega) w hb
  rw [rdT_go s.data.toList 1000 q fa' n 0 dd.data.toList ht,if_neg (by simp)] at ct
  simp only [show ∀ v : ByteArray,bstr v.data.toList = .string v from fun v => rfl] at ct
  replace ct:=Lib.hid ct
  have hdm : dd.size ≤ maxLen:=by unfold maxLen;omega
  have gc:=fun w => check_any no sq of de pr bo li (dd.size : Int) dd hdm w
  rw [hbc] at gc
  replace gc:=Lib.hid gc
  have gs : (s.extract 0 (n + 4)).size = n + 4:=by simp;omega
  have go:=Lib.hid fun w h => open_ok (s.extract 0 (n + 4)) n gs (by omega) c2 w h
  have c4 : ¬ ((s.size : Int) - (n : Int) < 4):=by omega
  have c5 : ¬ ((n : Int) + 4 < (s.size : Int)):=by omega
  have hn4 : n + 4 ≤ s.size:=c1
  have hcs:=Lib.hid hbc;clear hbc
  have hc3:=Lib.hid c3;clear c3
  clear ht hdm c2
  go_enter Tryd.func54,Tryd.ntmps54
  go_wp2_with fail
  (with_reducible refine (cs.out _ _ ?_ ?_).mono ?_)
  · exact HT.out.on (by (repeat(first|(with_reducible first|assumption|exact Below.refl _ _|refine je ?_|refine jl ?_)|((with_reducible refine jp ?_ ?_);first|focus(dsimp only;assumption)|focus(simp;done)|focus(dsimp only;omega))|(with_reducible refine bt ?_ (by assumption)))))
  · exact blk_alloc_new _ _ _ (by simp)
  rintro e w1 ⟨rfl,k1,b1⟩
  have x1 : blk w1 w.heap.size = some (#[.int .i64 0,.int .u64 0,.int .i64 0,.int .i64 0,.int .i64 0,.int .i64 0,.int .i64 0,.int .i64 0,.string ⟨#[]⟩]):=kept_blk b1 (by first|omega|(simp;omega)|simp) (by (apply jt;(focus repeat(first|(with_reducible first|assumption|apply js)|((with_reducible apply jo);first|focus(dsimp only;assumption)|focus(simp;done)|focus(dsimp only;omega))|((with_reducible apply jn);first|with_reducible rfl|focus(simp;done)|focus(simp;omega))|(with_reducible apply ja)|((with_reducible apply jb);with_reducible assumption)));rfl))
  have y1 : blk w1 (w.heap.size + 1) = some #[.int .i64 0,.int .i64 0]:=kept_blk b1 (by first|omega|(simp;omega)|simp) (by (apply jt;(focus repeat(first|(with_reducible first|assumption|apply js)|((with_reducible apply jo);first|focus(dsimp only;assumption)|focus(simp;done)|focus(dsimp only;omega))|((with_reducible apply jn);first|with_reducible rfl|focus(simp;done)|focus(simp;omega))|(with_reducible apply ja)|((with_reducible apply jb);with_reducible assumption)));rfl))
  have B1 : Below w.heap.size w w1:=((((Below.refl w.heap.size w).alloc (Nat.le_refl _) _).alloc (by simp) _).alloc (by simp;omega) _).trans (b1.mono (by omega))
  clear b1
  have kn1:=kn k1
  go_wp2_with fail
  (with_reducible refine (cf.out _ _ k1).mono ?_)
  rintro e w2 ⟨rfl,k2,b2⟩
  have x2:=kept_blk b2 (by omega) x1
  have y2:=kept_blk b2 (by omega) y1
  have B2 : Below w.heap.size w w2:=B1.trans (b2.mono (by omega))
  clear b2 x1 y1 B1 kn1 k1
  have kn2:=kn k2
  go_wp2_with fail
  (with_reducible refine (ct.out _ _ k2).mono ?_)
  rintro e w3 ⟨rfl,k3,b3⟩
  have x3:=kept_blk b3 (by omega) x2
  have y3:=kept_blk b3 (by omega) y2
  have B3 : Below w.heap.size w w3:=B2.trans (b3.mono (by omega))
  clear b3 x2 y2 B2 kn2 k2
  have kn3:=kn k3
  have knx:=kn x3
  have kny:=kn y3
  go_wp2_with (first|(go_at_call 85;(with_reducible refine (go.out _ (ST.out.on (by (repeat(first|(with_reducible first|assumption|exact Below.refl _ _|refine je ?_|refine jl ?_)|((with_reducible refine jp ?_ ?_);first|focus(dsimp only;assumption)|focus(simp;done)|focus(dsimp only;omega))|(with_reducible refine bt ?_ (by assumption))))))).mono ?_);rintro e wo ⟨rfl,ho⟩;have ko : blk wo (w.heap.size + 1 + 1) = some (formC s (n : Int) 0 fa' no sq of de pr bo li (dd.size : Int) dd true):=(by (apply jt;(focus repeat(first|(with_reducible first|assumption|apply jd|apply js)|((with_reducible apply jo);first|focus(dsimp only;assumption)|focus(simp;done)|focus(dsimp only;omega))|((with_reducible apply jn);first|with_reducible rfl|focus(simp;done)|focus(simp;omega))|(with_reducible apply ja)|((with_reducible apply jb);with_reducible assumption)));rfl));have xo : blk wo w.heap.size = some (#[.int .i64 0,.int .u64 0,.int .i64 0,.int .i64 0,.int .i64 0,.int .i64 0,.int .i64 0,.int .i64 0,.string ⟨#[]⟩]):=(by (apply jt;(focus repeat(first|(with_reducible first|assumption|apply jd|apply js)|((with_reducible apply jo);first|focus(dsimp only;assumption)|focus(simp;done)|focus(dsimp only;omega))|((with_reducible apply jn);first|with_reducible rfl|focus(simp;done)|focus(simp;omega))|(with_reducible apply ja)|((with_reducible apply jb);with_reducible assumption)));rfl));have yo : blk wo (w.heap.size + 1) = some (#[.int .i64 0,.int .i64 0]):=(by (apply jt;(focus repeat(first|(with_reducible first|assumption|apply jd|apply js)|((with_reducible apply jo);first|focus(dsimp only;assumption)|focus(simp;done)|focus(dsimp only;omega))|((with_reducible apply jn);first|with_reducible rfl|focus(simp;done)|focus(simp;omega))|(with_reducible apply ja)|((with_reducible apply jb);with_reducible assumption)));rfl));have Bo : Below w.heap.size w wo:=(by (repeat(first|(with_reducible first|assumption|exact Below.refl _ _|refine je ?_|refine jl ?_)|((with_reducible refine jp ?_ ?_);first|focus(dsimp only;assumption)|focus(simp;done)|focus(dsimp only;omega))|(with_reducible refine bt ?_ (by assumption)))));have kno:=kn ko;have knxo:=kn xo;have knyo:=kn yo))
  have gk:=Lib.hid fun a W hb => fail_keep (w.heap.size + 1 + 1) s n 0 fa' no sq of de pr bo li (dd.size : Int) dd true 0 a W hb (.inr rfl)
  refine wp_region_in (by kernel_rfl) (by kernel_rfl) ?_
  intro W0_1 hE_1 hN_1
  have bW0_1 : Below w.heap.size w W0_1:=(by rw [hE_1.out];(repeat(first|(with_reducible first|assumption|exact Below.refl _ _|refine je ?_|refine jl ?_)|((with_reducible refine jp ?_ ?_);first|focus(dsimp only;assumption)|focus(simp;done)|focus(dsimp only;omega))|(with_reducible refine bt ?_ (by assumption)))))
  have kk2 : blk W0_1 (w.heap.size + 1 + 1) = some (formC s (n : Int) 0 fa' no sq of de pr bo li (dd.size : Int) dd true):=(by rw [hE_1.out];(apply jt;(focus repeat(first|(with_reducible first|assumption|apply jd|apply js)|((with_reducible apply jo);first|focus(dsimp only;assumption)|focus(simp;done)|focus(dsimp only;omega))|((with_reducible apply jn);first|with_reducible rfl|focus(simp;done)|focus(simp;omega))|(with_reducible apply ja)|((with_reducible apply jb);with_reducible assumption)));rfl))
  have kk3 : blk W0_1 (w.heap.size) = some (#[.int .i64 0,.int .u64 0,.int .i64 0,.int .i64 0,.int .i64 0,.int .i64 0,.int .i64 0,.int .i64 0,.string ⟨#[]⟩]):=(by rw [hE_1.out];(apply jt;(focus repeat(first|(with_reducible first|assumption|apply jd|apply js)|((with_reducible apply jo);first|focus(dsimp only;assumption)|focus(simp;done)|focus(dsimp only;omega))|((with_reducible apply jn);first|with_reducible rfl|focus(simp;done)|focus(simp;omega))|(with_reducible apply ja)|((with_reducible apply jb);with_reducible assumption)));rfl))
  have kk4 : blk W0_1 (w.heap.size + 1) = some (#[.int .i64 0,.int .i64 0]):=(by rw [hE_1.out];(apply jt;(focus repeat(first|(with_reducible first|assumption|apply jd|apply js)|((with_reducible apply jo);first|focus(dsimp only;assumption)|focus(simp;done)|focus(dsimp only;omega))|((with_reducible apply jn);first|with_reducible rfl|focus(simp;done)|focus(simp;omega))|(with_reducible apply ja)|((with_reducible apply jb);with_reducible assumption)));rfl))
  have kn2:=calm_kn kk2
  have kn3:=calm_kn kk3
  have kn4:=calm_kn kk4
  clear hE_1
  repeat (go_big_quiet_step ((first|(go_at_call 41;(with_reducible refine Class.go _ (gc.out _)))|(go_at_call 84;(with_reducible refine Class.same _ (gk.out _ _ (calm_blk _ (by assumption))))))))
  refine wpQuiet_nil ?_
  rintro _ ⟨x_1,rfl⟩
  have hx_1 : Calm W0_1 x_1.wd:=x_1.ok
  have bw35 : Below w.heap.size w x_1.wd:=bt bW0_1 hx_1
  clear kn2;replace kk2:=blk_below hx_1 kk2;have kn2:=kn kk2
  clear kn3;replace kk3:=blk_below hx_1 kk3;have kn3:=kn kk3
  clear kn4;replace kk4:=blk_below hx_1 kk4;have kn4:=kn kk4
  clear hx_1 bW0_1 hN_1
  generalize x_1.wd = w35 at *
  have sw35:=bw35.size
  clear ko xo yo kno knxo knyo
  go_wp2
  (refine ret_blk2 (b:=w.heap.size) (d:=w.heap.size + 1) (c:=#[.int .i64 no,.int .u64 sq,.int .i64 of,.int .i64 de,.int .i64 pr,.int .i64 bo,.int .i64 li,.int .i64 (dd.size : Int),.string dd]) (c':=#[.int .i64 0,.int .i64 0]) (v:=.tuple #[.agg #[.int .i64 no,.int .u64 sq,.int .i64 of,.int .i64 de,.int .i64 pr,.int .i64 bo,.int .i64 li,.int .i64 (dd.size : Int),.string dd],.agg #[.int .i64 0,.int .i64 0]]) (by (apply jt;(focus repeat(first|(with_reducible first|assumption|apply jd|apply js)|((with_reducible apply jo);first|focus(dsimp only;assumption)|focus(simp;done)|focus(dsimp only;omega))|((with_reducible apply jn);first|with_reducible rfl|focus(simp;done)|focus(simp;omega))|(with_reducible apply ja)|((with_reducible apply jb);with_reducible assumption)));rfl)) (by (apply jt;(focus repeat(first|(with_reducible first|assumption|apply jd|apply js)|((with_reducible apply jo);first|focus(dsimp only;assumption)|focus(simp;done)|focus(dsimp only;omega))|((with_reducible apply jn);first|with_reducible rfl|focus(simp;done)|focus(simp;omega))|(with_reducible apply ja)|((with_reducible apply jb);with_reducible assumption)));rfl)) (fun W' e1 e2 => by simp [results,Tryd.results54,go_sem,e1,e2]) rfl ⟨rfl,by (repeat(first|(with_reducible first|assumption|exact Below.refl _ _|refine je ?_|refine jl ?_)|((with_reducible refine jp ?_ ?_);first|focus(dsimp only;assumption)|focus(simp;done)|focus(dsimp only;omega))|(with_reducible refine bt ?_ (by assumption))))⟩)
set_option maxRecDepth 100000 in
set_option maxHeartbeats 3200000 in
theorem dec6_false (s : ByteArray) (hs : s.size ≤ 1000000) (pr : Int) (p er fa : Int) (no sq of de bo li to q er' fa' : Int) (hst : startR s.data.toList = (pr,false,⟨p,er,fa⟩)) (hX : fieldsR s.data.toList false ⟨p,er,fa⟩ = ⟨no,sq,of,de,bo,li,to,⟨q,er',fa'⟩⟩) (hX0 : er' = 0) (dd : ByteArray) (n : Nat) (ht : getTextN s.data.toList q 1000 = (dd.data.toList,(n : Int),0)) (hq1 : 0 ≤ q) (hq2 : q ≤ s.size) (hn : n ≤ s.size) (hd : dd.size ≤ 1000000) (c1 : n + 4 ≤ s.size) (c2 : sealedB (s.extract 0 (n + 4)).data.toList n = true) (c3 : s.size = n + 4) (hbc : buC no sq of de pr bo li to dd.size = 0) (hwh : wholeB of to dd.size = false) (w : World) (hH : HTab w) (hT : STab w) :
    Calls Tryd.prog 54 #[.string s] w fun e w' => e = .returned (.tuple #[.agg #[.int .i64 no,.int .u64 sq,.int .i64 of,.int .i64 de,.int .i64 pr,.int .i64 bo,.int .i64 li,.int .i64 to,.string dd],.agg #[.int .i64 0,.int .i64 0]]) ∧ Below w.heap.size w w':=by
  have cs:=fun b w h hb => start_any b s (by unfold maxLen;omega) w h hb
  have hp:=startR_pos s.data.toList
  rw [show s.data.toList.length = s.size by simp] at hp
  rw [hst] at cs hp
  simp only at cs hp
  have cf:=fun b w hb => fields_any b s p er fa pr false (by unfold maxLen;omega) hp.1 hp.2 _ hX w hb
  simp only at cf
  replace cs:=Lib.hid cs;replace cf:=Lib.hid cf
  clear hst hX hp
  have HT:=Lib.hid hH;clear hH
  have ST:=Lib.hid hT;clear hT
  subst hX0
  have ct:=fun b w hb => text_read b s q 0 fa' no sq of de pr bo li to ⟨#[]⟩ false 1000 (by unfold maxLen;omega) (by omega) (by omega) (by omega) w hb
  rw [rdT_go s.data.toList 1000 q fa' n 0 dd.data.toList ht,if_neg (by simp)] at ct
  simp only [show ∀ v : ByteArray,bstr v.data.toList = .string v from fun v => rfl] at ct
  replace ct:=Lib.hid ct
  have hdm : dd.size ≤ maxLen:=by unfold maxLen;omega
  have gc:=fun w => check_any no sq of de pr bo li to dd hdm w
  rw [hbc] at gc
  replace gc:=Lib.hid gc
  have gw:=fun w => whole_any no sq of de pr bo li to dd hdm w
  rw [hwh] at gw
  replace gw:=Lib.hid gw;clear hwh
  have gs : (s.extract 0 (n + 4)).size = n + 4:=by simp;omega
  have go:=Lib.hid fun w h => open_ok (s.extract 0 (n + 4)) n gs (by omega) c2 w h
  have c4 : ¬ ((s.size : Int) - (n : Int) < 4):=by omega
  have c5 : ¬ ((n : Int) + 4 < (s.size : Int)):=by omega
  have hn4 : n + 4 ≤ s.size:=c1
  have hcs:=Lib.hid hbc;clear hbc
  have hc3:=Lib.hid c3;clear c3
  clear ht hdm c2
  go_enter Tryd.func54,Tryd.ntmps54
  go_wp2_with fail
  (with_reducible refine (cs.out _ _ ?_ ?_).mono ?_)
  · exact HT.out.on (by (repeat(first|(with_reducible first|assumption|exact Below.refl _ _|refine je ?_|refine jl ?_)|((with_reducible refine jp ?_ ?_);first|focus(dsimp only;assumption)|focus(simp;done)|focus(dsimp only;omega))|(with_reducible refine bt ?_ (by assumption)))))
  · exact blk_alloc_new _ _ _ (by simp)
  rintro e w1 ⟨rfl,k1,b1⟩
  have x1 : blk w1 w.heap.size = some (#[.int .i64 0,.int .u64 0,.int .i64 0,.int .i64 0,.int .i64 0,.int .i64 0,.int .i64 0,.int .i64 0,.string ⟨#[]⟩]):=kept_blk b1 (by first|omega|(simp;omega)|simp) (by (apply jt;(focus repeat(first|(with_reducible first|assumption|apply js)|((with_reducible apply jo);first|focus(dsimp only;assumption)|focus(simp;done)|focus(dsimp only;omega))|((with_reducible apply jn);first|with_reducible rfl|focus(simp;done)|focus(simp;omega))|(with_reducible apply ja)|((with_reducible apply jb);with_reducible assumption)));rfl))
  have y1 : blk w1 (w.heap.size + 1) = some #[.int .i64 0,.int .i64 0]:=kept_blk b1 (by first|omega|(simp;omega)|simp) (by (apply jt;(focus repeat(first|(with_reducible first|assumption|apply js)|((with_reducible apply jo);first|focus(dsimp only;assumption)|focus(simp;done)|focus(dsimp only;omega))|((with_reducible apply jn);first|with_reducible rfl|focus(simp;done)|focus(simp;omega))|(with_reducible apply ja)|((with_reducible apply jb);with_reducible assumption)));rfl))
  have B1 : Below w.heap.size w w1:=((((Below.refl w.heap.size w).alloc (Nat.le_refl _) _).alloc (by simp) _).alloc (by simp;omega) _).trans (b1.mono (by omega))
  clear b1
  have kn1:=kn k1
  go_wp2_with fail
  (with_reducible refine (cf.out _ _ k1).mono ?_)
  rintro e w2 ⟨rfl,k2,b2⟩
  have x2:=kept_blk b2 (by omega) x1
  have y2:=kept_blk b2 (by omega) y1
  have B2 : Below w.heap.size w w2:=B1.trans (b2.mono (by omega))
  clear b2 x1 y1 B1 kn1 k1
  have kn2:=kn k2
  go_wp2_with fail
  (with_reducible refine (ct.out _ _ k2).mono ?_)
  rintro e w3 ⟨rfl,k3,b3⟩
  have x3:=kept_blk b3 (by omega) x2
  have y3:=kept_blk b3 (by omega) y2
  have B3 : Below w.heap.size w w3:=B2.trans (b3.mono (by omega))
  clear b3 x2 y2 B2 kn2 k2
  have kn3:=kn k3
  have knx:=kn x3
  have kny:=kn y3
  go_wp2_with (first|(go_at_call 85;(with_reducible refine (go.out _ (ST.out.on (by (repeat(first|(with_reducible first|assumption|exact Below.refl _ _|refine je ?_|refine jl ?_)|((with_reducible refine jp ?_ ?_);first|focus(dsimp only;assumption)|focus(simp;done)|focus(dsimp only;omega))|(with_reducible refine bt ?_ (by assumption))))))).mono ?_);rintro e wo ⟨rfl,ho⟩;have ko : blk wo (w.heap.size + 1 + 1) = some (formC s (n : Int) 0 fa' no sq of de pr bo li to dd false):=(by (apply jt;(focus repeat(first|(with_reducible first|assumption|apply jd|apply js)|((with_reducible apply jo);first|focus(dsimp only;assumption)|focus(simp;done)|focus(dsimp only;omega))|((with_reducible apply jn);first|with_reducible rfl|focus(simp;done)|focus(simp;omega))|(with_reducible apply ja)|((with_reducible apply jb);with_reducible assumption)));rfl));have xo : blk wo w.heap.size = some (#[.int .i64 0,.int .u64 0,.int .i64 0,.int .i64 0,.int .i64 0,.int .i64 0,.int .i64 0,.int .i64 0,.string ⟨#[]⟩]):=(by (apply jt;(focus repeat(first|(with_reducible first|assumption|apply jd|apply js)|((with_reducible apply jo);first|focus(dsimp only;assumption)|focus(simp;done)|focus(dsimp only;omega))|((with_reducible apply jn);first|with_reducible rfl|focus(simp;done)|focus(simp;omega))|(with_reducible apply ja)|((with_reducible apply jb);with_reducible assumption)));rfl));have yo : blk wo (w.heap.size + 1) = some (#[.int .i64 0,.int .i64 0]):=(by (apply jt;(focus repeat(first|(with_reducible first|assumption|apply jd|apply js)|((with_reducible apply jo);first|focus(dsimp only;assumption)|focus(simp;done)|focus(dsimp only;omega))|((with_reducible apply jn);first|with_reducible rfl|focus(simp;done)|focus(simp;omega))|(with_reducible apply ja)|((with_reducible apply jb);with_reducible assumption)));rfl));have Bo : Below w.heap.size w wo:=(by (repeat(first|(with_reducible first|assumption|exact Below.refl _ _|refine je ?_|refine jl ?_)|((with_reducible refine jp ?_ ?_);first|focus(dsimp only;assumption)|focus(simp;done)|focus(dsimp only;omega))|(with_reducible refine bt ?_ (by assumption)))));have kno:=kn ko;have knxo:=kn xo;have knyo:=kn yo))
  have gk:=Lib.hid fun a W hb => fail_keep (w.heap.size + 1 + 1) s n 0 fa' no sq of de pr bo li to dd false 0 a W hb (.inr rfl)
  refine wp_region_in (by kernel_rfl) (by kernel_rfl) ?_
  intro W0_5 hE_5 hN_5
  have bW0_5 : Below w.heap.size w W0_5:=(by rw [hE_5.out];(repeat(first|(with_reducible first|assumption|exact Below.refl _ _|refine je ?_|refine jl ?_)|((with_reducible refine jp ?_ ?_);first|focus(dsimp only;assumption)|focus(simp;done)|focus(dsimp only;omega))|(with_reducible refine bt ?_ (by assumption)))))
  have kk6 : blk W0_5 (w.heap.size + 1 + 1) = some (formC s (n : Int) 0 fa' no sq of de pr bo li to dd false):=(by rw [hE_5.out];(apply jt;(focus repeat(first|(with_reducible first|assumption|apply jd|apply js)|((with_reducible apply jo);first|focus(dsimp only;assumption)|focus(simp;done)|focus(dsimp only;omega))|((with_reducible apply jn);first|with_reducible rfl|focus(simp;done)|focus(simp;omega))|(with_reducible apply ja)|((with_reducible apply jb);with_reducible assumption)));rfl))
  have kk7 : blk W0_5 (w.heap.size) = some (#[.int .i64 0,.int .u64 0,.int .i64 0,.int .i64 0,.int .i64 0,.int .i64 0,.int .i64 0,.int .i64 0,.string ⟨#[]⟩]):=(by rw [hE_5.out];(apply jt;(focus repeat(first|(with_reducible first|assumption|apply jd|apply js)|((with_reducible apply jo);first|focus(dsimp only;assumption)|focus(simp;done)|focus(dsimp only;omega))|((with_reducible apply jn);first|with_reducible rfl|focus(simp;done)|focus(simp;omega))|(with_reducible apply ja)|((with_reducible apply jb);with_reducible assumption)));rfl))
  have kk8 : blk W0_5 (w.heap.size + 1) = some (#[.int .i64 0,.int .i64 0]):=(by rw [hE_5.out];(apply jt;(focus repeat(first|(with_reducible first|assumption|apply jd|apply js)|((with_reducible apply jo);first|focus(dsimp only;assumption)|focus(simp;done)|focus(dsimp only;omega))|((with_reducible apply jn);first|with_reducible rfl|focus(simp;done)|focus(simp;omega))|(with_reducible apply ja)|((with_reducible apply jb);with_reducible assumption)));rfl))
  have kn6:=calm_kn kk6
  have kn7:=calm_kn kk7
  have kn8:=calm_kn kk8
  clear hE_5
  repeat (go_big_quiet_step ((first|(go_at_call 41;(with_reducible refine Class.go _ (gc.out _)))|(go_at_call 84;(with_reducible refine Class.same _ (gk.out _ _ (calm_blk _ (by assumption))))))))
  refine wpQuiet_nil ?_
  rintro _ ⟨x_5,rfl⟩
  have hx_5 : Calm W0_5 x_5.wd:=x_5.ok
  have bw35 : Below w.heap.size w x_5.wd:=bt bW0_5 hx_5
  clear kn6;replace kk6:=blk_below hx_5 kk6;have kn6:=kn kk6
  clear kn7;replace kk7:=blk_below hx_5 kk7;have kn7:=kn kk7
  clear kn8;replace kk8:=blk_below hx_5 kk8;have kn8:=kn kk8
  clear hx_5 bW0_5 hN_5
  generalize x_5.wd = w35 at *
  have sw35:=bw35.size
  clear ko xo yo kno knxo knyo
  go_wp2_with (first|(go_at_call 86;(with_reducible refine (gw.out _).mono ?_);rintro e ww ⟨rfl,hw⟩;have kw : blk ww (w.heap.size + 1 + 1) = some (formC s (n : Int) 0 fa' no sq of de pr bo li to dd false):=(by (apply jt;(focus repeat(first|(with_reducible first|assumption|apply jd|apply js)|((with_reducible apply jo);first|focus(dsimp only;assumption)|focus(simp;done)|focus(dsimp only;omega))|((with_reducible apply jn);first|with_reducible rfl|focus(simp;done)|focus(simp;omega))|(with_reducible apply ja)|((with_reducible apply jb);with_reducible assumption)));rfl));have xw : blk ww w.heap.size = some (#[.int .i64 0,.int .u64 0,.int .i64 0,.int .i64 0,.int .i64 0,.int .i64 0,.int .i64 0,.int .i64 0,.string ⟨#[]⟩]):=(by (apply jt;(focus repeat(first|(with_reducible first|assumption|apply jd|apply js)|((with_reducible apply jo);first|focus(dsimp only;assumption)|focus(simp;done)|focus(dsimp only;omega))|((with_reducible apply jn);first|with_reducible rfl|focus(simp;done)|focus(simp;omega))|(with_reducible apply ja)|((with_reducible apply jb);with_reducible assumption)));rfl));have yw : blk ww (w.heap.size + 1) = some (#[.int .i64 0,.int .i64 0]):=(by (apply jt;(focus repeat(first|(with_reducible first|assumption|apply jd|apply js)|((with_reducible apply jo);first|focus(dsimp only;assumption)|focus(simp;done)|focus(dsimp only;omega))|((with_reducible apply jn);first|with_reducible rfl|focus(simp;done)|focus(simp;omega))|(with_reducible apply ja)|((with_reducible apply jb);with_reducible assumption)));rfl));have Bw : Below w.heap.size w ww:=(by (repeat(first|(with_reducible first|assumption|exact Below.refl _ _|refine je ?_|refine jl ?_)|((with_reducible refine jp ?_ ?_);first|focus(dsimp only;assumption)|focus(simp;done)|focus(dsimp only;omega))|(with_reducible refine bt ?_ (by assumption)))));have knw:=kn kw;have knxw:=kn xw;have knyw:=kn yw))
  (refine ret_blk2 (b:=w.heap.size) (d:=w.heap.size + 1) (c:=#[.int .i64 no,.int .u64 sq,.int .i64 of,.int .i64 de,.int .i64 pr,.int .i64 bo,.int .i64 li,.int .i64 to,.string dd]) (c':=#[.int .i64 0,.int .i64 0]) (v:=.tuple #[.agg #[.int .i64 no,.int .u64 sq,.int .i64 of,.int .i64 de,.int .i64 pr,.int .i64 bo,.int .i64 li,.int .i64 to,.string dd],.agg #[.int .i64 0,.int .i64 0]]) (by (apply jt;(focus repeat(first|(with_reducible first|assumption|apply jd|apply js)|((with_reducible apply jo);first|focus(dsimp only;assumption)|focus(simp;done)|focus(dsimp only;omega))|((with_reducible apply jn);first|with_reducible rfl|focus(simp;done)|focus(simp;omega))|(with_reducible apply ja)|((with_reducible apply jb);with_reducible assumption)));rfl)) (by (apply jt;(focus repeat(first|(with_reducible first|assumption|apply jd|apply js)|((with_reducible apply jo);first|focus(dsimp only;assumption)|focus(simp;done)|focus(dsimp only;omega))|((with_reducible apply jn);first|with_reducible rfl|focus(simp;done)|focus(simp;omega))|(with_reducible apply ja)|((with_reducible apply jb);with_reducible assumption)));rfl)) (fun W' e1 e2 => by simp [results,Tryd.results54,go_sem,e1,e2]) rfl ⟨rfl,by (repeat(first|(with_reducible first|assumption|exact Below.refl _ _|refine je ?_|refine jl ?_)|((with_reducible refine jp ?_ ?_);first|focus(dsimp only;assumption)|focus(simp;done)|focus(dsimp only;omega))|(with_reducible refine bt ?_ (by assumption))))⟩)
end Go.Proofs.YtaiofjffoboicaaDoor
