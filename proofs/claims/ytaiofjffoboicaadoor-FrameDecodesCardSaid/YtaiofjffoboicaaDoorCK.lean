/- Parts of a proof, printed by a program of mine out of my texts: WiRefDecc, WiRefDecd. -/
import Derived.Test.YtaiofjffoboicaaDoorCI
import Derived.Test.YtaiofjffoboicaaDoorCWiDec3
set_option linter.unusedSimpArgs false
set_option linter.unusedVariables false
namespace Go.Proofs.YtaiofjffoboicaaDoor
open Go.RowKit
set_option maxRecDepth 100000 in
set_option maxHeartbeats 3200000 in
theorem rdec4_true (s : ByteArray) (hs : s.size ≤ 1000000) (no sq of de bo li to q er' fa' pr : Int) (cf : ∀ b w,blk w b = some (rdC s 0 0 0) → Calls Tryd.prog 89 #[.pointer (some ⟨b,0,none⟩)] w fun x w' => x = .returned (.tuple #[buv no sq of de pr bo li to ⟨#[]⟩,.bool true]) ∧ (∃ p,blk w' b = some (rdC s p er' fa') ∧ (er' = 0 → p = q)) ∧ Touch b w w') (hX0 : er' = 0) (dd : ByteArray) (n : Nat) (ht : getTextN s.data.toList q 1000 = (dd.data.toList,(n : Int),0)) (hq1 : 0 ≤ q) (hq2 : q ≤ s.size) (hn : n ≤ s.size) (hd : dd.size ≤ 1000000) (c1 : n + 4 ≤ s.size) (c2 : (s.data.toList.drop n).take 4 = four (crcN (s.data.toList.take n))) (c3 : s.size = n + 4) (bc : Int) (hbc : buC no sq of de pr bo li (dd.size : Int) dd.size = bc) (hbc0 : bc ≠ 0) (w : World) :
    Calls Tryd.prog 58 #[.string s] w fun e w' => e = .returned (.tuple #[.agg #[.int .i64 0,.int .u64 0,.int .i64 0,.int .i64 0,.int .i64 0,.int .i64 0,.int .i64 0,.int .i64 0,.string ⟨#[]⟩],.agg #[.int .i64 bc,.int .i64 0]]) ∧ Below w.heap.size w w':=by
  replace cf:=Lib.hid cf
  subst hX0
  have ct:=fun w => refGetText_any s q 1000 w (by unfold maxLen;omega) (by omega) (by omega) (by omega)
  rw [ht] at ct
  have ct : ∀ w,Calls Tryd.prog 57 #[.string s,.int .i64 q,.int .i64 1000] w fun e w' => e = .returned (.tuple #[.string dd,.int .i64 (n : Int),.int .i64 0]) ∧ w = w':=ct
  replace ct:=Lib.hid ct;clear ht
  have k1 : (n : Int) + 4 ≤ (s.size : Int):=by omega
  have x1 : (s.extract 0 n).size = n:=by simp;omega
  have x2 : (s.extract 0 n).data.toList = s.data.toList.take n:=by simp
  have gc:=fun w => refCrc32_any (s.extract 0 n) (by omega) w
  have gf:=fun w => refFour_any (crcN (s.extract 0 n).data.toList) (crcN_lt _) w
  obtain ⟨t2,ht2⟩ : ∃ t,s.extract n (n + 4) = t:=⟨_,rfl⟩
  have h1 : t2.data.toList = (s.data.toList.drop n).take 4:=by rw [← ht2,Lib.extract_data,show n + 4 - n = 4 by omega]
  have e3 : bstr (four (crcN (s.extract 0 n).data.toList)) = .string t2:=by rw [x2];exact (vstr (by rw [h1];exact c2)).symm
  rw [e3] at gf
  obtain ⟨c,hc⟩ : ∃ c,crcN (s.extract 0 n).data.toList = c:=⟨_,rfl⟩
  rw [hc] at gc gf
  replace gc:=Lib.hid gc;replace gf:=Lib.hid gf
  clear hc e3 h1 c2 x2
  have k3 : ¬ ((n : Int) + 4 < (s.size : Int)):=by omega
  have hdm : dd.size ≤ maxLen:=by unfold maxLen;omega
  have gk:=fun w => refCheck_any no sq of de pr bo li (dd.size : Int) dd hdm w
  rw [hbc] at gk
  replace gk:=Lib.hid gk
  have HB:=Lib.hid hbc;clear hbc
  have hc3:=Lib.hid c3;clear c3
  have e9 : (bc != 0) = true:=by simp [hbc0]
  clear hbc0
  have HC1:=Lib.hid c1;clear c1
  go_enter Tryd.func58,Tryd.ntmps58
  go_wp2_with fail
  (with_reducible refine (cf.out _ _ ?_).mono ?_)
  · exact blk_alloc_new _ _ _ (by simp)
  rintro e w1 ⟨rfl,⟨p,k1_,kp⟩,t1⟩
  obtain rfl:=kp (by trivial)
  have x1_ : blk w1 w.heap.size = some (#[.int .i64 0,.int .u64 0,.int .i64 0,.int .i64 0,.int .i64 0,.int .i64 0,.int .i64 0,.int .i64 0,.string ⟨#[]⟩]):=t1.2.1 _ _ (by omega) (by (apply jt;(focus repeat(first|(with_reducible first|assumption|apply js)|((with_reducible apply jo);first|focus(dsimp only;assumption)|focus(simp;done)|focus(dsimp only;omega))|((with_reducible apply jn);first|with_reducible rfl|focus(simp;done)|focus(simp;omega))|(with_reducible apply ja)|((with_reducible apply jb);with_reducible assumption)));rfl))
  have y1_ : blk w1 (w.heap.size + 1) = some #[.int .i64 0,.int .i64 0]:=t1.2.1 _ _ (by omega) (by (apply jt;(focus repeat(first|(with_reducible first|assumption|apply js)|((with_reducible apply jo);first|focus(dsimp only;assumption)|focus(simp;done)|focus(dsimp only;omega))|((with_reducible apply jn);first|with_reducible rfl|focus(simp;done)|focus(simp;omega))|(with_reducible apply ja)|((with_reducible apply jb);with_reducible assumption)));rfl))
  have B1 : Below w.heap.size w w1:=((((Below.refl w.heap.size w).alloc (Nat.le_refl _) _).alloc (by simp) _).alloc (by simp;omega) _).trans (t1.1.mono (by omega))
  clear t1
  have kn1:=kn k1_;have knx:=kn x1_;have kny:=kn y1_
  go_wp2_with (go_at_call 57;(with_reducible refine (ct.out _).mono ?_);rintro e wx ⟨rfl,rfl⟩)
  refine wp_region_in (by kernel_rfl) (by kernel_rfl) ?_
  intro W0_1 hE_1 hN_1
  have bW0_1 : Below w.heap.size w W0_1:=(by rw [hE_1.out];(repeat(first|(with_reducible first|assumption|exact Below.refl _ _|refine je ?_|refine jl ?_)|((with_reducible refine jp ?_ ?_);first|focus(dsimp only;assumption)|focus(simp;done)|focus(dsimp only;omega))|(with_reducible refine bt ?_ (by assumption)))))
  have kk2 : blk W0_1 (w1.heap.size) = some (#[.int .i64 no,.int .u64 sq,.int .i64 of,.int .i64 de,.int .i64 pr,.int .i64 bo,.int .i64 li,.int .i64 (dd.size : Int),.string dd]):=(by rw [hE_1.out];(apply jt;(focus repeat(first|(with_reducible first|assumption|apply jd|apply js)|((with_reducible apply jo);first|focus(dsimp only;assumption)|focus(simp;done)|focus(dsimp only;omega))|((with_reducible apply jn);first|with_reducible rfl|focus(simp;done)|focus(simp;omega))|(with_reducible apply ja)|((with_reducible apply jb);with_reducible assumption)));rfl))
  have kk3 : blk W0_1 (w.heap.size) = some (#[.int .i64 0,.int .u64 0,.int .i64 0,.int .i64 0,.int .i64 0,.int .i64 0,.int .i64 0,.int .i64 0,.string ⟨#[]⟩]):=(by rw [hE_1.out];(apply jt;(focus repeat(first|(with_reducible first|assumption|apply jd|apply js)|((with_reducible apply jo);first|focus(dsimp only;assumption)|focus(simp;done)|focus(dsimp only;omega))|((with_reducible apply jn);first|with_reducible rfl|focus(simp;done)|focus(simp;omega))|(with_reducible apply ja)|((with_reducible apply jb);with_reducible assumption)));rfl))
  have kk4 : blk W0_1 (w.heap.size + 1) = some (#[.int .i64 0,.int .i64 0]):=(by rw [hE_1.out];(apply jt;(focus repeat(first|(with_reducible first|assumption|apply jd|apply js)|((with_reducible apply jo);first|focus(dsimp only;assumption)|focus(simp;done)|focus(dsimp only;omega))|((with_reducible apply jn);first|with_reducible rfl|focus(simp;done)|focus(simp;omega))|(with_reducible apply ja)|((with_reducible apply jb);with_reducible assumption)));rfl))
  have kn2:=calm_kn kk2
  have kn3:=calm_kn kk3
  have kn4:=calm_kn kk4
  clear hE_1
  repeat (go_big_quiet_step ((first|(go_at_call 91;(with_reducible refine Class.same _ (gc.out _)))|(go_at_call 90;(with_reducible refine Class.go _ (gf.out _))))))
  refine wpQuiet_nil ?_
  rintro _ ⟨x_1,rfl⟩
  have hx_1 : Calm W0_1 x_1.wd:=x_1.ok
  have bw2 : Below w.heap.size w x_1.wd:=bt bW0_1 hx_1
  clear kn2;replace kk2:=blk_below hx_1 kk2;have kn2:=kn kk2
  clear kn3;replace kk3:=blk_below hx_1 kk3;have kn3:=kn kk3
  clear kn4;replace kk4:=blk_below hx_1 kk4;have kn4:=kn kk4
  clear hx_1 bW0_1 hN_1
  generalize x_1.wd = w2 at *
  have sw2:=bw2.size
  go_wp2_with fail
  (with_reducible refine (gk.out _).mono ?_)
  rintro e w3 ⟨rfl,hw3⟩
  have kk5 : blk w3 (w1.heap.size) = some (#[.int .i64 no,.int .u64 sq,.int .i64 of,.int .i64 de,.int .i64 pr,.int .i64 bo,.int .i64 li,.int .i64 (dd.size : Int),.string dd]):=(by (apply jt;(focus repeat(first|(with_reducible first|assumption|apply jd|apply js)|((with_reducible apply jo);first|focus(dsimp only;assumption)|focus(simp;done)|focus(dsimp only;omega))|((with_reducible apply jn);first|with_reducible rfl|focus(simp;done)|focus(simp;omega))|(with_reducible apply ja)|((with_reducible apply jb);with_reducible assumption)));rfl))
  have kk6 : blk w3 (w.heap.size) = some (#[.int .i64 0,.int .u64 0,.int .i64 0,.int .i64 0,.int .i64 0,.int .i64 0,.int .i64 0,.int .i64 0,.string ⟨#[]⟩]):=(by (apply jt;(focus repeat(first|(with_reducible first|assumption|apply jd|apply js)|((with_reducible apply jo);first|focus(dsimp only;assumption)|focus(simp;done)|focus(dsimp only;omega))|((with_reducible apply jn);first|with_reducible rfl|focus(simp;done)|focus(simp;omega))|(with_reducible apply ja)|((with_reducible apply jb);with_reducible assumption)));rfl))
  have kk7 : blk w3 (w.heap.size + 1) = some (#[.int .i64 0,.int .i64 0]):=(by (apply jt;(focus repeat(first|(with_reducible first|assumption|apply jd|apply js)|((with_reducible apply jo);first|focus(dsimp only;assumption)|focus(simp;done)|focus(dsimp only;omega))|((with_reducible apply jn);first|with_reducible rfl|focus(simp;done)|focus(simp;omega))|(with_reducible apply ja)|((with_reducible apply jb);with_reducible assumption)));rfl))
  clear kk2 kn2 kk3 kn3 kk4 kn4
  have kn5:=kn kk5
  have kn6:=kn kk6
  have kn7:=kn kk7
  have bw3 : Below w.heap.size w w3:=(by (repeat(first|(with_reducible first|assumption|exact Below.refl _ _|refine je ?_|refine jl ?_)|((with_reducible refine jp ?_ ?_);first|focus(dsimp only;assumption)|focus(simp;done)|focus(dsimp only;omega))|(with_reducible refine bt ?_ (by assumption)))))
  have sw3:=bw3.size
  clear hw3 bw2
  go_wp2
  refine ret_blk2 (b:=w.heap.size) (d:=w.heap.size + 1) (c:=#[.int .i64 0,.int .u64 0,.int .i64 0,.int .i64 0,.int .i64 0,.int .i64 0,.int .i64 0,.int .i64 0,.string ⟨#[]⟩]) (c':=#[.int .i64 bc,.int .i64 0]) (v:=.tuple #[.agg #[.int .i64 0,.int .u64 0,.int .i64 0,.int .i64 0,.int .i64 0,.int .i64 0,.int .i64 0,.int .i64 0,.string ⟨#[]⟩],.agg #[.int .i64 bc,.int .i64 0]]) (by (apply jt;(focus repeat(first|(with_reducible first|assumption|apply jd|apply js)|((with_reducible apply jo);first|focus(dsimp only;assumption)|focus(simp;done)|focus(dsimp only;omega))|((with_reducible apply jn);first|with_reducible rfl|focus(simp;done)|focus(simp;omega))|(with_reducible apply ja)|((with_reducible apply jb);with_reducible assumption)));rfl)) (by (apply jt;(focus repeat(first|(with_reducible first|assumption|apply jd|apply js)|((with_reducible apply jo);first|focus(dsimp only;assumption)|focus(simp;done)|focus(dsimp only;omega))|((with_reducible apply jn);first|with_reducible rfl|focus(simp;done)|focus(simp;omega))|(with_reducible apply ja)|((with_reducible apply jb);with_reducible assumption)));rfl)) (fun W' e1 e2 => by simp [results,Tryd.results58,go_sem,e1,e2]) rfl ⟨rfl,by (repeat(first|(with_reducible first|assumption|exact Below.refl _ _|refine je ?_|refine jl ?_)|((with_reducible refine jp ?_ ?_);first|focus(dsimp only;assumption)|focus(simp;done)|focus(dsimp only;omega))|(with_reducible refine bt ?_ (by assumption))))⟩
set_option maxRecDepth 100000 in
set_option maxHeartbeats 3200000 in
theorem rdec4_false (s : ByteArray) (hs : s.size ≤ 1000000) (no sq of de bo li to q er' fa' pr : Int) (cf : ∀ b w,blk w b = some (rdC s 0 0 0) → Calls Tryd.prog 89 #[.pointer (some ⟨b,0,none⟩)] w fun x w' => x = .returned (.tuple #[buv no sq of de pr bo li to ⟨#[]⟩,.bool false]) ∧ (∃ p,blk w' b = some (rdC s p er' fa') ∧ (er' = 0 → p = q)) ∧ Touch b w w') (hX0 : er' = 0) (dd : ByteArray) (n : Nat) (ht : getTextN s.data.toList q 1000 = (dd.data.toList,(n : Int),0)) (hq1 : 0 ≤ q) (hq2 : q ≤ s.size) (hn : n ≤ s.size) (hd : dd.size ≤ 1000000) (c1 : n + 4 ≤ s.size) (c2 : (s.data.toList.drop n).take 4 = four (crcN (s.data.toList.take n))) (c3 : s.size = n + 4) (bc : Int) (hbc : buC no sq of de pr bo li to dd.size = bc) (hbc0 : bc ≠ 0) (w : World) :
    Calls Tryd.prog 58 #[.string s] w fun e w' => e = .returned (.tuple #[.agg #[.int .i64 0,.int .u64 0,.int .i64 0,.int .i64 0,.int .i64 0,.int .i64 0,.int .i64 0,.int .i64 0,.string ⟨#[]⟩],.agg #[.int .i64 bc,.int .i64 0]]) ∧ Below w.heap.size w w':=by
  replace cf:=Lib.hid cf
  subst hX0
  have ct:=fun w => refGetText_any s q 1000 w (by unfold maxLen;omega) (by omega) (by omega) (by omega)
  rw [ht] at ct
  have ct : ∀ w,Calls Tryd.prog 57 #[.string s,.int .i64 q,.int .i64 1000] w fun e w' => e = .returned (.tuple #[.string dd,.int .i64 (n : Int),.int .i64 0]) ∧ w = w':=ct
  replace ct:=Lib.hid ct;clear ht
  have k1 : (n : Int) + 4 ≤ (s.size : Int):=by omega
  have x1 : (s.extract 0 n).size = n:=by simp;omega
  have x2 : (s.extract 0 n).data.toList = s.data.toList.take n:=by simp
  have gc:=fun w => refCrc32_any (s.extract 0 n) (by omega) w
  have gf:=fun w => refFour_any (crcN (s.extract 0 n).data.toList) (crcN_lt _) w
  obtain ⟨t2,ht2⟩ : ∃ t,s.extract n (n + 4) = t:=⟨_,rfl⟩
  have h1 : t2.data.toList = (s.data.toList.drop n).take 4:=by rw [← ht2,Lib.extract_data,show n + 4 - n = 4 by omega]
  have e3 : bstr (four (crcN (s.extract 0 n).data.toList)) = .string t2:=by rw [x2];exact (vstr (by rw [h1];exact c2)).symm
  rw [e3] at gf
  obtain ⟨c,hc⟩ : ∃ c,crcN (s.extract 0 n).data.toList = c:=⟨_,rfl⟩
  rw [hc] at gc gf
  replace gc:=Lib.hid gc;replace gf:=Lib.hid gf
  clear hc e3 h1 c2 x2
  have k3 : ¬ ((n : Int) + 4 < (s.size : Int)):=by omega
  have hdm : dd.size ≤ maxLen:=by unfold maxLen;omega
  have gk:=fun w => refCheck_any no sq of de pr bo li to dd hdm w
  rw [hbc] at gk
  replace gk:=Lib.hid gk
  have HB:=Lib.hid hbc;clear hbc
  have hc3:=Lib.hid c3;clear c3
  have e9 : (bc != 0) = true:=by simp [hbc0]
  clear hbc0
  have HC1:=Lib.hid c1;clear c1
  go_enter Tryd.func58,Tryd.ntmps58
  go_wp2_with fail
  (with_reducible refine (cf.out _ _ ?_).mono ?_)
  · exact blk_alloc_new _ _ _ (by simp)
  rintro e w1 ⟨rfl,⟨p,k1_,kp⟩,t1⟩
  obtain rfl:=kp (by trivial)
  have x1_ : blk w1 w.heap.size = some (#[.int .i64 0,.int .u64 0,.int .i64 0,.int .i64 0,.int .i64 0,.int .i64 0,.int .i64 0,.int .i64 0,.string ⟨#[]⟩]):=t1.2.1 _ _ (by omega) (by (apply jt;(focus repeat(first|(with_reducible first|assumption|apply js)|((with_reducible apply jo);first|focus(dsimp only;assumption)|focus(simp;done)|focus(dsimp only;omega))|((with_reducible apply jn);first|with_reducible rfl|focus(simp;done)|focus(simp;omega))|(with_reducible apply ja)|((with_reducible apply jb);with_reducible assumption)));rfl))
  have y1_ : blk w1 (w.heap.size + 1) = some #[.int .i64 0,.int .i64 0]:=t1.2.1 _ _ (by omega) (by (apply jt;(focus repeat(first|(with_reducible first|assumption|apply js)|((with_reducible apply jo);first|focus(dsimp only;assumption)|focus(simp;done)|focus(dsimp only;omega))|((with_reducible apply jn);first|with_reducible rfl|focus(simp;done)|focus(simp;omega))|(with_reducible apply ja)|((with_reducible apply jb);with_reducible assumption)));rfl))
  have B1 : Below w.heap.size w w1:=((((Below.refl w.heap.size w).alloc (Nat.le_refl _) _).alloc (by simp) _).alloc (by simp;omega) _).trans (t1.1.mono (by omega))
  clear t1
  have kn1:=kn k1_;have knx:=kn x1_;have kny:=kn y1_
  go_wp2_with (go_at_call 57;(with_reducible refine (ct.out _).mono ?_);rintro e wx ⟨rfl,rfl⟩)
  refine wp_region_in (by kernel_rfl) (by kernel_rfl) ?_
  intro W0_8 hE_8 hN_8
  have bW0_8 : Below w.heap.size w W0_8:=(by rw [hE_8.out];(repeat(first|(with_reducible first|assumption|exact Below.refl _ _|refine je ?_|refine jl ?_)|((with_reducible refine jp ?_ ?_);first|focus(dsimp only;assumption)|focus(simp;done)|focus(dsimp only;omega))|(with_reducible refine bt ?_ (by assumption)))))
  have kk9 : blk W0_8 (w1.heap.size) = some (#[.int .i64 no,.int .u64 sq,.int .i64 of,.int .i64 de,.int .i64 pr,.int .i64 bo,.int .i64 li,.int .i64 to,.string dd]):=(by rw [hE_8.out];(apply jt;(focus repeat(first|(with_reducible first|assumption|apply jd|apply js)|((with_reducible apply jo);first|focus(dsimp only;assumption)|focus(simp;done)|focus(dsimp only;omega))|((with_reducible apply jn);first|with_reducible rfl|focus(simp;done)|focus(simp;omega))|(with_reducible apply ja)|((with_reducible apply jb);with_reducible assumption)));rfl))
  have kk10 : blk W0_8 (w.heap.size) = some (#[.int .i64 0,.int .u64 0,.int .i64 0,.int .i64 0,.int .i64 0,.int .i64 0,.int .i64 0,.int .i64 0,.string ⟨#[]⟩]):=(by rw [hE_8.out];(apply jt;(focus repeat(first|(with_reducible first|assumption|apply jd|apply js)|((with_reducible apply jo);first|focus(dsimp only;assumption)|focus(simp;done)|focus(dsimp only;omega))|((with_reducible apply jn);first|with_reducible rfl|focus(simp;done)|focus(simp;omega))|(with_reducible apply ja)|((with_reducible apply jb);with_reducible assumption)));rfl))
  have kk11 : blk W0_8 (w.heap.size + 1) = some (#[.int .i64 0,.int .i64 0]):=(by rw [hE_8.out];(apply jt;(focus repeat(first|(with_reducible first|assumption|apply jd|apply js)|((with_reducible apply jo);first|focus(dsimp only;assumption)|focus(simp;done)|focus(dsimp only;omega))|((with_reducible apply jn);first|with_reducible rfl|focus(simp;done)|focus(simp;omega))|(with_reducible apply ja)|((with_reducible apply jb);with_reducible assumption)));rfl))
  have kn9:=calm_kn kk9
  have kn10:=calm_kn kk10
  have kn11:=calm_kn kk11
  clear hE_8
  repeat (go_big_quiet_step ((first|(go_at_call 91;(with_reducible refine Class.same _ (gc.out _)))|(go_at_call 90;(with_reducible refine Class.go _ (gf.out _))))))
  refine wpQuiet_nil ?_
  rintro _ ⟨x_8,rfl⟩
  have hx_8 : Calm W0_8 x_8.wd:=x_8.ok
  have bw2 : Below w.heap.size w x_8.wd:=bt bW0_8 hx_8
  clear kn9;replace kk9:=blk_below hx_8 kk9;have kn9:=kn kk9
  clear kn10;replace kk10:=blk_below hx_8 kk10;have kn10:=kn kk10
  clear kn11;replace kk11:=blk_below hx_8 kk11;have kn11:=kn kk11
  clear hx_8 bW0_8 hN_8
  generalize x_8.wd = w2 at *
  have sw2:=bw2.size
  go_wp2_with fail
  (with_reducible refine (gk.out _).mono ?_)
  rintro e w3 ⟨rfl,hw3⟩
  have kk12 : blk w3 (w1.heap.size) = some (#[.int .i64 no,.int .u64 sq,.int .i64 of,.int .i64 de,.int .i64 pr,.int .i64 bo,.int .i64 li,.int .i64 to,.string dd]):=(by (apply jt;(focus repeat(first|(with_reducible first|assumption|apply jd|apply js)|((with_reducible apply jo);first|focus(dsimp only;assumption)|focus(simp;done)|focus(dsimp only;omega))|((with_reducible apply jn);first|with_reducible rfl|focus(simp;done)|focus(simp;omega))|(with_reducible apply ja)|((with_reducible apply jb);with_reducible assumption)));rfl))
  have kk13 : blk w3 (w.heap.size) = some (#[.int .i64 0,.int .u64 0,.int .i64 0,.int .i64 0,.int .i64 0,.int .i64 0,.int .i64 0,.int .i64 0,.string ⟨#[]⟩]):=(by (apply jt;(focus repeat(first|(with_reducible first|assumption|apply jd|apply js)|((with_reducible apply jo);first|focus(dsimp only;assumption)|focus(simp;done)|focus(dsimp only;omega))|((with_reducible apply jn);first|with_reducible rfl|focus(simp;done)|focus(simp;omega))|(with_reducible apply ja)|((with_reducible apply jb);with_reducible assumption)));rfl))
  have kk14 : blk w3 (w.heap.size + 1) = some (#[.int .i64 0,.int .i64 0]):=(by (apply jt;(focus repeat(first|(with_reducible first|assumption|apply jd|apply js)|((with_reducible apply jo);first|focus(dsimp only;assumption)|focus(simp;done)|focus(dsimp only;omega))|((with_reducible apply jn);first|with_reducible rfl|focus(simp;done)|focus(simp;omega))|(with_reducible apply ja)|((with_reducible apply jb);with_reducible assumption)));rfl))
  clear kk9 kn9 kk10 kn10 kk11 kn11
  have kn12:=kn kk12
  have kn13:=kn kk13
  have kn14:=kn kk14
  have bw3 : Below w.heap.size w w3:=(by (repeat(first|(with_reducible first|assumption|exact Below.refl _ _|refine je ?_|refine jl ?_)|((with_reducible refine jp ?_ ?_);first|focus(dsimp only;assumption)|focus(simp;done)|focus(dsimp only;omega))|(with_reducible refine bt ?_ (by assumption)))))
  have sw3:=bw3.size
  clear hw3 bw2
  go_wp2
  refine ret_blk2 (b:=w.heap.size) (d:=w.heap.size + 1) (c:=#[.int .i64 0,.int .u64 0,.int .i64 0,.int .i64 0,.int .i64 0,.int .i64 0,.int .i64 0,.int .i64 0,.string ⟨#[]⟩]) (c':=#[.int .i64 bc,.int .i64 0]) (v:=.tuple #[.agg #[.int .i64 0,.int .u64 0,.int .i64 0,.int .i64 0,.int .i64 0,.int .i64 0,.int .i64 0,.int .i64 0,.string ⟨#[]⟩],.agg #[.int .i64 bc,.int .i64 0]]) (by (apply jt;(focus repeat(first|(with_reducible first|assumption|apply jd|apply js)|((with_reducible apply jo);first|focus(dsimp only;assumption)|focus(simp;done)|focus(dsimp only;omega))|((with_reducible apply jn);first|with_reducible rfl|focus(simp;done)|focus(simp;omega))|(with_reducible apply ja)|((with_reducible apply jb);with_reducible assumption)));rfl)) (by (apply jt;(focus repeat(first|(with_reducible first|assumption|apply jd|apply js)|((with_reducible apply jo);first|focus(dsimp only;assumption)|focus(simp;done)|focus(dsimp only;omega))|((with_reducible apply jn);first|with_reducible rfl|focus(simp;done)|focus(simp;omega))|(with_reducible apply ja)|((with_reducible apply jb);with_reducible assumption)));rfl)) (fun W' e1 e2 => by simp [results,Tryd.results58,go_sem,e1,e2]) rfl ⟨rfl,by (repeat(first|(with_reducible first|assumption|exact Below.refl _ _|refine je ?_|refine jl ?_)|((with_reducible refine jp ?_ ?_);first|focus(dsimp only;assumption)|focus(simp;done)|focus(dsimp only;omega))|(with_reducible refine bt ?_ (by assumption))))⟩
set_option maxRecDepth 100000 in
set_option maxHeartbeats 3200000 in
theorem rdec5_false (s : ByteArray) (hs : s.size ≤ 1000000) (no sq of de bo li to q er' fa' pr : Int) (cf : ∀ b w,blk w b = some (rdC s 0 0 0) → Calls Tryd.prog 89 #[.pointer (some ⟨b,0,none⟩)] w fun x w' => x = .returned (.tuple #[buv no sq of de pr bo li to ⟨#[]⟩,.bool false]) ∧ (∃ p,blk w' b = some (rdC s p er' fa') ∧ (er' = 0 → p = q)) ∧ Touch b w w') (hX0 : er' = 0) (dd : ByteArray) (n : Nat) (ht : getTextN s.data.toList q 1000 = (dd.data.toList,(n : Int),0)) (hq1 : 0 ≤ q) (hq2 : q ≤ s.size) (hn : n ≤ s.size) (hd : dd.size ≤ 1000000) (c1 : n + 4 ≤ s.size) (c2 : (s.data.toList.drop n).take 4 = four (crcN (s.data.toList.take n))) (c3 : s.size = n + 4) (hbc : buC no sq of de pr bo li to dd.size = 0) (hwh : wholeB of to dd.size = true) (w : World) :
    Calls Tryd.prog 58 #[.string s] w fun e w' => e = .returned (.tuple #[.agg #[.int .i64 0,.int .u64 0,.int .i64 0,.int .i64 0,.int .i64 0,.int .i64 0,.int .i64 0,.int .i64 0,.string ⟨#[]⟩],.agg #[.int .i64 3,.int .i64 0]]) ∧ Below w.heap.size w w':=by
  replace cf:=Lib.hid cf
  subst hX0
  have ct:=fun w => refGetText_any s q 1000 w (by unfold maxLen;omega) (by omega) (by omega) (by omega)
  rw [ht] at ct
  have ct : ∀ w,Calls Tryd.prog 57 #[.string s,.int .i64 q,.int .i64 1000] w fun e w' => e = .returned (.tuple #[.string dd,.int .i64 (n : Int),.int .i64 0]) ∧ w = w':=ct
  replace ct:=Lib.hid ct;clear ht
  have k1 : (n : Int) + 4 ≤ (s.size : Int):=by omega
  have x1 : (s.extract 0 n).size = n:=by simp;omega
  have x2 : (s.extract 0 n).data.toList = s.data.toList.take n:=by simp
  have gc:=fun w => refCrc32_any (s.extract 0 n) (by omega) w
  have gf:=fun w => refFour_any (crcN (s.extract 0 n).data.toList) (crcN_lt _) w
  obtain ⟨t2,ht2⟩ : ∃ t,s.extract n (n + 4) = t:=⟨_,rfl⟩
  have h1 : t2.data.toList = (s.data.toList.drop n).take 4:=by rw [← ht2,Lib.extract_data,show n + 4 - n = 4 by omega]
  have e3 : bstr (four (crcN (s.extract 0 n).data.toList)) = .string t2:=by rw [x2];exact (vstr (by rw [h1];exact c2)).symm
  rw [e3] at gf
  obtain ⟨c,hc⟩ : ∃ c,crcN (s.extract 0 n).data.toList = c:=⟨_,rfl⟩
  rw [hc] at gc gf
  replace gc:=Lib.hid gc;replace gf:=Lib.hid gf
  clear hc e3 h1 c2 x2
  have k3 : ¬ ((n : Int) + 4 < (s.size : Int)):=by omega
  have hdm : dd.size ≤ maxLen:=by unfold maxLen;omega
  have gk:=fun w => refCheck_any no sq of de pr bo li to dd hdm w
  rw [hbc] at gk
  replace gk:=Lib.hid gk
  have HB:=Lib.hid hbc;clear hbc
  have hc3:=Lib.hid c3;clear c3
  have gw:=fun w => refWhole_any no sq of de pr bo li to dd hdm w
  rw [hwh] at gw
  replace gw:=Lib.hid gw;clear hwh
  have HC1:=Lib.hid c1;clear c1
  go_enter Tryd.func58,Tryd.ntmps58
  go_wp2_with fail
  (with_reducible refine (cf.out _ _ ?_).mono ?_)
  · exact blk_alloc_new _ _ _ (by simp)
  rintro e w1 ⟨rfl,⟨p,k1_,kp⟩,t1⟩
  obtain rfl:=kp (by trivial)
  have x1_ : blk w1 w.heap.size = some (#[.int .i64 0,.int .u64 0,.int .i64 0,.int .i64 0,.int .i64 0,.int .i64 0,.int .i64 0,.int .i64 0,.string ⟨#[]⟩]):=t1.2.1 _ _ (by omega) (by (apply jt;(focus repeat(first|(with_reducible first|assumption|apply js)|((with_reducible apply jo);first|focus(dsimp only;assumption)|focus(simp;done)|focus(dsimp only;omega))|((with_reducible apply jn);first|with_reducible rfl|focus(simp;done)|focus(simp;omega))|(with_reducible apply ja)|((with_reducible apply jb);with_reducible assumption)));rfl))
  have y1_ : blk w1 (w.heap.size + 1) = some #[.int .i64 0,.int .i64 0]:=t1.2.1 _ _ (by omega) (by (apply jt;(focus repeat(first|(with_reducible first|assumption|apply js)|((with_reducible apply jo);first|focus(dsimp only;assumption)|focus(simp;done)|focus(dsimp only;omega))|((with_reducible apply jn);first|with_reducible rfl|focus(simp;done)|focus(simp;omega))|(with_reducible apply ja)|((with_reducible apply jb);with_reducible assumption)));rfl))
  have B1 : Below w.heap.size w w1:=((((Below.refl w.heap.size w).alloc (Nat.le_refl _) _).alloc (by simp) _).alloc (by simp;omega) _).trans (t1.1.mono (by omega))
  clear t1
  have kn1:=kn k1_;have knx:=kn x1_;have kny:=kn y1_
  go_wp2_with (go_at_call 57;(with_reducible refine (ct.out _).mono ?_);rintro e wx ⟨rfl,rfl⟩)
  refine wp_region_in (by kernel_rfl) (by kernel_rfl) ?_
  intro W0_15 hE_15 hN_15
  have bW0_15 : Below w.heap.size w W0_15:=(by rw [hE_15.out];(repeat(first|(with_reducible first|assumption|exact Below.refl _ _|refine je ?_|refine jl ?_)|((with_reducible refine jp ?_ ?_);first|focus(dsimp only;assumption)|focus(simp;done)|focus(dsimp only;omega))|(with_reducible refine bt ?_ (by assumption)))))
  have kk16 : blk W0_15 (w1.heap.size) = some (#[.int .i64 no,.int .u64 sq,.int .i64 of,.int .i64 de,.int .i64 pr,.int .i64 bo,.int .i64 li,.int .i64 to,.string dd]):=(by rw [hE_15.out];(apply jt;(focus repeat(first|(with_reducible first|assumption|apply jd|apply js)|((with_reducible apply jo);first|focus(dsimp only;assumption)|focus(simp;done)|focus(dsimp only;omega))|((with_reducible apply jn);first|with_reducible rfl|focus(simp;done)|focus(simp;omega))|(with_reducible apply ja)|((with_reducible apply jb);with_reducible assumption)));rfl))
  have kk17 : blk W0_15 (w.heap.size) = some (#[.int .i64 0,.int .u64 0,.int .i64 0,.int .i64 0,.int .i64 0,.int .i64 0,.int .i64 0,.int .i64 0,.string ⟨#[]⟩]):=(by rw [hE_15.out];(apply jt;(focus repeat(first|(with_reducible first|assumption|apply jd|apply js)|((with_reducible apply jo);first|focus(dsimp only;assumption)|focus(simp;done)|focus(dsimp only;omega))|((with_reducible apply jn);first|with_reducible rfl|focus(simp;done)|focus(simp;omega))|(with_reducible apply ja)|((with_reducible apply jb);with_reducible assumption)));rfl))
  have kk18 : blk W0_15 (w.heap.size + 1) = some (#[.int .i64 0,.int .i64 0]):=(by rw [hE_15.out];(apply jt;(focus repeat(first|(with_reducible first|assumption|apply jd|apply js)|((with_reducible apply jo);first|focus(dsimp only;assumption)|focus(simp;done)|focus(dsimp only;omega))|((with_reducible apply jn);first|with_reducible rfl|focus(simp;done)|focus(simp;omega))|(with_reducible apply ja)|((with_reducible apply jb);with_reducible assumption)));rfl))
  have kn16:=calm_kn kk16
  have kn17:=calm_kn kk17
  have kn18:=calm_kn kk18
  clear hE_15
  repeat (go_big_quiet_step ((first|(go_at_call 91;(with_reducible refine Class.same _ (gc.out _)))|(go_at_call 90;(with_reducible refine Class.go _ (gf.out _))))))
  refine wpQuiet_nil ?_
  rintro _ ⟨x_15,rfl⟩
  have hx_15 : Calm W0_15 x_15.wd:=x_15.ok
  have bw2 : Below w.heap.size w x_15.wd:=bt bW0_15 hx_15
  clear kn16;replace kk16:=blk_below hx_15 kk16;have kn16:=kn kk16
  clear kn17;replace kk17:=blk_below hx_15 kk17;have kn17:=kn kk17
  clear kn18;replace kk18:=blk_below hx_15 kk18;have kn18:=kn kk18
  clear hx_15 bW0_15 hN_15
  generalize x_15.wd = w2 at *
  have sw2:=bw2.size
  go_wp2_with fail
  (with_reducible refine (gk.out _).mono ?_)
  rintro e w3 ⟨rfl,hw3⟩
  have kk19 : blk w3 (w1.heap.size) = some (#[.int .i64 no,.int .u64 sq,.int .i64 of,.int .i64 de,.int .i64 pr,.int .i64 bo,.int .i64 li,.int .i64 to,.string dd]):=(by (apply jt;(focus repeat(first|(with_reducible first|assumption|apply jd|apply js)|((with_reducible apply jo);first|focus(dsimp only;assumption)|focus(simp;done)|focus(dsimp only;omega))|((with_reducible apply jn);first|with_reducible rfl|focus(simp;done)|focus(simp;omega))|(with_reducible apply ja)|((with_reducible apply jb);with_reducible assumption)));rfl))
  have kk20 : blk w3 (w.heap.size) = some (#[.int .i64 0,.int .u64 0,.int .i64 0,.int .i64 0,.int .i64 0,.int .i64 0,.int .i64 0,.int .i64 0,.string ⟨#[]⟩]):=(by (apply jt;(focus repeat(first|(with_reducible first|assumption|apply jd|apply js)|((with_reducible apply jo);first|focus(dsimp only;assumption)|focus(simp;done)|focus(dsimp only;omega))|((with_reducible apply jn);first|with_reducible rfl|focus(simp;done)|focus(simp;omega))|(with_reducible apply ja)|((with_reducible apply jb);with_reducible assumption)));rfl))
  have kk21 : blk w3 (w.heap.size + 1) = some (#[.int .i64 0,.int .i64 0]):=(by (apply jt;(focus repeat(first|(with_reducible first|assumption|apply jd|apply js)|((with_reducible apply jo);first|focus(dsimp only;assumption)|focus(simp;done)|focus(dsimp only;omega))|((with_reducible apply jn);first|with_reducible rfl|focus(simp;done)|focus(simp;omega))|(with_reducible apply ja)|((with_reducible apply jb);with_reducible assumption)));rfl))
  clear kk16 kn16 kk17 kn17 kk18 kn18
  have kn19:=kn kk19
  have kn20:=kn kk20
  have kn21:=kn kk21
  have bw3 : Below w.heap.size w w3:=(by (repeat(first|(with_reducible first|assumption|exact Below.refl _ _|refine je ?_|refine jl ?_)|((with_reducible refine jp ?_ ?_);first|focus(dsimp only;assumption)|focus(simp;done)|focus(dsimp only;omega))|(with_reducible refine bt ?_ (by assumption)))))
  have sw3:=bw3.size
  clear hw3 bw2
  go_wp2_with fail
  (with_reducible refine (gw.out _).mono ?_)
  rintro e w4 ⟨rfl,hw4⟩
  have kk22 : blk w4 (w1.heap.size) = some (#[.int .i64 no,.int .u64 sq,.int .i64 of,.int .i64 de,.int .i64 pr,.int .i64 bo,.int .i64 li,.int .i64 to,.string dd]):=(by (apply jt;(focus repeat(first|(with_reducible first|assumption|apply jd|apply js)|((with_reducible apply jo);first|focus(dsimp only;assumption)|focus(simp;done)|focus(dsimp only;omega))|((with_reducible apply jn);first|with_reducible rfl|focus(simp;done)|focus(simp;omega))|(with_reducible apply ja)|((with_reducible apply jb);with_reducible assumption)));rfl))
  have kk23 : blk w4 (w.heap.size) = some (#[.int .i64 0,.int .u64 0,.int .i64 0,.int .i64 0,.int .i64 0,.int .i64 0,.int .i64 0,.int .i64 0,.string ⟨#[]⟩]):=(by (apply jt;(focus repeat(first|(with_reducible first|assumption|apply jd|apply js)|((with_reducible apply jo);first|focus(dsimp only;assumption)|focus(simp;done)|focus(dsimp only;omega))|((with_reducible apply jn);first|with_reducible rfl|focus(simp;done)|focus(simp;omega))|(with_reducible apply ja)|((with_reducible apply jb);with_reducible assumption)));rfl))
  have kk24 : blk w4 (w.heap.size + 1) = some (#[.int .i64 0,.int .i64 0]):=(by (apply jt;(focus repeat(first|(with_reducible first|assumption|apply jd|apply js)|((with_reducible apply jo);first|focus(dsimp only;assumption)|focus(simp;done)|focus(dsimp only;omega))|((with_reducible apply jn);first|with_reducible rfl|focus(simp;done)|focus(simp;omega))|(with_reducible apply ja)|((with_reducible apply jb);with_reducible assumption)));rfl))
  clear kk19 kn19 kk20 kn20 kk21 kn21
  have kn22:=kn kk22
  have kn23:=kn kk23
  have kn24:=kn kk24
  have bw4 : Below w.heap.size w w4:=(by (repeat(first|(with_reducible first|assumption|exact Below.refl _ _|refine je ?_|refine jl ?_)|((with_reducible refine jp ?_ ?_);first|focus(dsimp only;assumption)|focus(simp;done)|focus(dsimp only;omega))|(with_reducible refine bt ?_ (by assumption)))))
  have sw4:=bw4.size
  clear hw4 bw3
  go_wp2
  refine ret_blk2 (b:=w.heap.size) (d:=w.heap.size + 1) (c:=#[.int .i64 0,.int .u64 0,.int .i64 0,.int .i64 0,.int .i64 0,.int .i64 0,.int .i64 0,.int .i64 0,.string ⟨#[]⟩]) (c':=#[.int .i64 3,.int .i64 0]) (v:=.tuple #[.agg #[.int .i64 0,.int .u64 0,.int .i64 0,.int .i64 0,.int .i64 0,.int .i64 0,.int .i64 0,.int .i64 0,.string ⟨#[]⟩],.agg #[.int .i64 3,.int .i64 0]]) (by (apply jt;(focus repeat(first|(with_reducible first|assumption|apply jd|apply js)|((with_reducible apply jo);first|focus(dsimp only;assumption)|focus(simp;done)|focus(dsimp only;omega))|((with_reducible apply jn);first|with_reducible rfl|focus(simp;done)|focus(simp;omega))|(with_reducible apply ja)|((with_reducible apply jb);with_reducible assumption)));rfl)) (by (apply jt;(focus repeat(first|(with_reducible first|assumption|apply jd|apply js)|((with_reducible apply jo);first|focus(dsimp only;assumption)|focus(simp;done)|focus(dsimp only;omega))|((with_reducible apply jn);first|with_reducible rfl|focus(simp;done)|focus(simp;omega))|(with_reducible apply ja)|((with_reducible apply jb);with_reducible assumption)));rfl)) (fun W' e1 e2 => by simp [results,Tryd.results58,go_sem,e1,e2]) rfl ⟨rfl,by (repeat(first|(with_reducible first|assumption|exact Below.refl _ _|refine je ?_|refine jl ?_)|((with_reducible refine jp ?_ ?_);first|focus(dsimp only;assumption)|focus(simp;done)|focus(dsimp only;omega))|(with_reducible refine bt ?_ (by assumption))))⟩
end Go.Proofs.YtaiofjffoboicaaDoor
namespace Go.Proofs.YtaiofjffoboicaaDoor
open Go.RowKit
set_option maxRecDepth 100000 in
set_option maxHeartbeats 3200000 in
theorem rdec6_true (s : ByteArray) (hs : s.size ≤ 1000000) (no sq of de bo li to q er' fa' pr : Int) (cf : ∀ b w,blk w b = some (rdC s 0 0 0) → Calls Tryd.prog 89 #[.pointer (some ⟨b,0,none⟩)] w fun x w' => x = .returned (.tuple #[buv no sq of de pr bo li to ⟨#[]⟩,.bool true]) ∧ (∃ p,blk w' b = some (rdC s p er' fa') ∧ (er' = 0 → p = q)) ∧ Touch b w w') (hX0 : er' = 0) (dd : ByteArray) (n : Nat) (ht : getTextN s.data.toList q 1000 = (dd.data.toList,(n : Int),0)) (hq1 : 0 ≤ q) (hq2 : q ≤ s.size) (hn : n ≤ s.size) (hd : dd.size ≤ 1000000) (c1 : n + 4 ≤ s.size) (c2 : (s.data.toList.drop n).take 4 = four (crcN (s.data.toList.take n))) (c3 : s.size = n + 4) (hbc : buC no sq of de pr bo li (dd.size : Int) dd.size = 0) (wh : Bool) (hwh : wholeB of (dd.size : Int) dd.size = wh) (hwf : wh = true → true = true) (w : World) :
    Calls Tryd.prog 58 #[.string s] w fun e w' => e = .returned (.tuple #[.agg #[.int .i64 no,.int .u64 sq,.int .i64 of,.int .i64 de,.int .i64 pr,.int .i64 bo,.int .i64 li,.int .i64 (dd.size : Int),.string dd],.agg #[.int .i64 0,.int .i64 0]]) ∧ Below w.heap.size w w':=by
  replace cf:=Lib.hid cf
  subst hX0
  have ct:=fun w => refGetText_any s q 1000 w (by unfold maxLen;omega) (by omega) (by omega) (by omega)
  rw [ht] at ct
  have ct : ∀ w,Calls Tryd.prog 57 #[.string s,.int .i64 q,.int .i64 1000] w fun e w' => e = .returned (.tuple #[.string dd,.int .i64 (n : Int),.int .i64 0]) ∧ w = w':=ct
  replace ct:=Lib.hid ct;clear ht
  have k1 : (n : Int) + 4 ≤ (s.size : Int):=by omega
  have x1 : (s.extract 0 n).size = n:=by simp;omega
  have x2 : (s.extract 0 n).data.toList = s.data.toList.take n:=by simp
  have gc:=fun w => refCrc32_any (s.extract 0 n) (by omega) w
  have gf:=fun w => refFour_any (crcN (s.extract 0 n).data.toList) (crcN_lt _) w
  obtain ⟨t2,ht2⟩ : ∃ t,s.extract n (n + 4) = t:=⟨_,rfl⟩
  have h1 : t2.data.toList = (s.data.toList.drop n).take 4:=by rw [← ht2,Lib.extract_data,show n + 4 - n = 4 by omega]
  have e3 : bstr (four (crcN (s.extract 0 n).data.toList)) = .string t2:=by rw [x2];exact (vstr (by rw [h1];exact c2)).symm
  rw [e3] at gf
  obtain ⟨c,hc⟩ : ∃ c,crcN (s.extract 0 n).data.toList = c:=⟨_,rfl⟩
  rw [hc] at gc gf
  replace gc:=Lib.hid gc;replace gf:=Lib.hid gf
  clear hc e3 h1 c2 x2
  have k3 : ¬ ((n : Int) + 4 < (s.size : Int)):=by omega
  have hdm : dd.size ≤ maxLen:=by unfold maxLen;omega
  have gk:=fun w => refCheck_any no sq of de pr bo li (dd.size : Int) dd hdm w
  rw [hbc] at gk
  replace gk:=Lib.hid gk
  have HB:=Lib.hid hbc;clear hbc
  have hc3:=Lib.hid c3;clear c3
  have gw:=fun w => refWhole_any no sq of de pr bo li (dd.size : Int) dd hdm w
  rw [hwh] at gw
  replace gw:=Lib.hid gw;clear hwh
  have HC1:=Lib.hid c1;clear c1
  cases wh
  all_goals
    go_enter Tryd.func58,Tryd.ntmps58
    go_wp2_with fail
    (with_reducible refine (cf.out _ _ ?_).mono ?_)
    · exact blk_alloc_new _ _ _ (by simp)
    rintro e w1 ⟨rfl,⟨p,k1_,kp⟩,t1⟩
    obtain rfl:=kp (by trivial)
    have x1_ : blk w1 w.heap.size = some (#[.int .i64 0,.int .u64 0,.int .i64 0,.int .i64 0,.int .i64 0,.int .i64 0,.int .i64 0,.int .i64 0,.string ⟨#[]⟩]):=t1.2.1 _ _ (by omega) (by (apply jt;(focus repeat(first|(with_reducible first|assumption|apply js)|((with_reducible apply jo);first|focus(dsimp only;assumption)|focus(simp;done)|focus(dsimp only;omega))|((with_reducible apply jn);first|with_reducible rfl|focus(simp;done)|focus(simp;omega))|(with_reducible apply ja)|((with_reducible apply jb);with_reducible assumption)));rfl))
    have y1_ : blk w1 (w.heap.size + 1) = some #[.int .i64 0,.int .i64 0]:=t1.2.1 _ _ (by omega) (by (apply jt;(focus repeat(first|(with_reducible first|assumption|apply js)|((with_reducible apply jo);first|focus(dsimp only;assumption)|focus(simp;done)|focus(dsimp only;omega))|((with_reducible apply jn);first|with_reducible rfl|focus(simp;done)|focus(simp;omega))|(with_reducible apply ja)|((with_reducible apply jb);with_reducible assumption)));rfl))
    have B1 : Below w.heap.size w w1:=((((Below.refl w.heap.size w).alloc (Nat.le_refl _) _).alloc (by simp) _).alloc (by simp;omega) _).trans (t1.1.mono (by omega))
    clear t1
    have kn1:=kn k1_;have knx:=kn x1_;have kny:=kn y1_
    go_wp2_with (go_at_call 57;(with_reducible refine (ct.out _).mono ?_);rintro e wx ⟨rfl,rfl⟩)
    refine wp_region_in (by kernel_rfl) (by kernel_rfl) ?_
    intro W0_1 hE_1 hN_1
    have bW0_1 : Below w.heap.size w W0_1:=(by rw [hE_1.out];(repeat(first|(with_reducible first|assumption|exact Below.refl _ _|refine je ?_|refine jl ?_)|((with_reducible refine jp ?_ ?_);first|focus(dsimp only;assumption)|focus(simp;done)|focus(dsimp only;omega))|(with_reducible refine bt ?_ (by assumption)))))
    have kk2 : blk W0_1 (w1.heap.size) = some (#[.int .i64 no,.int .u64 sq,.int .i64 of,.int .i64 de,.int .i64 pr,.int .i64 bo,.int .i64 li,.int .i64 (dd.size : Int),.string dd]):=(by rw [hE_1.out];(apply jt;(focus repeat(first|(with_reducible first|assumption|apply jd|apply js)|((with_reducible apply jo);first|focus(dsimp only;assumption)|focus(simp;done)|focus(dsimp only;omega))|((with_reducible apply jn);first|with_reducible rfl|focus(simp;done)|focus(simp;omega))|(with_reducible apply ja)|((with_reducible apply jb);with_reducible assumption)));rfl))
    have kk3 : blk W0_1 (w.heap.size) = some (#[.int .i64 0,.int .u64 0,.int .i64 0,.int .i64 0,.int .i64 0,.int .i64 0,.int .i64 0,.int .i64 0,.string ⟨#[]⟩]):=(by rw [hE_1.out];(apply jt;(focus repeat(first|(with_reducible first|assumption|apply jd|apply js)|((with_reducible apply jo);first|focus(dsimp only;assumption)|focus(simp;done)|focus(dsimp only;omega))|((with_reducible apply jn);first|with_reducible rfl|focus(simp;done)|focus(simp;omega))|(with_reducible apply ja)|((with_reducible apply jb);with_reducible assumption)));rfl))
    have kk4 : blk W0_1 (w.heap.size + 1) = some (#[.int .i64 0,.int .i64 0]):=(by rw [hE_1.out];(apply jt;(focus repeat(first|(with_reducible first|assumption|apply jd|apply js)|((with_reducible apply jo);first|focus(dsimp only;assumption)|focus(simp;done)|focus(dsimp only;omega))|((with_reducible apply jn);first|with_reducible rfl|focus(simp;done)|focus(simp;omega))|(with_reducible apply ja)|((with_reducible apply jb);with_reducible assumption)));rfl))
    have kn2:=calm_kn kk2
    have kn3:=calm_kn kk3
    have kn4:=calm_kn kk4
    clear hE_1
    repeat (go_big_quiet_step ((first|(go_at_call 91;(with_reducible refine Class.same _ (gc.out _)))|(go_at_call 90;(with_reducible refine Class.go _ (gf.out _))))))
    refine wpQuiet_nil ?_
    rintro _ ⟨x_1,rfl⟩
    have hx_1 : Calm W0_1 x_1.wd:=x_1.ok
    have bw2 : Below w.heap.size w x_1.wd:=bt bW0_1 hx_1
    clear kn2;replace kk2:=blk_below hx_1 kk2;have kn2:=kn kk2
    clear kn3;replace kk3:=blk_below hx_1 kk3;have kn3:=kn kk3
    clear kn4;replace kk4:=blk_below hx_1 kk4;have kn4:=kn kk4
    clear hx_1 bW0_1 hN_1
    generalize x_1.wd = w2 at *
    have sw2:=bw2.size
    go_wp2_with fail
    (with_reducible refine (gk.out _).mono ?_)
    rintro e w3 ⟨rfl,hw3⟩
    have kk5 : blk w3 (w1.heap.size) = some (#[.int .i64 no,.int .u64 sq,.int .i64 of,.int .i64 de,.int .i64 pr,.int .i64 bo,.int .i64 li,.int .i64 (dd.size : Int),.string dd]):=(by (apply jt;(focus repeat(first|(with_reducible first|assumption|apply jd|apply js)|((with_reducible apply jo);first|focus(dsimp only;assumption)|focus(simp;done)|focus(dsimp only;omega))|((with_reducible apply jn);first|with_reducible rfl|focus(simp;done)|focus(simp;omega))|(with_reducible apply ja)|((with_reducible apply jb);with_reducible assumption)));rfl))
    have kk6 : blk w3 (w.heap.size) = some (#[.int .i64 0,.int .u64 0,.int .i64 0,.int .i64 0,.int .i64 0,.int .i64 0,.int .i64 0,.int .i64 0,.string ⟨#[]⟩]):=(by (apply jt;(focus repeat(first|(with_reducible first|assumption|apply jd|apply js)|((with_reducible apply jo);first|focus(dsimp only;assumption)|focus(simp;done)|focus(dsimp only;omega))|((with_reducible apply jn);first|with_reducible rfl|focus(simp;done)|focus(simp;omega))|(with_reducible apply ja)|((with_reducible apply jb);with_reducible assumption)));rfl))
    have kk7 : blk w3 (w.heap.size + 1) = some (#[.int .i64 0,.int .i64 0]):=(by (apply jt;(focus repeat(first|(with_reducible first|assumption|apply jd|apply js)|((with_reducible apply jo);first|focus(dsimp only;assumption)|focus(simp;done)|focus(dsimp only;omega))|((with_reducible apply jn);first|with_reducible rfl|focus(simp;done)|focus(simp;omega))|(with_reducible apply ja)|((with_reducible apply jb);with_reducible assumption)));rfl))
    clear kk2 kn2 kk3 kn3 kk4 kn4
    have kn5:=kn kk5
    have kn6:=kn kk6
    have kn7:=kn kk7
    have bw3 : Below w.heap.size w w3:=(by (repeat(first|(with_reducible first|assumption|exact Below.refl _ _|refine je ?_|refine jl ?_)|((with_reducible refine jp ?_ ?_);first|focus(dsimp only;assumption)|focus(simp;done)|focus(dsimp only;omega))|(with_reducible refine bt ?_ (by assumption)))))
    have sw3:=bw3.size
    clear hw3 bw2
    go_wp2_with fail
    (with_reducible refine (gw.out _).mono ?_)
    rintro e w4 ⟨rfl,hw4⟩
    have kk8 : blk w4 (w1.heap.size) = some (#[.int .i64 no,.int .u64 sq,.int .i64 of,.int .i64 de,.int .i64 pr,.int .i64 bo,.int .i64 li,.int .i64 (dd.size : Int),.string dd]):=(by (apply jt;(focus repeat(first|(with_reducible first|assumption|apply jd|apply js)|((with_reducible apply jo);first|focus(dsimp only;assumption)|focus(simp;done)|focus(dsimp only;omega))|((with_reducible apply jn);first|with_reducible rfl|focus(simp;done)|focus(simp;omega))|(with_reducible apply ja)|((with_reducible apply jb);with_reducible assumption)));rfl))
    have kk9 : blk w4 (w.heap.size) = some (#[.int .i64 0,.int .u64 0,.int .i64 0,.int .i64 0,.int .i64 0,.int .i64 0,.int .i64 0,.int .i64 0,.string ⟨#[]⟩]):=(by (apply jt;(focus repeat(first|(with_reducible first|assumption|apply jd|apply js)|((with_reducible apply jo);first|focus(dsimp only;assumption)|focus(simp;done)|focus(dsimp only;omega))|((with_reducible apply jn);first|with_reducible rfl|focus(simp;done)|focus(simp;omega))|(with_reducible apply ja)|((with_reducible apply jb);with_reducible assumption)));rfl))
    have kk10 : blk w4 (w.heap.size + 1) = some (#[.int .i64 0,.int .i64 0]):=(by (apply jt;(focus repeat(first|(with_reducible first|assumption|apply jd|apply js)|((with_reducible apply jo);first|focus(dsimp only;assumption)|focus(simp;done)|focus(dsimp only;omega))|((with_reducible apply jn);first|with_reducible rfl|focus(simp;done)|focus(simp;omega))|(with_reducible apply ja)|((with_reducible apply jb);with_reducible assumption)));rfl))
    clear kk5 kn5 kk6 kn6 kk7 kn7
    have kn8:=kn kk8
    have kn9:=kn kk9
    have kn10:=kn kk10
    have bw4 : Below w.heap.size w w4:=(by (repeat(first|(with_reducible first|assumption|exact Below.refl _ _|refine je ?_|refine jl ?_)|((with_reducible refine jp ?_ ?_);first|focus(dsimp only;assumption)|focus(simp;done)|focus(dsimp only;omega))|(with_reducible refine bt ?_ (by assumption)))))
    have sw4:=bw4.size
    clear hw4 bw3
    go_wp2
    refine ret_blk2 (b:=w.heap.size) (d:=w.heap.size + 1) (c:=#[.int .i64 no,.int .u64 sq,.int .i64 of,.int .i64 de,.int .i64 pr,.int .i64 bo,.int .i64 li,.int .i64 (dd.size : Int),.string dd]) (c':=#[.int .i64 0,.int .i64 0]) (v:=.tuple #[.agg #[.int .i64 no,.int .u64 sq,.int .i64 of,.int .i64 de,.int .i64 pr,.int .i64 bo,.int .i64 li,.int .i64 (dd.size : Int),.string dd],.agg #[.int .i64 0,.int .i64 0]]) (by (apply jt;(focus repeat(first|(with_reducible first|assumption|apply jd|apply js)|((with_reducible apply jo);first|focus(dsimp only;assumption)|focus(simp;done)|focus(dsimp only;omega))|((with_reducible apply jn);first|with_reducible rfl|focus(simp;done)|focus(simp;omega))|(with_reducible apply ja)|((with_reducible apply jb);with_reducible assumption)));rfl)) (by (apply jt;(focus repeat(first|(with_reducible first|assumption|apply jd|apply js)|((with_reducible apply jo);first|focus(dsimp only;assumption)|focus(simp;done)|focus(dsimp only;omega))|((with_reducible apply jn);first|with_reducible rfl|focus(simp;done)|focus(simp;omega))|(with_reducible apply ja)|((with_reducible apply jb);with_reducible assumption)));rfl)) (fun W' e1 e2 => by simp [results,Tryd.results58,go_sem,e1,e2]) rfl ⟨rfl,by (repeat(first|(with_reducible first|assumption|exact Below.refl _ _|refine je ?_|refine jl ?_)|((with_reducible refine jp ?_ ?_);first|focus(dsimp only;assumption)|focus(simp;done)|focus(dsimp only;omega))|(with_reducible refine bt ?_ (by assumption))))⟩
end Go.Proofs.YtaiofjffoboicaaDoor
