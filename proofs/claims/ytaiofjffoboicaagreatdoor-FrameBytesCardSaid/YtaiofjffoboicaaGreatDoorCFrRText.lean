/- Parts of a proof, printed by a program of mine out of my texts: FrRText. -/
import Derived.Deep.Cut
import Derived.Great.Walk
import Derived.Test.YtaiofjffoboicaaGreatDoorCFrChkAll
import Derived.Test.YtaiofjffoboicaaGreatDoorCFrRDig
import Derived.Test.YtaiofjffoboicaaGreatDoorCFrRefH
import Derived.Test.YtaiofjffoboicaaGreatDoorCFx
set_option linter.unusedSimpArgs false
set_option linter.unusedVariables false
namespace Go.Proofs.YtaiofjffoboicaaGreatDoor
open Go.RowKit
set_option maxRecDepth 100000 in
set_option maxHeartbeats 1600000 in
theorem rtext_bad (f : Fr) (hda : f.da.size ≤ maxLen) (hC : frC f ≠ 0) (w : World) : Calls Tryz.prog 10 #[frv f] w fun e w' => e = .returned (.tuple #[.string ⟨#[]⟩,.int .i64 (frC f)]) ∧ Below w.heap.size w w':=by
  have gc:=Lib.hid (fun w => rcheck_any f hda w)
  obtain ⟨c,hc⟩ : ∃ c,frC f = c:=⟨_,rfl⟩
  rw [hc] at gc hC ⊢
  have hne : (c != 0) = true:=by simpa using hC
  clear hc hC
  go_enter Tryz.func10,Tryz.ntmps10
  go_upto_region 1 with fail
  refine wp_region_lit ?_
  refine wpList_load_blk 28 (.tmp 1) w.heap.size #[.int .i64 f.k,.int .i64 f.fr,.int .i64 f.to_,.int .u64 f.mi,.int .u64 f.yo,.int .u64 f.a,.int .u64 f.b,.int .i64 f.ino,.int .u64 f.isq,.int .i64 f.iof,.int .i64 f.bno,.int .u64 f.bsq,.int .i64 f.bof,.int .i64 f.bde,.int .i64 f.bpr,.int .i64 f.bbo,.int .i64 f.bli,.int .i64 f.bto,.string f.da] (by (apply jt;(focus repeat(first|(with_reducible first|assumption|apply jd|apply js)|((with_reducible apply jo);first|focus(dsimp only;assumption)|focus(simp;done)|focus(dsimp only;omega))|((with_reducible apply jn);first|with_reducible rfl|focus(simp;done)|focus(simp;omega))|(with_reducible apply ja)|((with_reducible apply jb);with_reducible assumption)));rfl)) _ rfl rfl rfl Tryz.underlying28 rfl (by kernel_rfl) ?_
  conv => arg 5;simp [Act.put]
  go_wp2_with fail
  (with_reducible refine (gc.out _).mono ?_)
  rintro e w1 ⟨rfl,h1⟩
  have hw : Below w.heap.size w w1:=by (repeat(first|(with_reducible first|assumption|exact Below.refl _ _|refine je ?_|refine jl ?_)|((with_reducible refine jp ?_ ?_);first|focus(dsimp only;assumption)|focus(simp;done)|focus(dsimp only;omega))|(with_reducible refine bt ?_ (by assumption))))
  clear h1 gc
  go_wp2
  go_ret2
  exact ⟨rfl,hw⟩
set_option maxRecDepth 100000 in
set_option maxHeartbeats 3200000 in
theorem rtext_k1 (f : Fr) (hk : f.k = 1) (hC : frC f = 0) (hn : NN f) (w : World) : Calls Tryz.prog 10 #[frv f] w fun e w' => e = .returned (.tuple #[.string (joinB (partsF f)),.int .i64 0]) ∧ Below w.heap.size w w':=by
  have gc:=Lib.hid (fun w => rcheck_any f (da_of hC) w)
  rw [hC] at gc
  have e0 : frv f = .agg #[.int .i64 1,.int .i64 f.fr,.int .i64 f.to_,.int .u64 f.mi,.int .u64 f.yo,.int .u64 f.a,.int .u64 f.b,.int .i64 f.ino,.int .u64 f.isq,.int .i64 f.iof,.int .i64 f.bno,.int .u64 f.bsq,.int .i64 f.bof,.int .i64 f.bde,.int .i64 f.bpr,.int .i64 f.bbo,.int .i64 f.bli,.int .i64 f.bto,.string f.da]:=by unfold frv;rw [hk]
  rw [e0] at gc ⊢
  obtain ⟨-,⟨r1,r2,r3,r4,-,r6,r7,r8,r9,r10,r11,r12⟩,hbc,-⟩:=frC_ok hC
  obtain ⟨p1,y1,z1,q1,c1⟩:=rdig_str f.fr (by omega) (by omega)
  obtain ⟨p2,y2,z2,q2,c2⟩:=rdig_str f.to_ (by omega) (by omega)
  obtain ⟨p3,y3,z3,q3,c3⟩:=rdig_str f.mi (by omega) (by omega)
  obtain ⟨p4,y4,z4,q4,c4⟩:=rdig_str f.yo (by have:=hn.yo;omega) (by omega)
  replace c1:=Lib.hid c1;replace c2:=Lib.hid c2;replace c3:=Lib.hid c3;replace c4:=Lib.hid c4
  have gB:=Lib.hid (fun w => refHasB_any 1 w)
  have gI:=Lib.hid (fun w => refHasID_any 1 w)
  rw [show hasB 1 = false by decide] at gB
  rw [show hasI 1 = false by decide] at gI
  have fin : Value.string (joinB (partsF f)) = .string ((((((((p1 ++ ⟨#[62]⟩) ++ p2) ++ ⟨#[32]⟩) ++ p3) ++ ⟨#[47]⟩) ++ p4) ++ ⟨#[32]⟩) ++ ⟨#[104,101,108,108,111]⟩):=by
    refine (vstr ?_).symm
    simp [partsF,hk,hasA,hasB,hasD,hasI,optL,nameB,keyF,keyB,Lib.join,List.intercalate,List.intersperse,y1,y2,y3,y4]
  obtain ⟨R,hR⟩ : ∃ R,Value.string (joinB (partsF f)) = R:=⟨_,rfl⟩
  rw [hR] at fin ⊢
  have Fin:=Lib.hid fin
  have Hk:=Lib.hid hk
  clear fin hR e0 hk hC hbc y1 y2 y3 y4 r1 r2 r3 r4 r6 r7 r8 r9 r10 r11 r12 
  go_enter Tryz.func10,Tryz.ntmps10
  go_upto_region 1 with fail
  refine wp_region_lit ?_
  refine wpList_load_blk 28 (.tmp 1) w.heap.size #[.int .i64 1,.int .i64 f.fr,.int .i64 f.to_,.int .u64 f.mi,.int .u64 f.yo,.int .u64 f.a,.int .u64 f.b,.int .i64 f.ino,.int .u64 f.isq,.int .i64 f.iof,.int .i64 f.bno,.int .u64 f.bsq,.int .i64 f.bof,.int .i64 f.bde,.int .i64 f.bpr,.int .i64 f.bbo,.int .i64 f.bli,.int .i64 f.bto,.string f.da] (by (apply jt;(focus repeat(first|(with_reducible first|assumption|apply jd|apply js)|((with_reducible apply jo);first|focus(dsimp only;assumption)|focus(simp;done)|focus(dsimp only;omega))|((with_reducible apply jn);first|with_reducible rfl|focus(simp;done)|focus(simp;omega))|(with_reducible apply ja)|((with_reducible apply jb);with_reducible assumption)));rfl)) _ rfl rfl rfl Tryz.underlying28 rfl (by kernel_rfl) ?_
  conv => arg 5;simp [Act.put]
  go_wp2_with fail
  (with_reducible refine (gc.out _).mono ?_)
  rintro e w1 ⟨rfl,h1⟩
  have kf : blk w1 w.heap.size = some #[.int .i64 1,.int .i64 f.fr,.int .i64 f.to_,.int .u64 f.mi,.int .u64 f.yo,.int .u64 f.a,.int .u64 f.b,.int .i64 f.ino,.int .u64 f.isq,.int .i64 f.iof,.int .i64 f.bno,.int .u64 f.bsq,.int .i64 f.bof,.int .i64 f.bde,.int .i64 f.bpr,.int .i64 f.bbo,.int .i64 f.bli,.int .i64 f.bto,.string f.da]:=(by (apply jt;(focus repeat(first|(with_reducible first|assumption|apply jd|apply js)|((with_reducible apply jo);first|focus(dsimp only;assumption)|focus(simp;done)|focus(dsimp only;omega))|((with_reducible apply jn);first|with_reducible rfl|focus(simp;done)|focus(simp;omega))|(with_reducible apply ja)|((with_reducible apply jb);with_reducible assumption)));rfl))
  have hw : Below w.heap.size w w1:=by (repeat(first|(with_reducible first|assumption|exact Below.refl _ _|refine je ?_|refine jl ?_)|((with_reducible refine jp ?_ ?_);first|focus(dsimp only;assumption)|focus(simp;done)|focus(dsimp only;omega))|(with_reducible refine bt ?_ (by assumption))))
  clear h1 gc
  have nf:=kn kf
  have sw1:=hw.size
  go_wp2_with fail
  refine wp_region_in (by kernel_rfl) (by kernel_rfl) ?_
  intro W0_1 hE_1 hN_1
  have bW0_1 : Below w.heap.size w W0_1:=(by rw [hE_1.out];(repeat(first|(with_reducible first|assumption|exact Below.refl _ _|refine je ?_|refine jl ?_)|((with_reducible refine jp ?_ ?_);first|focus(dsimp only;assumption)|focus(simp;done)|focus(dsimp only;omega))|(with_reducible refine bt ?_ (by assumption)))))
  have kk2 : blk W0_1 (w.heap.size) = some #[.int .i64 1,.int .i64 f.fr,.int .i64 f.to_,.int .u64 f.mi,.int .u64 f.yo,.int .u64 f.a,.int .u64 f.b,.int .i64 f.ino,.int .u64 f.isq,.int .i64 f.iof,.int .i64 f.bno,.int .u64 f.bsq,.int .i64 f.bof,.int .i64 f.bde,.int .i64 f.bpr,.int .i64 f.bbo,.int .i64 f.bli,.int .i64 f.bto,.string f.da]:=(by rw [hE_1.out];(apply jt;(focus repeat(first|(with_reducible first|assumption|apply jd|apply js)|((with_reducible apply jo);first|focus(dsimp only;assumption)|focus(simp;done)|focus(dsimp only;omega))|((with_reducible apply jn);first|with_reducible rfl|focus(simp;done)|focus(simp;omega))|(with_reducible apply ja)|((with_reducible apply jb);with_reducible assumption)));rfl))
  have kk3 : blk W0_1 (w1.heap.size) = some #[.string ⟨#[104,101,108,108,111]⟩,.string ⟨#[103,114,97,110,116]⟩,.string ⟨#[100,97,116,97]⟩,.string ⟨#[114,101,112,111,114,116]⟩,.string ⟨#[97,99,107]⟩,.string ⟨#[114,101,102,117,115,101]⟩,.string ⟨#[114,101,99,108,97,105,109]⟩]:=(by rw [hE_1.out];(apply jt;(focus repeat(first|(with_reducible first|assumption|apply jd|apply js)|((with_reducible apply jo);first|focus(dsimp only;assumption)|focus(simp;done)|focus(dsimp only;omega))|((with_reducible apply jn);first|with_reducible rfl|focus(simp;done)|focus(simp;omega))|(with_reducible apply ja)|((with_reducible apply jb);with_reducible assumption)));rfl))
  have kn2:=calm_kn kk2
  have kn3:=calm_kn kk3
  clear hE_1
  repeat (go_big_quiet_step ((first|(go_at_call 26;(with_reducible refine Class.go _ (c1.out _)))|(go_at_call 26;(with_reducible refine Class.go _ (c2.out _)))|(go_at_call 26;(with_reducible refine Class.go _ (c3.out _)))|(go_at_call 26;(with_reducible refine Class.go _ (c4.out _))))))
  refine wpQuiet_nil ?_
  rintro _ ⟨x_1,rfl⟩
  have hx_1 : Calm W0_1 x_1.wd:=x_1.ok
  have bw2 : Below w.heap.size w x_1.wd:=bt bW0_1 hx_1
  clear kn2;replace kk2:=blk_below hx_1 kk2;have kn2:=kn kk2
  clear kn3;replace kk3:=blk_below hx_1 kk3;have kn3:=kn kk3
  clear hx_1 bW0_1 hN_1
  generalize x_1.wd = w2 at *
  have sw2:=bw2.size
  clear kf nf hw
  go_wp2_with fail
  (with_reducible refine (gB.out _).mono ?_)
  rintro e wx ⟨rfl,rfl⟩
  go_wp2_with fail
  (with_reducible refine (gI.out _).mono ?_)
  rintro e wx ⟨rfl,rfl⟩
  go_wp2
  go_ret2
  exact ⟨by rw [Fin.out];rfl,by (repeat(first|(with_reducible first|assumption|exact Below.refl _ _|refine je ?_|refine jl ?_)|((with_reducible refine jp ?_ ?_);first|focus(dsimp only;assumption)|focus(simp;done)|focus(dsimp only;omega))|(with_reducible refine bt ?_ (by assumption))))⟩
set_option maxRecDepth 100000 in
set_option maxHeartbeats 3200000 in
theorem rtext_k2 (f : Fr) (hk : f.k = 2) (hC : frC f = 0) (hn : NN f) (w : World) : Calls Tryz.prog 10 #[frv f] w fun e w' => e = .returned (.tuple #[.string (joinB (partsF f)),.int .i64 0]) ∧ Below w.heap.size w w':=by
  have gc:=Lib.hid (fun w => rcheck_any f (da_of hC) w)
  rw [hC] at gc
  have e0 : frv f = .agg #[.int .i64 2,.int .i64 f.fr,.int .i64 f.to_,.int .u64 f.mi,.int .u64 f.yo,.int .u64 f.a,.int .u64 f.b,.int .i64 f.ino,.int .u64 f.isq,.int .i64 f.iof,.int .i64 f.bno,.int .u64 f.bsq,.int .i64 f.bof,.int .i64 f.bde,.int .i64 f.bpr,.int .i64 f.bbo,.int .i64 f.bli,.int .i64 f.bto,.string f.da]:=by unfold frv;rw [hk]
  rw [e0] at gc ⊢
  obtain ⟨-,⟨r1,r2,r3,r4,-,r6,r7,r8,r9,r10,r11,r12⟩,hbc,-⟩:=frC_ok hC
  obtain ⟨p1,y1,z1,q1,c1⟩:=rdig_str f.fr (by omega) (by omega)
  obtain ⟨p2,y2,z2,q2,c2⟩:=rdig_str f.to_ (by omega) (by omega)
  obtain ⟨p3,y3,z3,q3,c3⟩:=rdig_str f.mi (by omega) (by omega)
  obtain ⟨p4,y4,z4,q4,c4⟩:=rdig_str f.yo (by have:=hn.yo;omega) (by omega)
  replace c1:=Lib.hid c1;replace c2:=Lib.hid c2;replace c3:=Lib.hid c3;replace c4:=Lib.hid c4
  have gB:=Lib.hid (fun w => refHasB_any 2 w)
  have gI:=Lib.hid (fun w => refHasID_any 2 w)
  rw [show hasB 2 = false by decide] at gB
  rw [show hasI 2 = false by decide] at gI
  obtain ⟨p5,y5,z5,q5,c5⟩:=rdig_str f.a (by have:=hn.a;omega) (by omega)
  replace c5:=Lib.hid c5
  have fin : Value.string (joinB (partsF f)) = .string ((((((((((p1 ++ ⟨#[62]⟩) ++ p2) ++ ⟨#[32]⟩) ++ p3) ++ ⟨#[47]⟩) ++ p4) ++ ⟨#[32]⟩) ++ ⟨#[103,114,97,110,116]⟩) ++ ⟨#[32]⟩) ++ p5):=by
    refine (vstr ?_).symm
    simp [partsF,hk,hasA,hasB,hasD,hasI,optL,nameB,keyF,keyB,Lib.join,List.intercalate,List.intersperse,y1,y2,y3,y4,y5]
  obtain ⟨R,hR⟩ : ∃ R,Value.string (joinB (partsF f)) = R:=⟨_,rfl⟩
  rw [hR] at fin ⊢
  have Fin:=Lib.hid fin
  have Hk:=Lib.hid hk
  clear fin hR e0 hk hC hbc y1 y2 y3 y4 y5 r1 r2 r3 r4 r6 r7 r8 r9 r10 r11 r12 
  go_enter Tryz.func10,Tryz.ntmps10
  go_upto_region 1 with fail
  refine wp_region_lit ?_
  refine wpList_load_blk 28 (.tmp 1) w.heap.size #[.int .i64 2,.int .i64 f.fr,.int .i64 f.to_,.int .u64 f.mi,.int .u64 f.yo,.int .u64 f.a,.int .u64 f.b,.int .i64 f.ino,.int .u64 f.isq,.int .i64 f.iof,.int .i64 f.bno,.int .u64 f.bsq,.int .i64 f.bof,.int .i64 f.bde,.int .i64 f.bpr,.int .i64 f.bbo,.int .i64 f.bli,.int .i64 f.bto,.string f.da] (by (apply jt;(focus repeat(first|(with_reducible first|assumption|apply jd|apply js)|((with_reducible apply jo);first|focus(dsimp only;assumption)|focus(simp;done)|focus(dsimp only;omega))|((with_reducible apply jn);first|with_reducible rfl|focus(simp;done)|focus(simp;omega))|(with_reducible apply ja)|((with_reducible apply jb);with_reducible assumption)));rfl)) _ rfl rfl rfl Tryz.underlying28 rfl (by kernel_rfl) ?_
  conv => arg 5;simp [Act.put]
  go_wp2_with fail
  (with_reducible refine (gc.out _).mono ?_)
  rintro e w1 ⟨rfl,h1⟩
  have kf : blk w1 w.heap.size = some #[.int .i64 2,.int .i64 f.fr,.int .i64 f.to_,.int .u64 f.mi,.int .u64 f.yo,.int .u64 f.a,.int .u64 f.b,.int .i64 f.ino,.int .u64 f.isq,.int .i64 f.iof,.int .i64 f.bno,.int .u64 f.bsq,.int .i64 f.bof,.int .i64 f.bde,.int .i64 f.bpr,.int .i64 f.bbo,.int .i64 f.bli,.int .i64 f.bto,.string f.da]:=(by (apply jt;(focus repeat(first|(with_reducible first|assumption|apply jd|apply js)|((with_reducible apply jo);first|focus(dsimp only;assumption)|focus(simp;done)|focus(dsimp only;omega))|((with_reducible apply jn);first|with_reducible rfl|focus(simp;done)|focus(simp;omega))|(with_reducible apply ja)|((with_reducible apply jb);with_reducible assumption)));rfl))
  have hw : Below w.heap.size w w1:=by (repeat(first|(with_reducible first|assumption|exact Below.refl _ _|refine je ?_|refine jl ?_)|((with_reducible refine jp ?_ ?_);first|focus(dsimp only;assumption)|focus(simp;done)|focus(dsimp only;omega))|(with_reducible refine bt ?_ (by assumption))))
  clear h1 gc
  have nf:=kn kf
  have sw1:=hw.size
  go_wp2_with fail
  refine wp_region_in (by kernel_rfl) (by kernel_rfl) ?_
  intro W0_4 hE_4 hN_4
  have bW0_4 : Below w.heap.size w W0_4:=(by rw [hE_4.out];(repeat(first|(with_reducible first|assumption|exact Below.refl _ _|refine je ?_|refine jl ?_)|((with_reducible refine jp ?_ ?_);first|focus(dsimp only;assumption)|focus(simp;done)|focus(dsimp only;omega))|(with_reducible refine bt ?_ (by assumption)))))
  have kk5 : blk W0_4 (w.heap.size) = some #[.int .i64 2,.int .i64 f.fr,.int .i64 f.to_,.int .u64 f.mi,.int .u64 f.yo,.int .u64 f.a,.int .u64 f.b,.int .i64 f.ino,.int .u64 f.isq,.int .i64 f.iof,.int .i64 f.bno,.int .u64 f.bsq,.int .i64 f.bof,.int .i64 f.bde,.int .i64 f.bpr,.int .i64 f.bbo,.int .i64 f.bli,.int .i64 f.bto,.string f.da]:=(by rw [hE_4.out];(apply jt;(focus repeat(first|(with_reducible first|assumption|apply jd|apply js)|((with_reducible apply jo);first|focus(dsimp only;assumption)|focus(simp;done)|focus(dsimp only;omega))|((with_reducible apply jn);first|with_reducible rfl|focus(simp;done)|focus(simp;omega))|(with_reducible apply ja)|((with_reducible apply jb);with_reducible assumption)));rfl))
  have kk6 : blk W0_4 (w1.heap.size) = some #[.string ⟨#[104,101,108,108,111]⟩,.string ⟨#[103,114,97,110,116]⟩,.string ⟨#[100,97,116,97]⟩,.string ⟨#[114,101,112,111,114,116]⟩,.string ⟨#[97,99,107]⟩,.string ⟨#[114,101,102,117,115,101]⟩,.string ⟨#[114,101,99,108,97,105,109]⟩]:=(by rw [hE_4.out];(apply jt;(focus repeat(first|(with_reducible first|assumption|apply jd|apply js)|((with_reducible apply jo);first|focus(dsimp only;assumption)|focus(simp;done)|focus(dsimp only;omega))|((with_reducible apply jn);first|with_reducible rfl|focus(simp;done)|focus(simp;omega))|(with_reducible apply ja)|((with_reducible apply jb);with_reducible assumption)));rfl))
  have kn5:=calm_kn kk5
  have kn6:=calm_kn kk6
  clear hE_4
  repeat (go_big_quiet_step ((first|(go_at_call 26;(with_reducible refine Class.go _ (c1.out _)))|(go_at_call 26;(with_reducible refine Class.go _ (c2.out _)))|(go_at_call 26;(with_reducible refine Class.go _ (c3.out _)))|(go_at_call 26;(with_reducible refine Class.go _ (c4.out _))))))
  refine wpQuiet_nil ?_
  rintro _ ⟨x_4,rfl⟩
  have hx_4 : Calm W0_4 x_4.wd:=x_4.ok
  have bw2 : Below w.heap.size w x_4.wd:=bt bW0_4 hx_4
  clear kn5;replace kk5:=blk_below hx_4 kk5;have kn5:=kn kk5
  clear kn6;replace kk6:=blk_below hx_4 kk6;have kn6:=kn kk6
  clear hx_4 bW0_4 hN_4
  generalize x_4.wd = w2 at *
  have sw2:=bw2.size
  clear kf nf hw
  go_wp2_with fail
  (with_reducible refine (c5.out _).mono ?_)
  rintro e w3 ⟨rfl,hw3⟩
  have kk7 : blk w3 (w.heap.size) = some #[.int .i64 2,.int .i64 f.fr,.int .i64 f.to_,.int .u64 f.mi,.int .u64 f.yo,.int .u64 f.a,.int .u64 f.b,.int .i64 f.ino,.int .u64 f.isq,.int .i64 f.iof,.int .i64 f.bno,.int .u64 f.bsq,.int .i64 f.bof,.int .i64 f.bde,.int .i64 f.bpr,.int .i64 f.bbo,.int .i64 f.bli,.int .i64 f.bto,.string f.da]:=(by (apply jt;(focus repeat(first|(with_reducible first|assumption|apply jd|apply js)|((with_reducible apply jo);first|focus(dsimp only;assumption)|focus(simp;done)|focus(dsimp only;omega))|((with_reducible apply jn);first|with_reducible rfl|focus(simp;done)|focus(simp;omega))|(with_reducible apply ja)|((with_reducible apply jb);with_reducible assumption)));rfl))
  clear kk5 kn5
  have kn7:=kn kk7
  have bw3 : Below w.heap.size w w3:=(by (repeat(first|(with_reducible first|assumption|exact Below.refl _ _|refine je ?_|refine jl ?_)|((with_reducible refine jp ?_ ?_);first|focus(dsimp only;assumption)|focus(simp;done)|focus(dsimp only;omega))|(with_reducible refine bt ?_ (by assumption)))))
  have sw3:=bw3.size
  clear hw3 bw2
  go_wp2_with fail
  (with_reducible refine (gB.out _).mono ?_)
  rintro e wx ⟨rfl,rfl⟩
  go_wp2_with fail
  (with_reducible refine (gI.out _).mono ?_)
  rintro e wx ⟨rfl,rfl⟩
  go_wp2
  go_ret2
  exact ⟨by rw [Fin.out];rfl,by (repeat(first|(with_reducible first|assumption|exact Below.refl _ _|refine je ?_|refine jl ?_)|((with_reducible refine jp ?_ ?_);first|focus(dsimp only;assumption)|focus(simp;done)|focus(dsimp only;omega))|(with_reducible refine bt ?_ (by assumption))))⟩
set_option maxRecDepth 100000 in
set_option maxHeartbeats 3200000 in
theorem rtext_k3 (f : Fr) (hk : f.k = 3) (hC : frC f = 0) (hn : NN f) (w : World) : Calls Tryz.prog 10 #[frv f] w fun e w' => e = .returned (.tuple #[.string (joinB (partsF f)),.int .i64 0]) ∧ Below w.heap.size w w':=by
  have gc:=Lib.hid (fun w => rcheck_any f (da_of hC) w)
  rw [hC] at gc
  have e0 : frv f = .agg #[.int .i64 3,.int .i64 f.fr,.int .i64 f.to_,.int .u64 f.mi,.int .u64 f.yo,.int .u64 f.a,.int .u64 f.b,.int .i64 f.ino,.int .u64 f.isq,.int .i64 f.iof,.int .i64 f.bno,.int .u64 f.bsq,.int .i64 f.bof,.int .i64 f.bde,.int .i64 f.bpr,.int .i64 f.bbo,.int .i64 f.bli,.int .i64 f.bto,.string f.da]:=by unfold frv;rw [hk]
  rw [e0] at gc ⊢
  obtain ⟨-,⟨r1,r2,r3,r4,-,r6,r7,r8,r9,r10,r11,r12⟩,hbc,-⟩:=frC_ok hC
  obtain ⟨p1,y1,z1,q1,c1⟩:=rdig_str f.fr (by omega) (by omega)
  obtain ⟨p2,y2,z2,q2,c2⟩:=rdig_str f.to_ (by omega) (by omega)
  obtain ⟨p3,y3,z3,q3,c3⟩:=rdig_str f.mi (by omega) (by omega)
  obtain ⟨p4,y4,z4,q4,c4⟩:=rdig_str f.yo (by have:=hn.yo;omega) (by omega)
  replace c1:=Lib.hid c1;replace c2:=Lib.hid c2;replace c3:=Lib.hid c3;replace c4:=Lib.hid c4
  have gB:=Lib.hid (fun w => refHasB_any 3 w)
  have gI:=Lib.hid (fun w => refHasID_any 3 w)
  rw [show hasB 3 = true by decide] at gB
  rw [show hasI 3 = false by decide] at gI
  obtain ⟨p5,y5,z5,q5,c5⟩:=rdig_str f.a (by have:=hn.a;omega) (by omega)
  replace c5:=Lib.hid c5
  obtain ⟨p6,y6,z6,q6,c6⟩:=rdig_str f.b (by have:=hn.b;omega) (by omega)
  replace c6:=Lib.hid c6
  have hid1 : idC f.bno f.bsq f.bof = 0:=(by have h0:=hbc;unfold bcF bnF at h0;rw [if_pos hk] at h0;rcases idC_cases f.bno f.bsq f.bof with h|h;exact h.1;exact absurd (buC_ok h0).1 h.2)
  obtain ⟨i1,i2,i3,i4,i5⟩ : okI f.bno f.bsq f.bof:=(by rcases idC_cases f.bno f.bsq f.bof with h|h;exact h.2;exact absurd (h.1.symm.trans hid1) (by decide))
  obtain ⟨p8,y8,z8,q8,c8⟩:=rdig_str f.bno (by omega) (by omega)
  obtain ⟨p9,y9,z9,q9,c9⟩:=rdig_str f.bsq (by have:=hn.bsq;omega) (by omega)
  obtain ⟨p10,y10,z10,q10,c10⟩:=rdig_str f.bof (by omega) (by omega)
  replace c8:=Lib.hid c8;replace c9:=Lib.hid c9;replace c10:=Lib.hid c10
  clear hid1
  have fin : Value.string (joinB (partsF f)) = .string ((((((((((((((((((p1 ++ ⟨#[62]⟩) ++ p2) ++ ⟨#[32]⟩) ++ p3) ++ ⟨#[47]⟩) ++ p4) ++ ⟨#[32]⟩) ++ ⟨#[100,97,116,97]⟩) ++ ⟨#[32]⟩) ++ p5) ++ ⟨#[32]⟩) ++ p6) ++ ⟨#[32]⟩) ++ p8) ++ ⟨#[46]⟩) ++ p9) ++ ⟨#[46]⟩) ++ p10):=by
    refine (vstr ?_).symm
    simp [partsF,hk,hasA,hasB,hasD,hasI,optL,nameB,keyF,keyB,Lib.join,List.intercalate,List.intersperse,y1,y2,y3,y4,y5,y6,y8,y9,y10]
  obtain ⟨R,hR⟩ : ∃ R,Value.string (joinB (partsF f)) = R:=⟨_,rfl⟩
  rw [hR] at fin ⊢
  have Fin:=Lib.hid fin
  have Hk:=Lib.hid hk
  clear fin hR e0 hk hC hbc y1 y2 y3 y4 y5 y6 y8 y9 y10 r1 r2 r3 r4 r6 r7 r8 r9 r10 r11 r12 i1 i2 i3 i4 i5
  go_enter Tryz.func10,Tryz.ntmps10
  go_upto_region 1 with fail
  refine wp_region_lit ?_
  refine wpList_load_blk 28 (.tmp 1) w.heap.size #[.int .i64 3,.int .i64 f.fr,.int .i64 f.to_,.int .u64 f.mi,.int .u64 f.yo,.int .u64 f.a,.int .u64 f.b,.int .i64 f.ino,.int .u64 f.isq,.int .i64 f.iof,.int .i64 f.bno,.int .u64 f.bsq,.int .i64 f.bof,.int .i64 f.bde,.int .i64 f.bpr,.int .i64 f.bbo,.int .i64 f.bli,.int .i64 f.bto,.string f.da] (by (apply jt;(focus repeat(first|(with_reducible first|assumption|apply jd|apply js)|((with_reducible apply jo);first|focus(dsimp only;assumption)|focus(simp;done)|focus(dsimp only;omega))|((with_reducible apply jn);first|with_reducible rfl|focus(simp;done)|focus(simp;omega))|(with_reducible apply ja)|((with_reducible apply jb);with_reducible assumption)));rfl)) _ rfl rfl rfl Tryz.underlying28 rfl (by kernel_rfl) ?_
  conv => arg 5;simp [Act.put]
  go_wp2_with fail
  (with_reducible refine (gc.out _).mono ?_)
  rintro e w1 ⟨rfl,h1⟩
  have kf : blk w1 w.heap.size = some #[.int .i64 3,.int .i64 f.fr,.int .i64 f.to_,.int .u64 f.mi,.int .u64 f.yo,.int .u64 f.a,.int .u64 f.b,.int .i64 f.ino,.int .u64 f.isq,.int .i64 f.iof,.int .i64 f.bno,.int .u64 f.bsq,.int .i64 f.bof,.int .i64 f.bde,.int .i64 f.bpr,.int .i64 f.bbo,.int .i64 f.bli,.int .i64 f.bto,.string f.da]:=(by (apply jt;(focus repeat(first|(with_reducible first|assumption|apply jd|apply js)|((with_reducible apply jo);first|focus(dsimp only;assumption)|focus(simp;done)|focus(dsimp only;omega))|((with_reducible apply jn);first|with_reducible rfl|focus(simp;done)|focus(simp;omega))|(with_reducible apply ja)|((with_reducible apply jb);with_reducible assumption)));rfl))
  have hw : Below w.heap.size w w1:=by (repeat(first|(with_reducible first|assumption|exact Below.refl _ _|refine je ?_|refine jl ?_)|((with_reducible refine jp ?_ ?_);first|focus(dsimp only;assumption)|focus(simp;done)|focus(dsimp only;omega))|(with_reducible refine bt ?_ (by assumption))))
  clear h1 gc
  have nf:=kn kf
  have sw1:=hw.size
  go_wp2_with fail
  refine wp_region_in (by kernel_rfl) (by kernel_rfl) ?_
  intro W0_8 hE_8 hN_8
  have bW0_8 : Below w.heap.size w W0_8:=(by rw [hE_8.out];(repeat(first|(with_reducible first|assumption|exact Below.refl _ _|refine je ?_|refine jl ?_)|((with_reducible refine jp ?_ ?_);first|focus(dsimp only;assumption)|focus(simp;done)|focus(dsimp only;omega))|(with_reducible refine bt ?_ (by assumption)))))
  have kk9 : blk W0_8 (w.heap.size) = some #[.int .i64 3,.int .i64 f.fr,.int .i64 f.to_,.int .u64 f.mi,.int .u64 f.yo,.int .u64 f.a,.int .u64 f.b,.int .i64 f.ino,.int .u64 f.isq,.int .i64 f.iof,.int .i64 f.bno,.int .u64 f.bsq,.int .i64 f.bof,.int .i64 f.bde,.int .i64 f.bpr,.int .i64 f.bbo,.int .i64 f.bli,.int .i64 f.bto,.string f.da]:=(by rw [hE_8.out];(apply jt;(focus repeat(first|(with_reducible first|assumption|apply jd|apply js)|((with_reducible apply jo);first|focus(dsimp only;assumption)|focus(simp;done)|focus(dsimp only;omega))|((with_reducible apply jn);first|with_reducible rfl|focus(simp;done)|focus(simp;omega))|(with_reducible apply ja)|((with_reducible apply jb);with_reducible assumption)));rfl))
  have kk10 : blk W0_8 (w1.heap.size) = some #[.string ⟨#[104,101,108,108,111]⟩,.string ⟨#[103,114,97,110,116]⟩,.string ⟨#[100,97,116,97]⟩,.string ⟨#[114,101,112,111,114,116]⟩,.string ⟨#[97,99,107]⟩,.string ⟨#[114,101,102,117,115,101]⟩,.string ⟨#[114,101,99,108,97,105,109]⟩]:=(by rw [hE_8.out];(apply jt;(focus repeat(first|(with_reducible first|assumption|apply jd|apply js)|((with_reducible apply jo);first|focus(dsimp only;assumption)|focus(simp;done)|focus(dsimp only;omega))|((with_reducible apply jn);first|with_reducible rfl|focus(simp;done)|focus(simp;omega))|(with_reducible apply ja)|((with_reducible apply jb);with_reducible assumption)));rfl))
  have kn9:=calm_kn kk9
  have kn10:=calm_kn kk10
  clear hE_8
  repeat (go_big_quiet_step ((first|(go_at_call 26;(with_reducible refine Class.go _ (c1.out _)))|(go_at_call 26;(with_reducible refine Class.go _ (c2.out _)))|(go_at_call 26;(with_reducible refine Class.go _ (c3.out _)))|(go_at_call 26;(with_reducible refine Class.go _ (c4.out _))))))
  refine wpQuiet_nil ?_
  rintro _ ⟨x_8,rfl⟩
  have hx_8 : Calm W0_8 x_8.wd:=x_8.ok
  have bw2 : Below w.heap.size w x_8.wd:=bt bW0_8 hx_8
  clear kn9;replace kk9:=blk_below hx_8 kk9;have kn9:=kn kk9
  clear kn10;replace kk10:=blk_below hx_8 kk10;have kn10:=kn kk10
  clear hx_8 bW0_8 hN_8
  generalize x_8.wd = w2 at *
  have sw2:=bw2.size
  clear kf nf hw
  go_wp2_with fail
  (with_reducible refine (c5.out _).mono ?_)
  rintro e w3 ⟨rfl,hw3⟩
  have kk11 : blk w3 (w.heap.size) = some #[.int .i64 3,.int .i64 f.fr,.int .i64 f.to_,.int .u64 f.mi,.int .u64 f.yo,.int .u64 f.a,.int .u64 f.b,.int .i64 f.ino,.int .u64 f.isq,.int .i64 f.iof,.int .i64 f.bno,.int .u64 f.bsq,.int .i64 f.bof,.int .i64 f.bde,.int .i64 f.bpr,.int .i64 f.bbo,.int .i64 f.bli,.int .i64 f.bto,.string f.da]:=(by (apply jt;(focus repeat(first|(with_reducible first|assumption|apply jd|apply js)|((with_reducible apply jo);first|focus(dsimp only;assumption)|focus(simp;done)|focus(dsimp only;omega))|((with_reducible apply jn);first|with_reducible rfl|focus(simp;done)|focus(simp;omega))|(with_reducible apply ja)|((with_reducible apply jb);with_reducible assumption)));rfl))
  clear kk9 kn9
  have kn11:=kn kk11
  have bw3 : Below w.heap.size w w3:=(by (repeat(first|(with_reducible first|assumption|exact Below.refl _ _|refine je ?_|refine jl ?_)|((with_reducible refine jp ?_ ?_);first|focus(dsimp only;assumption)|focus(simp;done)|focus(dsimp only;omega))|(with_reducible refine bt ?_ (by assumption)))))
  have sw3:=bw3.size
  clear hw3 bw2
  go_wp2_with fail
  (with_reducible refine (gB.out _).mono ?_)
  rintro e wx ⟨rfl,rfl⟩
  go_wp2_with fail
  (with_reducible refine (c6.out _).mono ?_)
  rintro e w4 ⟨rfl,hw4⟩
  have kk12 : blk w4 (w.heap.size) = some #[.int .i64 3,.int .i64 f.fr,.int .i64 f.to_,.int .u64 f.mi,.int .u64 f.yo,.int .u64 f.a,.int .u64 f.b,.int .i64 f.ino,.int .u64 f.isq,.int .i64 f.iof,.int .i64 f.bno,.int .u64 f.bsq,.int .i64 f.bof,.int .i64 f.bde,.int .i64 f.bpr,.int .i64 f.bbo,.int .i64 f.bli,.int .i64 f.bto,.string f.da]:=(by (apply jt;(focus repeat(first|(with_reducible first|assumption|apply jd|apply js)|((with_reducible apply jo);first|focus(dsimp only;assumption)|focus(simp;done)|focus(dsimp only;omega))|((with_reducible apply jn);first|with_reducible rfl|focus(simp;done)|focus(simp;omega))|(with_reducible apply ja)|((with_reducible apply jb);with_reducible assumption)));rfl))
  clear kk11 kn11
  have kn12:=kn kk12
  have bw4 : Below w.heap.size w w4:=(by (repeat(first|(with_reducible first|assumption|exact Below.refl _ _|refine je ?_|refine jl ?_)|((with_reducible refine jp ?_ ?_);first|focus(dsimp only;assumption)|focus(simp;done)|focus(dsimp only;omega))|(with_reducible refine bt ?_ (by assumption)))))
  have sw4:=bw4.size
  clear hw4 bw3
  go_wp2_with fail
  refine wp_region_in (by kernel_rfl) (by kernel_rfl) ?_
  intro W0_13 hE_13 hN_13
  have bW0_13 : Below w.heap.size w W0_13:=(by rw [hE_13.out];(repeat(first|(with_reducible first|assumption|exact Below.refl _ _|refine je ?_|refine jl ?_)|((with_reducible refine jp ?_ ?_);first|focus(dsimp only;assumption)|focus(simp;done)|focus(dsimp only;omega))|(with_reducible refine bt ?_ (by assumption)))))
  have kk14 : blk W0_13 (w.heap.size) = some #[.int .i64 3,.int .i64 f.fr,.int .i64 f.to_,.int .u64 f.mi,.int .u64 f.yo,.int .u64 f.a,.int .u64 f.b,.int .i64 f.ino,.int .u64 f.isq,.int .i64 f.iof,.int .i64 f.bno,.int .u64 f.bsq,.int .i64 f.bof,.int .i64 f.bde,.int .i64 f.bpr,.int .i64 f.bbo,.int .i64 f.bli,.int .i64 f.bto,.string f.da]:=(by rw [hE_13.out];(apply jt;(focus repeat(first|(with_reducible first|assumption|apply jd|apply js)|((with_reducible apply jo);first|focus(dsimp only;assumption)|focus(simp;done)|focus(dsimp only;omega))|((with_reducible apply jn);first|with_reducible rfl|focus(simp;done)|focus(simp;omega))|(with_reducible apply ja)|((with_reducible apply jb);with_reducible assumption)));rfl))
  have kk15 : blk W0_13 (w4.heap.size) = some #[.int .i64 f.bno,.int .u64 f.bsq,.int .i64 f.bof]:=(by rw [hE_13.out];(apply jt;(focus repeat(first|(with_reducible first|assumption|apply jd|apply js)|((with_reducible apply jo);first|focus(dsimp only;assumption)|focus(simp;done)|focus(dsimp only;omega))|((with_reducible apply jn);first|with_reducible rfl|focus(simp;done)|focus(simp;omega))|(with_reducible apply ja)|((with_reducible apply jb);with_reducible assumption)));rfl))
  clear kk12 kn12
  have kn14:=calm_kn kk14
  have kn15:=calm_kn kk15
  clear hE_13
  repeat (go_big_quiet_step ((first|(go_at_call 26;(with_reducible refine Class.go _ (c8.out _)))|(go_at_call 26;(with_reducible refine Class.go _ (c9.out _)))|(go_at_call 26;(with_reducible refine Class.go _ (c10.out _))))))
  refine wpQuiet_nil ?_
  rintro _ ⟨x_13,rfl⟩
  have hx_13 : Calm W0_13 x_13.wd:=x_13.ok
  have bw5 : Below w.heap.size w x_13.wd:=bt bW0_13 hx_13
  clear kn14;replace kk14:=blk_below hx_13 kk14;have kn14:=kn kk14
  clear kn15;replace kk15:=blk_below hx_13 kk15;have kn15:=kn kk15
  clear hx_13 bW0_13 hN_13 bw4
  generalize x_13.wd = w5 at *
  have sw5:=bw5.size
  go_wp2
  go_ret2
  exact ⟨by rw [Fin.out];rfl,by (repeat(first|(with_reducible first|assumption|exact Below.refl _ _|refine je ?_|refine jl ?_)|((with_reducible refine jp ?_ ?_);first|focus(dsimp only;assumption)|focus(simp;done)|focus(dsimp only;omega))|(with_reducible refine bt ?_ (by assumption))))⟩
set_option maxRecDepth 100000 in
set_option maxHeartbeats 3200000 in
theorem rtext_k4 (f : Fr) (hk : f.k = 4) (hC : frC f = 0) (hn : NN f) (w : World) : Calls Tryz.prog 10 #[frv f] w fun e w' => e = .returned (.tuple #[.string (joinB (partsF f)),.int .i64 0]) ∧ Below w.heap.size w w':=by
  have gc:=Lib.hid (fun w => rcheck_any f (da_of hC) w)
  rw [hC] at gc
  have e0 : frv f = .agg #[.int .i64 4,.int .i64 f.fr,.int .i64 f.to_,.int .u64 f.mi,.int .u64 f.yo,.int .u64 f.a,.int .u64 f.b,.int .i64 f.ino,.int .u64 f.isq,.int .i64 f.iof,.int .i64 f.bno,.int .u64 f.bsq,.int .i64 f.bof,.int .i64 f.bde,.int .i64 f.bpr,.int .i64 f.bbo,.int .i64 f.bli,.int .i64 f.bto,.string f.da]:=by unfold frv;rw [hk]
  rw [e0] at gc ⊢
  obtain ⟨-,⟨r1,r2,r3,r4,-,r6,r7,r8,r9,r10,r11,r12⟩,hbc,-⟩:=frC_ok hC
  obtain ⟨p1,y1,z1,q1,c1⟩:=rdig_str f.fr (by omega) (by omega)
  obtain ⟨p2,y2,z2,q2,c2⟩:=rdig_str f.to_ (by omega) (by omega)
  obtain ⟨p3,y3,z3,q3,c3⟩:=rdig_str f.mi (by omega) (by omega)
  obtain ⟨p4,y4,z4,q4,c4⟩:=rdig_str f.yo (by have:=hn.yo;omega) (by omega)
  replace c1:=Lib.hid c1;replace c2:=Lib.hid c2;replace c3:=Lib.hid c3;replace c4:=Lib.hid c4
  have gB:=Lib.hid (fun w => refHasB_any 4 w)
  have gI:=Lib.hid (fun w => refHasID_any 4 w)
  rw [show hasB 4 = true by decide] at gB
  rw [show hasI 4 = false by decide] at gI
  obtain ⟨p5,y5,z5,q5,c5⟩:=rdig_str f.a (by have:=hn.a;omega) (by omega)
  replace c5:=Lib.hid c5
  obtain ⟨p6,y6,z6,q6,c6⟩:=rdig_str f.b (by have:=hn.b;omega) (by omega)
  replace c6:=Lib.hid c6
  have fin : Value.string (joinB (partsF f)) = .string ((((((((((((p1 ++ ⟨#[62]⟩) ++ p2) ++ ⟨#[32]⟩) ++ p3) ++ ⟨#[47]⟩) ++ p4) ++ ⟨#[32]⟩) ++ ⟨#[114,101,112,111,114,116]⟩) ++ ⟨#[32]⟩) ++ p5) ++ ⟨#[32]⟩) ++ p6):=by
    refine (vstr ?_).symm
    simp [partsF,hk,hasA,hasB,hasD,hasI,optL,nameB,keyF,keyB,Lib.join,List.intercalate,List.intersperse,y1,y2,y3,y4,y5,y6]
  obtain ⟨R,hR⟩ : ∃ R,Value.string (joinB (partsF f)) = R:=⟨_,rfl⟩
  rw [hR] at fin ⊢
  have Fin:=Lib.hid fin
  have Hk:=Lib.hid hk
  clear fin hR e0 hk hC hbc y1 y2 y3 y4 y5 y6 r1 r2 r3 r4 r6 r7 r8 r9 r10 r11 r12 
  go_enter Tryz.func10,Tryz.ntmps10
  go_upto_region 1 with fail
  refine wp_region_lit ?_
  refine wpList_load_blk 28 (.tmp 1) w.heap.size #[.int .i64 4,.int .i64 f.fr,.int .i64 f.to_,.int .u64 f.mi,.int .u64 f.yo,.int .u64 f.a,.int .u64 f.b,.int .i64 f.ino,.int .u64 f.isq,.int .i64 f.iof,.int .i64 f.bno,.int .u64 f.bsq,.int .i64 f.bof,.int .i64 f.bde,.int .i64 f.bpr,.int .i64 f.bbo,.int .i64 f.bli,.int .i64 f.bto,.string f.da] (by (apply jt;(focus repeat(first|(with_reducible first|assumption|apply jd|apply js)|((with_reducible apply jo);first|focus(dsimp only;assumption)|focus(simp;done)|focus(dsimp only;omega))|((with_reducible apply jn);first|with_reducible rfl|focus(simp;done)|focus(simp;omega))|(with_reducible apply ja)|((with_reducible apply jb);with_reducible assumption)));rfl)) _ rfl rfl rfl Tryz.underlying28 rfl (by kernel_rfl) ?_
  conv => arg 5;simp [Act.put]
  go_wp2_with fail
  (with_reducible refine (gc.out _).mono ?_)
  rintro e w1 ⟨rfl,h1⟩
  have kf : blk w1 w.heap.size = some #[.int .i64 4,.int .i64 f.fr,.int .i64 f.to_,.int .u64 f.mi,.int .u64 f.yo,.int .u64 f.a,.int .u64 f.b,.int .i64 f.ino,.int .u64 f.isq,.int .i64 f.iof,.int .i64 f.bno,.int .u64 f.bsq,.int .i64 f.bof,.int .i64 f.bde,.int .i64 f.bpr,.int .i64 f.bbo,.int .i64 f.bli,.int .i64 f.bto,.string f.da]:=(by (apply jt;(focus repeat(first|(with_reducible first|assumption|apply jd|apply js)|((with_reducible apply jo);first|focus(dsimp only;assumption)|focus(simp;done)|focus(dsimp only;omega))|((with_reducible apply jn);first|with_reducible rfl|focus(simp;done)|focus(simp;omega))|(with_reducible apply ja)|((with_reducible apply jb);with_reducible assumption)));rfl))
  have hw : Below w.heap.size w w1:=by (repeat(first|(with_reducible first|assumption|exact Below.refl _ _|refine je ?_|refine jl ?_)|((with_reducible refine jp ?_ ?_);first|focus(dsimp only;assumption)|focus(simp;done)|focus(dsimp only;omega))|(with_reducible refine bt ?_ (by assumption))))
  clear h1 gc
  have nf:=kn kf
  have sw1:=hw.size
  go_wp2_with fail
  refine wp_region_in (by kernel_rfl) (by kernel_rfl) ?_
  intro W0_16 hE_16 hN_16
  have bW0_16 : Below w.heap.size w W0_16:=(by rw [hE_16.out];(repeat(first|(with_reducible first|assumption|exact Below.refl _ _|refine je ?_|refine jl ?_)|((with_reducible refine jp ?_ ?_);first|focus(dsimp only;assumption)|focus(simp;done)|focus(dsimp only;omega))|(with_reducible refine bt ?_ (by assumption)))))
  have kk17 : blk W0_16 (w.heap.size) = some #[.int .i64 4,.int .i64 f.fr,.int .i64 f.to_,.int .u64 f.mi,.int .u64 f.yo,.int .u64 f.a,.int .u64 f.b,.int .i64 f.ino,.int .u64 f.isq,.int .i64 f.iof,.int .i64 f.bno,.int .u64 f.bsq,.int .i64 f.bof,.int .i64 f.bde,.int .i64 f.bpr,.int .i64 f.bbo,.int .i64 f.bli,.int .i64 f.bto,.string f.da]:=(by rw [hE_16.out];(apply jt;(focus repeat(first|(with_reducible first|assumption|apply jd|apply js)|((with_reducible apply jo);first|focus(dsimp only;assumption)|focus(simp;done)|focus(dsimp only;omega))|((with_reducible apply jn);first|with_reducible rfl|focus(simp;done)|focus(simp;omega))|(with_reducible apply ja)|((with_reducible apply jb);with_reducible assumption)));rfl))
  have kk18 : blk W0_16 (w1.heap.size) = some #[.string ⟨#[104,101,108,108,111]⟩,.string ⟨#[103,114,97,110,116]⟩,.string ⟨#[100,97,116,97]⟩,.string ⟨#[114,101,112,111,114,116]⟩,.string ⟨#[97,99,107]⟩,.string ⟨#[114,101,102,117,115,101]⟩,.string ⟨#[114,101,99,108,97,105,109]⟩]:=(by rw [hE_16.out];(apply jt;(focus repeat(first|(with_reducible first|assumption|apply jd|apply js)|((with_reducible apply jo);first|focus(dsimp only;assumption)|focus(simp;done)|focus(dsimp only;omega))|((with_reducible apply jn);first|with_reducible rfl|focus(simp;done)|focus(simp;omega))|(with_reducible apply ja)|((with_reducible apply jb);with_reducible assumption)));rfl))
  have kn17:=calm_kn kk17
  have kn18:=calm_kn kk18
  clear hE_16
  repeat (go_big_quiet_step ((first|(go_at_call 26;(with_reducible refine Class.go _ (c1.out _)))|(go_at_call 26;(with_reducible refine Class.go _ (c2.out _)))|(go_at_call 26;(with_reducible refine Class.go _ (c3.out _)))|(go_at_call 26;(with_reducible refine Class.go _ (c4.out _))))))
  refine wpQuiet_nil ?_
  rintro _ ⟨x_16,rfl⟩
  have hx_16 : Calm W0_16 x_16.wd:=x_16.ok
  have bw2 : Below w.heap.size w x_16.wd:=bt bW0_16 hx_16
  clear kn17;replace kk17:=blk_below hx_16 kk17;have kn17:=kn kk17
  clear kn18;replace kk18:=blk_below hx_16 kk18;have kn18:=kn kk18
  clear hx_16 bW0_16 hN_16
  generalize x_16.wd = w2 at *
  have sw2:=bw2.size
  clear kf nf hw
  go_wp2_with fail
  (with_reducible refine (c5.out _).mono ?_)
  rintro e w3 ⟨rfl,hw3⟩
  have kk19 : blk w3 (w.heap.size) = some #[.int .i64 4,.int .i64 f.fr,.int .i64 f.to_,.int .u64 f.mi,.int .u64 f.yo,.int .u64 f.a,.int .u64 f.b,.int .i64 f.ino,.int .u64 f.isq,.int .i64 f.iof,.int .i64 f.bno,.int .u64 f.bsq,.int .i64 f.bof,.int .i64 f.bde,.int .i64 f.bpr,.int .i64 f.bbo,.int .i64 f.bli,.int .i64 f.bto,.string f.da]:=(by (apply jt;(focus repeat(first|(with_reducible first|assumption|apply jd|apply js)|((with_reducible apply jo);first|focus(dsimp only;assumption)|focus(simp;done)|focus(dsimp only;omega))|((with_reducible apply jn);first|with_reducible rfl|focus(simp;done)|focus(simp;omega))|(with_reducible apply ja)|((with_reducible apply jb);with_reducible assumption)));rfl))
  clear kk17 kn17
  have kn19:=kn kk19
  have bw3 : Below w.heap.size w w3:=(by (repeat(first|(with_reducible first|assumption|exact Below.refl _ _|refine je ?_|refine jl ?_)|((with_reducible refine jp ?_ ?_);first|focus(dsimp only;assumption)|focus(simp;done)|focus(dsimp only;omega))|(with_reducible refine bt ?_ (by assumption)))))
  have sw3:=bw3.size
  clear hw3 bw2
  go_wp2_with fail
  (with_reducible refine (gB.out _).mono ?_)
  rintro e wx ⟨rfl,rfl⟩
  go_wp2_with fail
  (with_reducible refine (c6.out _).mono ?_)
  rintro e w4 ⟨rfl,hw4⟩
  have kk20 : blk w4 (w.heap.size) = some #[.int .i64 4,.int .i64 f.fr,.int .i64 f.to_,.int .u64 f.mi,.int .u64 f.yo,.int .u64 f.a,.int .u64 f.b,.int .i64 f.ino,.int .u64 f.isq,.int .i64 f.iof,.int .i64 f.bno,.int .u64 f.bsq,.int .i64 f.bof,.int .i64 f.bde,.int .i64 f.bpr,.int .i64 f.bbo,.int .i64 f.bli,.int .i64 f.bto,.string f.da]:=(by (apply jt;(focus repeat(first|(with_reducible first|assumption|apply jd|apply js)|((with_reducible apply jo);first|focus(dsimp only;assumption)|focus(simp;done)|focus(dsimp only;omega))|((with_reducible apply jn);first|with_reducible rfl|focus(simp;done)|focus(simp;omega))|(with_reducible apply ja)|((with_reducible apply jb);with_reducible assumption)));rfl))
  clear kk19 kn19
  have kn20:=kn kk20
  have bw4 : Below w.heap.size w w4:=(by (repeat(first|(with_reducible first|assumption|exact Below.refl _ _|refine je ?_|refine jl ?_)|((with_reducible refine jp ?_ ?_);first|focus(dsimp only;assumption)|focus(simp;done)|focus(dsimp only;omega))|(with_reducible refine bt ?_ (by assumption)))))
  have sw4:=bw4.size
  clear hw4 bw3
  go_wp2_with fail
  (with_reducible refine (gI.out _).mono ?_)
  rintro e wx ⟨rfl,rfl⟩
  go_wp2
  go_ret2
  exact ⟨by rw [Fin.out];rfl,by (repeat(first|(with_reducible first|assumption|exact Below.refl _ _|refine je ?_|refine jl ?_)|((with_reducible refine jp ?_ ?_);first|focus(dsimp only;assumption)|focus(simp;done)|focus(dsimp only;omega))|(with_reducible refine bt ?_ (by assumption))))⟩
set_option maxRecDepth 100000 in
set_option maxHeartbeats 3200000 in
theorem rtext_k5 (f : Fr) (hk : f.k = 5) (hC : frC f = 0) (hn : NN f) (w : World) : Calls Tryz.prog 10 #[frv f] w fun e w' => e = .returned (.tuple #[.string (joinB (partsF f)),.int .i64 0]) ∧ Below w.heap.size w w':=by
  have gc:=Lib.hid (fun w => rcheck_any f (da_of hC) w)
  rw [hC] at gc
  have e0 : frv f = .agg #[.int .i64 5,.int .i64 f.fr,.int .i64 f.to_,.int .u64 f.mi,.int .u64 f.yo,.int .u64 f.a,.int .u64 f.b,.int .i64 f.ino,.int .u64 f.isq,.int .i64 f.iof,.int .i64 f.bno,.int .u64 f.bsq,.int .i64 f.bof,.int .i64 f.bde,.int .i64 f.bpr,.int .i64 f.bbo,.int .i64 f.bli,.int .i64 f.bto,.string f.da]:=by unfold frv;rw [hk]
  rw [e0] at gc ⊢
  obtain ⟨-,⟨r1,r2,r3,r4,-,r6,r7,r8,r9,r10,r11,r12⟩,hbc,-⟩:=frC_ok hC
  obtain ⟨p1,y1,z1,q1,c1⟩:=rdig_str f.fr (by omega) (by omega)
  obtain ⟨p2,y2,z2,q2,c2⟩:=rdig_str f.to_ (by omega) (by omega)
  obtain ⟨p3,y3,z3,q3,c3⟩:=rdig_str f.mi (by omega) (by omega)
  obtain ⟨p4,y4,z4,q4,c4⟩:=rdig_str f.yo (by have:=hn.yo;omega) (by omega)
  replace c1:=Lib.hid c1;replace c2:=Lib.hid c2;replace c3:=Lib.hid c3;replace c4:=Lib.hid c4
  have gB:=Lib.hid (fun w => refHasB_any 5 w)
  have gI:=Lib.hid (fun w => refHasID_any 5 w)
  rw [show hasB 5 = false by decide] at gB
  rw [show hasI 5 = true by decide] at gI
  obtain ⟨p5,y5,z5,q5,c5⟩:=rdig_str f.a (by have:=hn.a;omega) (by omega)
  replace c5:=Lib.hid c5
  have hid1:=hbc
  unfold bcF at hid1
  rw [if_neg (by omega),if_pos (by omega)] at hid1
  obtain ⟨i1,i2,i3,i4,i5⟩ : okI f.ino f.isq f.iof:=(by rcases idC_cases f.ino f.isq f.iof with h|h;exact h.2;exact absurd (h.1.symm.trans hid1) (by decide))
  obtain ⟨p8,y8,z8,q8,c8⟩:=rdig_str f.ino (by omega) (by omega)
  obtain ⟨p9,y9,z9,q9,c9⟩:=rdig_str f.isq (by have:=hn.isq;omega) (by omega)
  obtain ⟨p10,y10,z10,q10,c10⟩:=rdig_str f.iof (by omega) (by omega)
  replace c8:=Lib.hid c8;replace c9:=Lib.hid c9;replace c10:=Lib.hid c10
  clear hid1
  have fin : Value.string (joinB (partsF f)) = .string ((((((((((((((((p1 ++ ⟨#[62]⟩) ++ p2) ++ ⟨#[32]⟩) ++ p3) ++ ⟨#[47]⟩) ++ p4) ++ ⟨#[32]⟩) ++ ⟨#[97,99,107]⟩) ++ ⟨#[32]⟩) ++ p5) ++ ⟨#[32]⟩) ++ p8) ++ ⟨#[46]⟩) ++ p9) ++ ⟨#[46]⟩) ++ p10):=by
    refine (vstr ?_).symm
    simp [partsF,hk,hasA,hasB,hasD,hasI,optL,nameB,keyF,keyB,Lib.join,List.intercalate,List.intersperse,y1,y2,y3,y4,y5,y8,y9,y10]
  obtain ⟨R,hR⟩ : ∃ R,Value.string (joinB (partsF f)) = R:=⟨_,rfl⟩
  rw [hR] at fin ⊢
  have Fin:=Lib.hid fin
  have Hk:=Lib.hid hk
  clear fin hR e0 hk hC hbc y1 y2 y3 y4 y5 y8 y9 y10 r1 r2 r3 r4 r6 r7 r8 r9 r10 r11 r12 i1 i2 i3 i4 i5
  go_enter Tryz.func10,Tryz.ntmps10
  go_upto_region 1 with fail
  refine wp_region_lit ?_
  refine wpList_load_blk 28 (.tmp 1) w.heap.size #[.int .i64 5,.int .i64 f.fr,.int .i64 f.to_,.int .u64 f.mi,.int .u64 f.yo,.int .u64 f.a,.int .u64 f.b,.int .i64 f.ino,.int .u64 f.isq,.int .i64 f.iof,.int .i64 f.bno,.int .u64 f.bsq,.int .i64 f.bof,.int .i64 f.bde,.int .i64 f.bpr,.int .i64 f.bbo,.int .i64 f.bli,.int .i64 f.bto,.string f.da] (by (apply jt;(focus repeat(first|(with_reducible first|assumption|apply jd|apply js)|((with_reducible apply jo);first|focus(dsimp only;assumption)|focus(simp;done)|focus(dsimp only;omega))|((with_reducible apply jn);first|with_reducible rfl|focus(simp;done)|focus(simp;omega))|(with_reducible apply ja)|((with_reducible apply jb);with_reducible assumption)));rfl)) _ rfl rfl rfl Tryz.underlying28 rfl (by kernel_rfl) ?_
  conv => arg 5;simp [Act.put]
  go_wp2_with fail
  (with_reducible refine (gc.out _).mono ?_)
  rintro e w1 ⟨rfl,h1⟩
  have kf : blk w1 w.heap.size = some #[.int .i64 5,.int .i64 f.fr,.int .i64 f.to_,.int .u64 f.mi,.int .u64 f.yo,.int .u64 f.a,.int .u64 f.b,.int .i64 f.ino,.int .u64 f.isq,.int .i64 f.iof,.int .i64 f.bno,.int .u64 f.bsq,.int .i64 f.bof,.int .i64 f.bde,.int .i64 f.bpr,.int .i64 f.bbo,.int .i64 f.bli,.int .i64 f.bto,.string f.da]:=(by (apply jt;(focus repeat(first|(with_reducible first|assumption|apply jd|apply js)|((with_reducible apply jo);first|focus(dsimp only;assumption)|focus(simp;done)|focus(dsimp only;omega))|((with_reducible apply jn);first|with_reducible rfl|focus(simp;done)|focus(simp;omega))|(with_reducible apply ja)|((with_reducible apply jb);with_reducible assumption)));rfl))
  have hw : Below w.heap.size w w1:=by (repeat(first|(with_reducible first|assumption|exact Below.refl _ _|refine je ?_|refine jl ?_)|((with_reducible refine jp ?_ ?_);first|focus(dsimp only;assumption)|focus(simp;done)|focus(dsimp only;omega))|(with_reducible refine bt ?_ (by assumption))))
  clear h1 gc
  have nf:=kn kf
  have sw1:=hw.size
  go_wp2_with fail
  refine wp_region_in (by kernel_rfl) (by kernel_rfl) ?_
  intro W0_21 hE_21 hN_21
  have bW0_21 : Below w.heap.size w W0_21:=(by rw [hE_21.out];(repeat(first|(with_reducible first|assumption|exact Below.refl _ _|refine je ?_|refine jl ?_)|((with_reducible refine jp ?_ ?_);first|focus(dsimp only;assumption)|focus(simp;done)|focus(dsimp only;omega))|(with_reducible refine bt ?_ (by assumption)))))
  have kk22 : blk W0_21 (w.heap.size) = some #[.int .i64 5,.int .i64 f.fr,.int .i64 f.to_,.int .u64 f.mi,.int .u64 f.yo,.int .u64 f.a,.int .u64 f.b,.int .i64 f.ino,.int .u64 f.isq,.int .i64 f.iof,.int .i64 f.bno,.int .u64 f.bsq,.int .i64 f.bof,.int .i64 f.bde,.int .i64 f.bpr,.int .i64 f.bbo,.int .i64 f.bli,.int .i64 f.bto,.string f.da]:=(by rw [hE_21.out];(apply jt;(focus repeat(first|(with_reducible first|assumption|apply jd|apply js)|((with_reducible apply jo);first|focus(dsimp only;assumption)|focus(simp;done)|focus(dsimp only;omega))|((with_reducible apply jn);first|with_reducible rfl|focus(simp;done)|focus(simp;omega))|(with_reducible apply ja)|((with_reducible apply jb);with_reducible assumption)));rfl))
  have kk23 : blk W0_21 (w1.heap.size) = some #[.string ⟨#[104,101,108,108,111]⟩,.string ⟨#[103,114,97,110,116]⟩,.string ⟨#[100,97,116,97]⟩,.string ⟨#[114,101,112,111,114,116]⟩,.string ⟨#[97,99,107]⟩,.string ⟨#[114,101,102,117,115,101]⟩,.string ⟨#[114,101,99,108,97,105,109]⟩]:=(by rw [hE_21.out];(apply jt;(focus repeat(first|(with_reducible first|assumption|apply jd|apply js)|((with_reducible apply jo);first|focus(dsimp only;assumption)|focus(simp;done)|focus(dsimp only;omega))|((with_reducible apply jn);first|with_reducible rfl|focus(simp;done)|focus(simp;omega))|(with_reducible apply ja)|((with_reducible apply jb);with_reducible assumption)));rfl))
  have kn22:=calm_kn kk22
  have kn23:=calm_kn kk23
  clear hE_21
  repeat (go_big_quiet_step ((first|(go_at_call 26;(with_reducible refine Class.go _ (c1.out _)))|(go_at_call 26;(with_reducible refine Class.go _ (c2.out _)))|(go_at_call 26;(with_reducible refine Class.go _ (c3.out _)))|(go_at_call 26;(with_reducible refine Class.go _ (c4.out _))))))
  refine wpQuiet_nil ?_
  rintro _ ⟨x_21,rfl⟩
  have hx_21 : Calm W0_21 x_21.wd:=x_21.ok
  have bw2 : Below w.heap.size w x_21.wd:=bt bW0_21 hx_21
  clear kn22;replace kk22:=blk_below hx_21 kk22;have kn22:=kn kk22
  clear kn23;replace kk23:=blk_below hx_21 kk23;have kn23:=kn kk23
  clear hx_21 bW0_21 hN_21
  generalize x_21.wd = w2 at *
  have sw2:=bw2.size
  clear kf nf hw
  go_wp2_with fail
  (with_reducible refine (c5.out _).mono ?_)
  rintro e w3 ⟨rfl,hw3⟩
  have kk24 : blk w3 (w.heap.size) = some #[.int .i64 5,.int .i64 f.fr,.int .i64 f.to_,.int .u64 f.mi,.int .u64 f.yo,.int .u64 f.a,.int .u64 f.b,.int .i64 f.ino,.int .u64 f.isq,.int .i64 f.iof,.int .i64 f.bno,.int .u64 f.bsq,.int .i64 f.bof,.int .i64 f.bde,.int .i64 f.bpr,.int .i64 f.bbo,.int .i64 f.bli,.int .i64 f.bto,.string f.da]:=(by (apply jt;(focus repeat(first|(with_reducible first|assumption|apply jd|apply js)|((with_reducible apply jo);first|focus(dsimp only;assumption)|focus(simp;done)|focus(dsimp only;omega))|((with_reducible apply jn);first|with_reducible rfl|focus(simp;done)|focus(simp;omega))|(with_reducible apply ja)|((with_reducible apply jb);with_reducible assumption)));rfl))
  clear kk22 kn22
  have kn24:=kn kk24
  have bw3 : Below w.heap.size w w3:=(by (repeat(first|(with_reducible first|assumption|exact Below.refl _ _|refine je ?_|refine jl ?_)|((with_reducible refine jp ?_ ?_);first|focus(dsimp only;assumption)|focus(simp;done)|focus(dsimp only;omega))|(with_reducible refine bt ?_ (by assumption)))))
  have sw3:=bw3.size
  clear hw3 bw2
  go_wp2_with fail
  (with_reducible refine (gB.out _).mono ?_)
  rintro e wx ⟨rfl,rfl⟩
  go_wp2_with fail
  (with_reducible refine (gI.out _).mono ?_)
  rintro e wx ⟨rfl,rfl⟩
  go_wp2_with fail
  refine wp_region_in (by kernel_rfl) (by kernel_rfl) ?_
  intro W0_25 hE_25 hN_25
  have bW0_25 : Below w.heap.size w W0_25:=(by rw [hE_25.out];(repeat(first|(with_reducible first|assumption|exact Below.refl _ _|refine je ?_|refine jl ?_)|((with_reducible refine jp ?_ ?_);first|focus(dsimp only;assumption)|focus(simp;done)|focus(dsimp only;omega))|(with_reducible refine bt ?_ (by assumption)))))
  have kk26 : blk W0_25 (w.heap.size) = some #[.int .i64 5,.int .i64 f.fr,.int .i64 f.to_,.int .u64 f.mi,.int .u64 f.yo,.int .u64 f.a,.int .u64 f.b,.int .i64 f.ino,.int .u64 f.isq,.int .i64 f.iof,.int .i64 f.bno,.int .u64 f.bsq,.int .i64 f.bof,.int .i64 f.bde,.int .i64 f.bpr,.int .i64 f.bbo,.int .i64 f.bli,.int .i64 f.bto,.string f.da]:=(by rw [hE_25.out];(apply jt;(focus repeat(first|(with_reducible first|assumption|apply jd|apply js)|((with_reducible apply jo);first|focus(dsimp only;assumption)|focus(simp;done)|focus(dsimp only;omega))|((with_reducible apply jn);first|with_reducible rfl|focus(simp;done)|focus(simp;omega))|(with_reducible apply ja)|((with_reducible apply jb);with_reducible assumption)));rfl))
  have kk27 : blk W0_25 (w3.heap.size) = some #[.int .i64 f.ino,.int .u64 f.isq,.int .i64 f.iof]:=(by rw [hE_25.out];(apply jt;(focus repeat(first|(with_reducible first|assumption|apply jd|apply js)|((with_reducible apply jo);first|focus(dsimp only;assumption)|focus(simp;done)|focus(dsimp only;omega))|((with_reducible apply jn);first|with_reducible rfl|focus(simp;done)|focus(simp;omega))|(with_reducible apply ja)|((with_reducible apply jb);with_reducible assumption)));rfl))
  clear kk24 kn24
  have kn26:=calm_kn kk26
  have kn27:=calm_kn kk27
  clear hE_25
  repeat (go_big_quiet_step ((first|(go_at_call 26;(with_reducible refine Class.go _ (c8.out _)))|(go_at_call 26;(with_reducible refine Class.go _ (c9.out _)))|(go_at_call 26;(with_reducible refine Class.go _ (c10.out _))))))
  refine wpQuiet_nil ?_
  rintro _ ⟨x_25,rfl⟩
  have hx_25 : Calm W0_25 x_25.wd:=x_25.ok
  have bw4 : Below w.heap.size w x_25.wd:=bt bW0_25 hx_25
  clear kn26;replace kk26:=blk_below hx_25 kk26;have kn26:=kn kk26
  clear kn27;replace kk27:=blk_below hx_25 kk27;have kn27:=kn kk27
  clear hx_25 bW0_25 hN_25 bw3
  generalize x_25.wd = w4 at *
  have sw4:=bw4.size
  go_wp2
  go_ret2
  exact ⟨by rw [Fin.out];rfl,by (repeat(first|(with_reducible first|assumption|exact Below.refl _ _|refine je ?_|refine jl ?_)|((with_reducible refine jp ?_ ?_);first|focus(dsimp only;assumption)|focus(simp;done)|focus(dsimp only;omega))|(with_reducible refine bt ?_ (by assumption))))⟩
set_option maxRecDepth 100000 in
set_option maxHeartbeats 3200000 in
theorem rtext_k6 (f : Fr) (hk : f.k = 6) (hC : frC f = 0) (hn : NN f) (w : World) : Calls Tryz.prog 10 #[frv f] w fun e w' => e = .returned (.tuple #[.string (joinB (partsF f)),.int .i64 0]) ∧ Below w.heap.size w w':=by
  have gc:=Lib.hid (fun w => rcheck_any f (da_of hC) w)
  rw [hC] at gc
  have e0 : frv f = .agg #[.int .i64 6,.int .i64 f.fr,.int .i64 f.to_,.int .u64 f.mi,.int .u64 f.yo,.int .u64 f.a,.int .u64 f.b,.int .i64 f.ino,.int .u64 f.isq,.int .i64 f.iof,.int .i64 f.bno,.int .u64 f.bsq,.int .i64 f.bof,.int .i64 f.bde,.int .i64 f.bpr,.int .i64 f.bbo,.int .i64 f.bli,.int .i64 f.bto,.string f.da]:=by unfold frv;rw [hk]
  rw [e0] at gc ⊢
  obtain ⟨-,⟨r1,r2,r3,r4,-,r6,r7,r8,r9,r10,r11,r12⟩,hbc,-⟩:=frC_ok hC
  obtain ⟨p1,y1,z1,q1,c1⟩:=rdig_str f.fr (by omega) (by omega)
  obtain ⟨p2,y2,z2,q2,c2⟩:=rdig_str f.to_ (by omega) (by omega)
  obtain ⟨p3,y3,z3,q3,c3⟩:=rdig_str f.mi (by omega) (by omega)
  obtain ⟨p4,y4,z4,q4,c4⟩:=rdig_str f.yo (by have:=hn.yo;omega) (by omega)
  replace c1:=Lib.hid c1;replace c2:=Lib.hid c2;replace c3:=Lib.hid c3;replace c4:=Lib.hid c4
  have gB:=Lib.hid (fun w => refHasB_any 6 w)
  have gI:=Lib.hid (fun w => refHasID_any 6 w)
  rw [show hasB 6 = true by decide] at gB
  rw [show hasI 6 = true by decide] at gI
  obtain ⟨p5,y5,z5,q5,c5⟩:=rdig_str f.a (by have:=hn.a;omega) (by omega)
  replace c5:=Lib.hid c5
  obtain ⟨p6,y6,z6,q6,c6⟩:=rdig_str f.b (by have:=hn.b;omega) (by omega)
  replace c6:=Lib.hid c6
  have hid1:=hbc
  unfold bcF at hid1
  rw [if_neg (by omega),if_pos (by omega)] at hid1
  obtain ⟨i1,i2,i3,i4,i5⟩ : okI f.ino f.isq f.iof:=(by rcases idC_cases f.ino f.isq f.iof with h|h;exact h.2;exact absurd (h.1.symm.trans hid1) (by decide))
  obtain ⟨p8,y8,z8,q8,c8⟩:=rdig_str f.ino (by omega) (by omega)
  obtain ⟨p9,y9,z9,q9,c9⟩:=rdig_str f.isq (by have:=hn.isq;omega) (by omega)
  obtain ⟨p10,y10,z10,q10,c10⟩:=rdig_str f.iof (by omega) (by omega)
  replace c8:=Lib.hid c8;replace c9:=Lib.hid c9;replace c10:=Lib.hid c10
  clear hid1
  have fin : Value.string (joinB (partsF f)) = .string ((((((((((((((((((p1 ++ ⟨#[62]⟩) ++ p2) ++ ⟨#[32]⟩) ++ p3) ++ ⟨#[47]⟩) ++ p4) ++ ⟨#[32]⟩) ++ ⟨#[114,101,102,117,115,101]⟩) ++ ⟨#[32]⟩) ++ p5) ++ ⟨#[32]⟩) ++ p6) ++ ⟨#[32]⟩) ++ p8) ++ ⟨#[46]⟩) ++ p9) ++ ⟨#[46]⟩) ++ p10):=by
    refine (vstr ?_).symm
    simp [partsF,hk,hasA,hasB,hasD,hasI,optL,nameB,keyF,keyB,Lib.join,List.intercalate,List.intersperse,y1,y2,y3,y4,y5,y6,y8,y9,y10]
  obtain ⟨R,hR⟩ : ∃ R,Value.string (joinB (partsF f)) = R:=⟨_,rfl⟩
  rw [hR] at fin ⊢
  have Fin:=Lib.hid fin
  have Hk:=Lib.hid hk
  clear fin hR e0 hk hC hbc y1 y2 y3 y4 y5 y6 y8 y9 y10 r1 r2 r3 r4 r6 r7 r8 r9 r10 r11 r12 i1 i2 i3 i4 i5
  go_enter Tryz.func10,Tryz.ntmps10
  go_upto_region 1 with fail
  refine wp_region_lit ?_
  refine wpList_load_blk 28 (.tmp 1) w.heap.size #[.int .i64 6,.int .i64 f.fr,.int .i64 f.to_,.int .u64 f.mi,.int .u64 f.yo,.int .u64 f.a,.int .u64 f.b,.int .i64 f.ino,.int .u64 f.isq,.int .i64 f.iof,.int .i64 f.bno,.int .u64 f.bsq,.int .i64 f.bof,.int .i64 f.bde,.int .i64 f.bpr,.int .i64 f.bbo,.int .i64 f.bli,.int .i64 f.bto,.string f.da] (by (apply jt;(focus repeat(first|(with_reducible first|assumption|apply jd|apply js)|((with_reducible apply jo);first|focus(dsimp only;assumption)|focus(simp;done)|focus(dsimp only;omega))|((with_reducible apply jn);first|with_reducible rfl|focus(simp;done)|focus(simp;omega))|(with_reducible apply ja)|((with_reducible apply jb);with_reducible assumption)));rfl)) _ rfl rfl rfl Tryz.underlying28 rfl (by kernel_rfl) ?_
  conv => arg 5;simp [Act.put]
  go_wp2_with fail
  (with_reducible refine (gc.out _).mono ?_)
  rintro e w1 ⟨rfl,h1⟩
  have kf : blk w1 w.heap.size = some #[.int .i64 6,.int .i64 f.fr,.int .i64 f.to_,.int .u64 f.mi,.int .u64 f.yo,.int .u64 f.a,.int .u64 f.b,.int .i64 f.ino,.int .u64 f.isq,.int .i64 f.iof,.int .i64 f.bno,.int .u64 f.bsq,.int .i64 f.bof,.int .i64 f.bde,.int .i64 f.bpr,.int .i64 f.bbo,.int .i64 f.bli,.int .i64 f.bto,.string f.da]:=(by (apply jt;(focus repeat(first|(with_reducible first|assumption|apply jd|apply js)|((with_reducible apply jo);first|focus(dsimp only;assumption)|focus(simp;done)|focus(dsimp only;omega))|((with_reducible apply jn);first|with_reducible rfl|focus(simp;done)|focus(simp;omega))|(with_reducible apply ja)|((with_reducible apply jb);with_reducible assumption)));rfl))
  have hw : Below w.heap.size w w1:=by (repeat(first|(with_reducible first|assumption|exact Below.refl _ _|refine je ?_|refine jl ?_)|((with_reducible refine jp ?_ ?_);first|focus(dsimp only;assumption)|focus(simp;done)|focus(dsimp only;omega))|(with_reducible refine bt ?_ (by assumption))))
  clear h1 gc
  have nf:=kn kf
  have sw1:=hw.size
  go_wp2_with fail
  refine wp_region_in (by kernel_rfl) (by kernel_rfl) ?_
  intro W0_28 hE_28 hN_28
  have bW0_28 : Below w.heap.size w W0_28:=(by rw [hE_28.out];(repeat(first|(with_reducible first|assumption|exact Below.refl _ _|refine je ?_|refine jl ?_)|((with_reducible refine jp ?_ ?_);first|focus(dsimp only;assumption)|focus(simp;done)|focus(dsimp only;omega))|(with_reducible refine bt ?_ (by assumption)))))
  have kk29 : blk W0_28 (w.heap.size) = some #[.int .i64 6,.int .i64 f.fr,.int .i64 f.to_,.int .u64 f.mi,.int .u64 f.yo,.int .u64 f.a,.int .u64 f.b,.int .i64 f.ino,.int .u64 f.isq,.int .i64 f.iof,.int .i64 f.bno,.int .u64 f.bsq,.int .i64 f.bof,.int .i64 f.bde,.int .i64 f.bpr,.int .i64 f.bbo,.int .i64 f.bli,.int .i64 f.bto,.string f.da]:=(by rw [hE_28.out];(apply jt;(focus repeat(first|(with_reducible first|assumption|apply jd|apply js)|((with_reducible apply jo);first|focus(dsimp only;assumption)|focus(simp;done)|focus(dsimp only;omega))|((with_reducible apply jn);first|with_reducible rfl|focus(simp;done)|focus(simp;omega))|(with_reducible apply ja)|((with_reducible apply jb);with_reducible assumption)));rfl))
  have kk30 : blk W0_28 (w1.heap.size) = some #[.string ⟨#[104,101,108,108,111]⟩,.string ⟨#[103,114,97,110,116]⟩,.string ⟨#[100,97,116,97]⟩,.string ⟨#[114,101,112,111,114,116]⟩,.string ⟨#[97,99,107]⟩,.string ⟨#[114,101,102,117,115,101]⟩,.string ⟨#[114,101,99,108,97,105,109]⟩]:=(by rw [hE_28.out];(apply jt;(focus repeat(first|(with_reducible first|assumption|apply jd|apply js)|((with_reducible apply jo);first|focus(dsimp only;assumption)|focus(simp;done)|focus(dsimp only;omega))|((with_reducible apply jn);first|with_reducible rfl|focus(simp;done)|focus(simp;omega))|(with_reducible apply ja)|((with_reducible apply jb);with_reducible assumption)));rfl))
  have kn29:=calm_kn kk29
  have kn30:=calm_kn kk30
  clear hE_28
  repeat (go_big_quiet_step ((first|(go_at_call 26;(with_reducible refine Class.go _ (c1.out _)))|(go_at_call 26;(with_reducible refine Class.go _ (c2.out _)))|(go_at_call 26;(with_reducible refine Class.go _ (c3.out _)))|(go_at_call 26;(with_reducible refine Class.go _ (c4.out _))))))
  refine wpQuiet_nil ?_
  rintro _ ⟨x_28,rfl⟩
  have hx_28 : Calm W0_28 x_28.wd:=x_28.ok
  have bw2 : Below w.heap.size w x_28.wd:=bt bW0_28 hx_28
  clear kn29;replace kk29:=blk_below hx_28 kk29;have kn29:=kn kk29
  clear kn30;replace kk30:=blk_below hx_28 kk30;have kn30:=kn kk30
  clear hx_28 bW0_28 hN_28
  generalize x_28.wd = w2 at *
  have sw2:=bw2.size
  clear kf nf hw
  go_wp2_with fail
  (with_reducible refine (c5.out _).mono ?_)
  rintro e w3 ⟨rfl,hw3⟩
  have kk31 : blk w3 (w.heap.size) = some #[.int .i64 6,.int .i64 f.fr,.int .i64 f.to_,.int .u64 f.mi,.int .u64 f.yo,.int .u64 f.a,.int .u64 f.b,.int .i64 f.ino,.int .u64 f.isq,.int .i64 f.iof,.int .i64 f.bno,.int .u64 f.bsq,.int .i64 f.bof,.int .i64 f.bde,.int .i64 f.bpr,.int .i64 f.bbo,.int .i64 f.bli,.int .i64 f.bto,.string f.da]:=(by (apply jt;(focus repeat(first|(with_reducible first|assumption|apply jd|apply js)|((with_reducible apply jo);first|focus(dsimp only;assumption)|focus(simp;done)|focus(dsimp only;omega))|((with_reducible apply jn);first|with_reducible rfl|focus(simp;done)|focus(simp;omega))|(with_reducible apply ja)|((with_reducible apply jb);with_reducible assumption)));rfl))
  clear kk29 kn29
  have kn31:=kn kk31
  have bw3 : Below w.heap.size w w3:=(by (repeat(first|(with_reducible first|assumption|exact Below.refl _ _|refine je ?_|refine jl ?_)|((with_reducible refine jp ?_ ?_);first|focus(dsimp only;assumption)|focus(simp;done)|focus(dsimp only;omega))|(with_reducible refine bt ?_ (by assumption)))))
  have sw3:=bw3.size
  clear hw3 bw2
  go_wp2_with fail
  (with_reducible refine (gB.out _).mono ?_)
  rintro e wx ⟨rfl,rfl⟩
  go_wp2_with fail
  (with_reducible refine (c6.out _).mono ?_)
  rintro e w4 ⟨rfl,hw4⟩
  have kk32 : blk w4 (w.heap.size) = some #[.int .i64 6,.int .i64 f.fr,.int .i64 f.to_,.int .u64 f.mi,.int .u64 f.yo,.int .u64 f.a,.int .u64 f.b,.int .i64 f.ino,.int .u64 f.isq,.int .i64 f.iof,.int .i64 f.bno,.int .u64 f.bsq,.int .i64 f.bof,.int .i64 f.bde,.int .i64 f.bpr,.int .i64 f.bbo,.int .i64 f.bli,.int .i64 f.bto,.string f.da]:=(by (apply jt;(focus repeat(first|(with_reducible first|assumption|apply jd|apply js)|((with_reducible apply jo);first|focus(dsimp only;assumption)|focus(simp;done)|focus(dsimp only;omega))|((with_reducible apply jn);first|with_reducible rfl|focus(simp;done)|focus(simp;omega))|(with_reducible apply ja)|((with_reducible apply jb);with_reducible assumption)));rfl))
  clear kk31 kn31
  have kn32:=kn kk32
  have bw4 : Below w.heap.size w w4:=(by (repeat(first|(with_reducible first|assumption|exact Below.refl _ _|refine je ?_|refine jl ?_)|((with_reducible refine jp ?_ ?_);first|focus(dsimp only;assumption)|focus(simp;done)|focus(dsimp only;omega))|(with_reducible refine bt ?_ (by assumption)))))
  have sw4:=bw4.size
  clear hw4 bw3
  go_wp2_with fail
  (with_reducible refine (gI.out _).mono ?_)
  rintro e wx ⟨rfl,rfl⟩
  go_wp2_with fail
  refine wp_region_in (by kernel_rfl) (by kernel_rfl) ?_
  intro W0_33 hE_33 hN_33
  have bW0_33 : Below w.heap.size w W0_33:=(by rw [hE_33.out];(repeat(first|(with_reducible first|assumption|exact Below.refl _ _|refine je ?_|refine jl ?_)|((with_reducible refine jp ?_ ?_);first|focus(dsimp only;assumption)|focus(simp;done)|focus(dsimp only;omega))|(with_reducible refine bt ?_ (by assumption)))))
  have kk34 : blk W0_33 (w.heap.size) = some #[.int .i64 6,.int .i64 f.fr,.int .i64 f.to_,.int .u64 f.mi,.int .u64 f.yo,.int .u64 f.a,.int .u64 f.b,.int .i64 f.ino,.int .u64 f.isq,.int .i64 f.iof,.int .i64 f.bno,.int .u64 f.bsq,.int .i64 f.bof,.int .i64 f.bde,.int .i64 f.bpr,.int .i64 f.bbo,.int .i64 f.bli,.int .i64 f.bto,.string f.da]:=(by rw [hE_33.out];(apply jt;(focus repeat(first|(with_reducible first|assumption|apply jd|apply js)|((with_reducible apply jo);first|focus(dsimp only;assumption)|focus(simp;done)|focus(dsimp only;omega))|((with_reducible apply jn);first|with_reducible rfl|focus(simp;done)|focus(simp;omega))|(with_reducible apply ja)|((with_reducible apply jb);with_reducible assumption)));rfl))
  have kk35 : blk W0_33 (w4.heap.size) = some #[.int .i64 f.ino,.int .u64 f.isq,.int .i64 f.iof]:=(by rw [hE_33.out];(apply jt;(focus repeat(first|(with_reducible first|assumption|apply jd|apply js)|((with_reducible apply jo);first|focus(dsimp only;assumption)|focus(simp;done)|focus(dsimp only;omega))|((with_reducible apply jn);first|with_reducible rfl|focus(simp;done)|focus(simp;omega))|(with_reducible apply ja)|((with_reducible apply jb);with_reducible assumption)));rfl))
  clear kk32 kn32
  have kn34:=calm_kn kk34
  have kn35:=calm_kn kk35
  clear hE_33
  repeat (go_big_quiet_step ((first|(go_at_call 26;(with_reducible refine Class.go _ (c8.out _)))|(go_at_call 26;(with_reducible refine Class.go _ (c9.out _)))|(go_at_call 26;(with_reducible refine Class.go _ (c10.out _))))))
  refine wpQuiet_nil ?_
  rintro _ ⟨x_33,rfl⟩
  have hx_33 : Calm W0_33 x_33.wd:=x_33.ok
  have bw5 : Below w.heap.size w x_33.wd:=bt bW0_33 hx_33
  clear kn34;replace kk34:=blk_below hx_33 kk34;have kn34:=kn kk34
  clear kn35;replace kk35:=blk_below hx_33 kk35;have kn35:=kn kk35
  clear hx_33 bW0_33 hN_33 bw4
  generalize x_33.wd = w5 at *
  have sw5:=bw5.size
  go_wp2
  go_ret2
  exact ⟨by rw [Fin.out];rfl,by (repeat(first|(with_reducible first|assumption|exact Below.refl _ _|refine je ?_|refine jl ?_)|((with_reducible refine jp ?_ ?_);first|focus(dsimp only;assumption)|focus(simp;done)|focus(dsimp only;omega))|(with_reducible refine bt ?_ (by assumption))))⟩
set_option maxRecDepth 100000 in
set_option maxHeartbeats 3200000 in
theorem rtext_k7 (f : Fr) (hk : f.k = 7) (hC : frC f = 0) (hn : NN f) (w : World) : Calls Tryz.prog 10 #[frv f] w fun e w' => e = .returned (.tuple #[.string (joinB (partsF f)),.int .i64 0]) ∧ Below w.heap.size w w':=by
  have gc:=Lib.hid (fun w => rcheck_any f (da_of hC) w)
  rw [hC] at gc
  have e0 : frv f = .agg #[.int .i64 7,.int .i64 f.fr,.int .i64 f.to_,.int .u64 f.mi,.int .u64 f.yo,.int .u64 f.a,.int .u64 f.b,.int .i64 f.ino,.int .u64 f.isq,.int .i64 f.iof,.int .i64 f.bno,.int .u64 f.bsq,.int .i64 f.bof,.int .i64 f.bde,.int .i64 f.bpr,.int .i64 f.bbo,.int .i64 f.bli,.int .i64 f.bto,.string f.da]:=by unfold frv;rw [hk]
  rw [e0] at gc ⊢
  obtain ⟨-,⟨r1,r2,r3,r4,-,r6,r7,r8,r9,r10,r11,r12⟩,hbc,-⟩:=frC_ok hC
  obtain ⟨p1,y1,z1,q1,c1⟩:=rdig_str f.fr (by omega) (by omega)
  obtain ⟨p2,y2,z2,q2,c2⟩:=rdig_str f.to_ (by omega) (by omega)
  obtain ⟨p3,y3,z3,q3,c3⟩:=rdig_str f.mi (by omega) (by omega)
  obtain ⟨p4,y4,z4,q4,c4⟩:=rdig_str f.yo (by have:=hn.yo;omega) (by omega)
  replace c1:=Lib.hid c1;replace c2:=Lib.hid c2;replace c3:=Lib.hid c3;replace c4:=Lib.hid c4
  have gB:=Lib.hid (fun w => refHasB_any 7 w)
  have gI:=Lib.hid (fun w => refHasID_any 7 w)
  rw [show hasB 7 = false by decide] at gB
  rw [show hasI 7 = false by decide] at gI
  obtain ⟨p5,y5,z5,q5,c5⟩:=rdig_str f.a (by have:=hn.a;omega) (by omega)
  replace c5:=Lib.hid c5
  have fin : Value.string (joinB (partsF f)) = .string ((((((((((p1 ++ ⟨#[62]⟩) ++ p2) ++ ⟨#[32]⟩) ++ p3) ++ ⟨#[47]⟩) ++ p4) ++ ⟨#[32]⟩) ++ ⟨#[114,101,99,108,97,105,109]⟩) ++ ⟨#[32]⟩) ++ p5):=by
    refine (vstr ?_).symm
    simp [partsF,hk,hasA,hasB,hasD,hasI,optL,nameB,keyF,keyB,Lib.join,List.intercalate,List.intersperse,y1,y2,y3,y4,y5]
  obtain ⟨R,hR⟩ : ∃ R,Value.string (joinB (partsF f)) = R:=⟨_,rfl⟩
  rw [hR] at fin ⊢
  have Fin:=Lib.hid fin
  have Hk:=Lib.hid hk
  clear fin hR e0 hk hC hbc y1 y2 y3 y4 y5 r1 r2 r3 r4 r6 r7 r8 r9 r10 r11 r12 
  go_enter Tryz.func10,Tryz.ntmps10
  go_upto_region 1 with fail
  refine wp_region_lit ?_
  refine wpList_load_blk 28 (.tmp 1) w.heap.size #[.int .i64 7,.int .i64 f.fr,.int .i64 f.to_,.int .u64 f.mi,.int .u64 f.yo,.int .u64 f.a,.int .u64 f.b,.int .i64 f.ino,.int .u64 f.isq,.int .i64 f.iof,.int .i64 f.bno,.int .u64 f.bsq,.int .i64 f.bof,.int .i64 f.bde,.int .i64 f.bpr,.int .i64 f.bbo,.int .i64 f.bli,.int .i64 f.bto,.string f.da] (by (apply jt;(focus repeat(first|(with_reducible first|assumption|apply jd|apply js)|((with_reducible apply jo);first|focus(dsimp only;assumption)|focus(simp;done)|focus(dsimp only;omega))|((with_reducible apply jn);first|with_reducible rfl|focus(simp;done)|focus(simp;omega))|(with_reducible apply ja)|((with_reducible apply jb);with_reducible assumption)));rfl)) _ rfl rfl rfl Tryz.underlying28 rfl (by kernel_rfl) ?_
  conv => arg 5;simp [Act.put]
  go_wp2_with fail
  (with_reducible refine (gc.out _).mono ?_)
  rintro e w1 ⟨rfl,h1⟩
  have kf : blk w1 w.heap.size = some #[.int .i64 7,.int .i64 f.fr,.int .i64 f.to_,.int .u64 f.mi,.int .u64 f.yo,.int .u64 f.a,.int .u64 f.b,.int .i64 f.ino,.int .u64 f.isq,.int .i64 f.iof,.int .i64 f.bno,.int .u64 f.bsq,.int .i64 f.bof,.int .i64 f.bde,.int .i64 f.bpr,.int .i64 f.bbo,.int .i64 f.bli,.int .i64 f.bto,.string f.da]:=(by (apply jt;(focus repeat(first|(with_reducible first|assumption|apply jd|apply js)|((with_reducible apply jo);first|focus(dsimp only;assumption)|focus(simp;done)|focus(dsimp only;omega))|((with_reducible apply jn);first|with_reducible rfl|focus(simp;done)|focus(simp;omega))|(with_reducible apply ja)|((with_reducible apply jb);with_reducible assumption)));rfl))
  have hw : Below w.heap.size w w1:=by (repeat(first|(with_reducible first|assumption|exact Below.refl _ _|refine je ?_|refine jl ?_)|((with_reducible refine jp ?_ ?_);first|focus(dsimp only;assumption)|focus(simp;done)|focus(dsimp only;omega))|(with_reducible refine bt ?_ (by assumption))))
  clear h1 gc
  have nf:=kn kf
  have sw1:=hw.size
  go_wp2_with fail
  refine wp_region_in (by kernel_rfl) (by kernel_rfl) ?_
  intro W0_36 hE_36 hN_36
  have bW0_36 : Below w.heap.size w W0_36:=(by rw [hE_36.out];(repeat(first|(with_reducible first|assumption|exact Below.refl _ _|refine je ?_|refine jl ?_)|((with_reducible refine jp ?_ ?_);first|focus(dsimp only;assumption)|focus(simp;done)|focus(dsimp only;omega))|(with_reducible refine bt ?_ (by assumption)))))
  have kk37 : blk W0_36 (w.heap.size) = some #[.int .i64 7,.int .i64 f.fr,.int .i64 f.to_,.int .u64 f.mi,.int .u64 f.yo,.int .u64 f.a,.int .u64 f.b,.int .i64 f.ino,.int .u64 f.isq,.int .i64 f.iof,.int .i64 f.bno,.int .u64 f.bsq,.int .i64 f.bof,.int .i64 f.bde,.int .i64 f.bpr,.int .i64 f.bbo,.int .i64 f.bli,.int .i64 f.bto,.string f.da]:=(by rw [hE_36.out];(apply jt;(focus repeat(first|(with_reducible first|assumption|apply jd|apply js)|((with_reducible apply jo);first|focus(dsimp only;assumption)|focus(simp;done)|focus(dsimp only;omega))|((with_reducible apply jn);first|with_reducible rfl|focus(simp;done)|focus(simp;omega))|(with_reducible apply ja)|((with_reducible apply jb);with_reducible assumption)));rfl))
  have kk38 : blk W0_36 (w1.heap.size) = some #[.string ⟨#[104,101,108,108,111]⟩,.string ⟨#[103,114,97,110,116]⟩,.string ⟨#[100,97,116,97]⟩,.string ⟨#[114,101,112,111,114,116]⟩,.string ⟨#[97,99,107]⟩,.string ⟨#[114,101,102,117,115,101]⟩,.string ⟨#[114,101,99,108,97,105,109]⟩]:=(by rw [hE_36.out];(apply jt;(focus repeat(first|(with_reducible first|assumption|apply jd|apply js)|((with_reducible apply jo);first|focus(dsimp only;assumption)|focus(simp;done)|focus(dsimp only;omega))|((with_reducible apply jn);first|with_reducible rfl|focus(simp;done)|focus(simp;omega))|(with_reducible apply ja)|((with_reducible apply jb);with_reducible assumption)));rfl))
  have kn37:=calm_kn kk37
  have kn38:=calm_kn kk38
  clear hE_36
  repeat (go_big_quiet_step ((first|(go_at_call 26;(with_reducible refine Class.go _ (c1.out _)))|(go_at_call 26;(with_reducible refine Class.go _ (c2.out _)))|(go_at_call 26;(with_reducible refine Class.go _ (c3.out _)))|(go_at_call 26;(with_reducible refine Class.go _ (c4.out _))))))
  refine wpQuiet_nil ?_
  rintro _ ⟨x_36,rfl⟩
  have hx_36 : Calm W0_36 x_36.wd:=x_36.ok
  have bw2 : Below w.heap.size w x_36.wd:=bt bW0_36 hx_36
  clear kn37;replace kk37:=blk_below hx_36 kk37;have kn37:=kn kk37
  clear kn38;replace kk38:=blk_below hx_36 kk38;have kn38:=kn kk38
  clear hx_36 bW0_36 hN_36
  generalize x_36.wd = w2 at *
  have sw2:=bw2.size
  clear kf nf hw
  go_wp2_with fail
  (with_reducible refine (c5.out _).mono ?_)
  rintro e w3 ⟨rfl,hw3⟩
  have kk39 : blk w3 (w.heap.size) = some #[.int .i64 7,.int .i64 f.fr,.int .i64 f.to_,.int .u64 f.mi,.int .u64 f.yo,.int .u64 f.a,.int .u64 f.b,.int .i64 f.ino,.int .u64 f.isq,.int .i64 f.iof,.int .i64 f.bno,.int .u64 f.bsq,.int .i64 f.bof,.int .i64 f.bde,.int .i64 f.bpr,.int .i64 f.bbo,.int .i64 f.bli,.int .i64 f.bto,.string f.da]:=(by (apply jt;(focus repeat(first|(with_reducible first|assumption|apply jd|apply js)|((with_reducible apply jo);first|focus(dsimp only;assumption)|focus(simp;done)|focus(dsimp only;omega))|((with_reducible apply jn);first|with_reducible rfl|focus(simp;done)|focus(simp;omega))|(with_reducible apply ja)|((with_reducible apply jb);with_reducible assumption)));rfl))
  clear kk37 kn37
  have kn39:=kn kk39
  have bw3 : Below w.heap.size w w3:=(by (repeat(first|(with_reducible first|assumption|exact Below.refl _ _|refine je ?_|refine jl ?_)|((with_reducible refine jp ?_ ?_);first|focus(dsimp only;assumption)|focus(simp;done)|focus(dsimp only;omega))|(with_reducible refine bt ?_ (by assumption)))))
  have sw3:=bw3.size
  clear hw3 bw2
  go_wp2_with fail
  (with_reducible refine (gB.out _).mono ?_)
  rintro e wx ⟨rfl,rfl⟩
  go_wp2_with fail
  (with_reducible refine (gI.out _).mono ?_)
  rintro e wx ⟨rfl,rfl⟩
  go_wp2
  go_ret2
  exact ⟨by rw [Fin.out];rfl,by (repeat(first|(with_reducible first|assumption|exact Below.refl _ _|refine je ?_|refine jl ?_)|((with_reducible refine jp ?_ ?_);first|focus(dsimp only;assumption)|focus(simp;done)|focus(dsimp only;omega))|(with_reducible refine bt ?_ (by assumption))))⟩
theorem rtext_any (f : Fr) (hda : f.da.size ≤ maxLen) (hn : NN f) (w : World) : Calls Tryz.prog 10 #[frv f] w fun e w' => e = .returned (.tuple #[.string (textF f).1,.int .i64 (textF f).2]) ∧ Below w.heap.size w w':=by
  unfold textF
  by_cases hC : frC f = 0
  · rw [if_pos hC]
    obtain ⟨hk,_⟩:=frC_ok hC
    have h' : f.k = 1 ∨ f.k = 2 ∨ f.k = 3 ∨ f.k = 4 ∨ f.k = 5 ∨ f.k = 6 ∨ f.k = 7:=by omega
    rcases h' with h|h|h|h|h|h|h
    · exact rtext_k1 f h hC hn w
    · exact rtext_k2 f h hC hn w
    · exact rtext_k3 f h hC hn w
    · exact rtext_k4 f h hC hn w
    · exact rtext_k5 f h hC hn w
    · exact rtext_k6 f h hC hn w
    · exact rtext_k7 f h hC hn w
  · rw [if_neg hC]
    exact rtext_bad f hda hC w
end Go.Proofs.YtaiofjffoboicaaGreatDoor
