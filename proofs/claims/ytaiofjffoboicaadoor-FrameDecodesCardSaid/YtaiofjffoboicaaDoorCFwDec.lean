/- Parts of a proof, printed by a program of mine out of my texts: FwDec. -/
import Derived.Great.Walk
import Derived.OpenShut
import Derived.Deep.Cut
import Derived.Test.YtaiofjffoboicaaDoorCFrAwake
import Derived.Test.YtaiofjffoboicaaDoorCRDc
set_option linter.unusedSimpArgs false
set_option linter.unusedVariables false
namespace Go.Proofs.YtaiofjffoboicaaDoor
open Go.RowKit
set_option maxRecDepth 100000 in
set_option maxHeartbeats 1600000 in
theorem frameDecodes_at (s : ByteArray) (hs : s.size ≤ maxLen) (w : World) (hH : HTab w) (hT : STab w) :
    Calls Tryd.prog 3 #[.string s] w fun e w' => e = .returned (.bool true) ∧ Below w.heap.size w w':=by
  have HH:=Lib.hid hH;have HT:=Lib.hid hT;clear hH hT
  have ga:=Lib.hid awake_any
  by_cases h1 : 1300 < s.size
  · have t1 : decide ((1300 : Int) < s.size) = true:=decide_eq_true (by omega)
    clear h1
    go_enter Tryd.func3,Tryd.ntmps3
    go_wp2_with (go_at_call 10;(with_reducible refine (ga.out _ (HH.out.on (by (repeat(first|(with_reducible first|assumption|exact Below.refl _ _|refine je ?_|refine jl ?_)|((with_reducible refine jp ?_ ?_);first|focus(dsimp only;assumption)|focus(simp;done)|focus(dsimp only;omega))|(with_reducible refine bt ?_ (by assumption)))))) (HT.out.on (by (repeat(first|(with_reducible first|assumption|exact Below.refl _ _|refine je ?_|refine jl ?_)|((with_reducible refine jp ?_ ?_);first|focus(dsimp only;assumption)|focus(simp;done)|focus(dsimp only;omega))|(with_reducible refine bt ?_ (by assumption))))))).mono ?_);rintro e wa ⟨rfl,ha⟩)
    go_ret
    exact ⟨rfl,by (repeat(first|(with_reducible first|assumption|exact Below.refl _ _|refine je ?_|refine jl ?_)|((with_reducible refine jp ?_ ?_);first|focus(dsimp only;assumption)|focus(simp;done)|focus(dsimp only;omega))|(with_reducible refine bt ?_ (by assumption))))⟩
  · have t1 : decide ((1300 : Int) < s.size) = false:=decide_eq_false (by omega)
    clear h1
    have gd:=fun w h t => fdec_any s hs w h t
    have gr:=fun w => rdec_any s hs w
    rw [decFr_sm good_wrap] at gd
    rw [decFr_sm good_clamp] at gr
    obtain ⟨⟨F,c,x⟩,hF⟩ : ∃ x,decFr idI s.data.toList = x:=⟨_,rfl⟩
    rw [hF] at gd gr
    clear hF
    have gd : ∀ w,HTab w → STab w → Calls Tryd.prog 11 #[.string s] w fun e w' => e = .returned (.tuple #[.agg #[.int .i64 F.k,.int .i64 F.fr,.int .i64 F.to_,.int .u64 F.mi,.int .u64 F.yo,.int .u64 F.a,.int .u64 F.b,.int .i64 F.ino,.int .u64 F.isq,.int .i64 F.iof,.int .i64 F.bno,.int .u64 F.bsq,.int .i64 F.bof,.int .i64 F.bde,.int .i64 F.bpr,.int .i64 F.bbo,.int .i64 F.bli,.int .i64 F.bto,.string F.da],.agg #[.int .i64 c,.int .i64 x]]) ∧ Below w.heap.size w w':=gd
    have gr : ∀ w,Calls Tryd.prog 12 #[.string s] w fun e w' => e = .returned (.tuple #[.agg #[.int .i64 F.k,.int .i64 F.fr,.int .i64 F.to_,.int .u64 F.mi,.int .u64 F.yo,.int .u64 F.a,.int .u64 F.b,.int .i64 F.ino,.int .u64 F.isq,.int .i64 F.iof,.int .i64 F.bno,.int .u64 F.bsq,.int .i64 F.bof,.int .i64 F.bde,.int .i64 F.bpr,.int .i64 F.bbo,.int .i64 F.bli,.int .i64 F.bto,.string F.da],.agg #[.int .i64 c,.int .i64 x]]) ∧ Below w.heap.size w w':=gr
    have E : ∀ w,Sem.run Tryd.prog (binOp BinOp.eql 29 (.agg #[.int .i64 F.k,.int .i64 F.fr,.int .i64 F.to_,.int .u64 F.mi,.int .u64 F.yo,.int .u64 F.a,.int .u64 F.b,.int .i64 F.ino,.int .u64 F.isq,.int .i64 F.iof,.int .i64 F.bno,.int .u64 F.bsq,.int .i64 F.bof,.int .i64 F.bde,.int .i64 F.bpr,.int .i64 F.bbo,.int .i64 F.bli,.int .i64 F.bto,.string F.da]) (.agg #[.int .i64 F.k,.int .i64 F.fr,.int .i64 F.to_,.int .u64 F.mi,.int .u64 F.yo,.int .u64 F.a,.int .u64 F.b,.int .i64 F.ino,.int .u64 F.isq,.int .i64 F.iof,.int .i64 F.bno,.int .u64 F.bsq,.int .i64 F.bof,.int .i64 F.bde,.int .i64 F.bpr,.int .i64 F.bbo,.int .i64 F.bli,.int .i64 F.bto,.string F.da])) w = .ok (.bool true) w:=fun w => by
      have:=run_frEq F F w
      rw [frEq_self] at this
      exact this
    replace gd:=Lib.hid gd;replace gr:=Lib.hid gr
    go_enter Tryd.func3,Tryd.ntmps3
    go_upto_region 3 with fail
    refine wp_region_tail0 5 ?_
    intro W1 hE1 hN1
    have bW1 : Below w.heap.size w W1:=(by rw [hE1.out];(repeat(first|(with_reducible first|assumption|exact Below.refl _ _|refine je ?_|refine jl ?_)|((with_reducible refine jp ?_ ?_);first|focus(dsimp only;assumption)|focus(simp;done)|focus(dsimp only;omega))|(with_reducible refine bt ?_ (by assumption)))))
    clear hE1
    simp only [List.take_succ_cons,List.take_zero,List.drop_succ_cons,List.drop_zero]
    repeat (go_big_quiet_step ((go_at_call 11;(with_reducible refine Class.go _ (gd.out _ ?_ ?_));exact HH.out.on (bt bW1 (Class.ok _));exact HT.out.on (bt bW1 (Class.ok _)))))
    refine wpQuiet_nil ?_
    rintro _ ⟨x,rfl⟩
    have bb1:=bt bW1 x.ok
    clear hN1 bW1
    obtain ⟨u1,hu1⟩ : ∃ u,u = x.wd:=⟨_,rfl⟩
    rw [← hu1] at bb1 ⊢
    clear hu1 x
    refine Go.Great.wpList_allocTo rfl (some 3) rfl (.pointer (some ⟨u1.heap.size,0,none⟩)) (.cells zF 29) (by kernel_rfl) ?_
    conv => arg 5;simp [Act.put]
    obtain ⟨y1,hy1⟩ : ∃ y,y = u1.alloc (.cells zF 29):=⟨_,rfl⟩
    have ky1 : blk y1 u1.heap.size = some zF:=(by rw [hy1];exact blk_alloc_new _ _ _ rfl)
    have by1 : Below w.heap.size w y1:=(by rw [hy1];exact bb1.alloc bb1.size _)
    have hz1:=bb1.size
    rw [← hy1]
    clear hy1 bb1
    have hl1:=blk_lt ky1
    refine Go.Great.wpList_allocTo rfl (some 4) rfl (.pointer (some ⟨y1.heap.size,0,none⟩)) (.cells #[.int .i64 0,.int .i64 0] 32) (by kernel_rfl) ?_
    conv => arg 5;simp [Act.put]
    refine wpList_store_blk 29 (.tmp 3) (.tmp 14) u1.heap.size zF #[.int .i64 F.k,.int .i64 F.fr,.int .i64 F.to_,.int .u64 F.mi,.int .u64 F.yo,.int .u64 F.a,.int .u64 F.b,.int .i64 F.ino,.int .u64 F.isq,.int .i64 F.iof,.int .i64 F.bno,.int .u64 F.bsq,.int .i64 F.bof,.int .i64 F.bde,.int .i64 F.bpr,.int .i64 F.bbo,.int .i64 F.bli,.int .i64 F.bto,.string F.da] (blk_alloc ky1 _) rfl rfl rfl rfl (by kernel_rfl) rfl (by kernel_rfl) ?_
    intro s1 ks1 o1 B1 z1
    conv => arg 5;simp [Act.put]
    have es1:=o1 y1.heap.size #[.int .i64 0,.int .i64 0] (by omega) (blk_alloc_new _ _ _ rfl)
    have bs1 : Below w.heap.size w s1:=B1 _ _ hz1 (by1.alloc by1.size _)
    clear o1 B1 z1 by1 ky1
    refine wpList_store_blk 32 (.tmp 4) (.tmp 15) y1.heap.size #[.int .i64 0,.int .i64 0] #[.int .i64 c,.int .i64 x] es1 rfl rfl rfl rfl (by kernel_rfl) rfl (by kernel_rfl) ?_
    intro v1 ev1 o1 B1 z1
    conv => arg 5;simp [Act.put]
    have kv1:=o1 u1.heap.size #[.int .i64 F.k,.int .i64 F.fr,.int .i64 F.to_,.int .u64 F.mi,.int .u64 F.yo,.int .u64 F.a,.int .u64 F.b,.int .i64 F.ino,.int .u64 F.isq,.int .i64 F.iof,.int .i64 F.bno,.int .u64 F.bsq,.int .i64 F.bof,.int .i64 F.bde,.int .i64 F.bpr,.int .i64 F.bbo,.int .i64 F.bli,.int .i64 F.bto,.string F.da] (by omega) ks1
    have bv1 : Below w.heap.size w v1:=B1 _ _ (by omega) bs1
    clear o1 B1 z1 ks1 es1 bs1
    go_upto_region 4 with fail
    refine wp_region_tail0 5 ?_
    intro W2 hE2 hN2
    have bW2 : Below w.heap.size w W2:=(by rw [hE2.out];exact bv1)
    have kv1a2 : blk W2 u1.heap.size = some #[.int .i64 F.k,.int .i64 F.fr,.int .i64 F.to_,.int .u64 F.mi,.int .u64 F.yo,.int .u64 F.a,.int .u64 F.b,.int .i64 F.ino,.int .u64 F.isq,.int .i64 F.iof,.int .i64 F.bno,.int .u64 F.bsq,.int .i64 F.bof,.int .i64 F.bde,.int .i64 F.bpr,.int .i64 F.bbo,.int .i64 F.bli,.int .i64 F.bto,.string F.da]:=(by rw [hE2.out];exact kv1)
    have ev1a2 : blk W2 y1.heap.size = some #[.int .i64 c,.int .i64 x]:=(by rw [hE2.out];exact ev1)
    clear hE2 kv1 ev1
    simp only [List.take_succ_cons,List.take_zero,List.drop_succ_cons,List.drop_zero]
    repeat (go_big_quiet_step ((go_at_call 12;(with_reducible refine Class.go _ (gr.out _)))))
    refine wpQuiet_nil ?_
    rintro _ ⟨x,rfl⟩
    have bb2:=bt bW2 x.ok
    have kv1b2:=blk_below x.ok kv1a2
    have ev1b2:=blk_below x.ok ev1a2
    clear hN2 bW2 kv1a2 ev1a2
    obtain ⟨u2,hu2⟩ : ∃ u,u = x.wd:=⟨_,rfl⟩
    rw [← hu2] at bb2 kv1b2 ev1b2 ⊢
    clear hu2 x
    refine Go.Great.wpList_allocTo rfl (some 5) rfl (.pointer (some ⟨u2.heap.size,0,none⟩)) (.cells zF 29) (by kernel_rfl) ?_
    conv => arg 5;simp [Act.put]
    obtain ⟨y2,hy2⟩ : ∃ y,y = u2.alloc (.cells zF 29):=⟨_,rfl⟩
    have ky2 : blk y2 u2.heap.size = some zF:=(by rw [hy2];exact blk_alloc_new _ _ _ rfl)
    have by2 : Below w.heap.size w y2:=(by rw [hy2];exact bb2.alloc bb2.size _)
    have kv1c2 : blk y2 u1.heap.size = some #[.int .i64 F.k,.int .i64 F.fr,.int .i64 F.to_,.int .u64 F.mi,.int .u64 F.yo,.int .u64 F.a,.int .u64 F.b,.int .i64 F.ino,.int .u64 F.isq,.int .i64 F.iof,.int .i64 F.bno,.int .u64 F.bsq,.int .i64 F.bof,.int .i64 F.bde,.int .i64 F.bpr,.int .i64 F.bbo,.int .i64 F.bli,.int .i64 F.bto,.string F.da]:=(by rw [hy2];exact blk_alloc kv1b2 _)
    have kv1l2:=blk_lt kv1b2
    have ev1c2 : blk y2 y1.heap.size = some #[.int .i64 c,.int .i64 x]:=(by rw [hy2];exact blk_alloc ev1b2 _)
    have ev1l2:=blk_lt ev1b2
    have hz2:=bb2.size
    rw [← hy2]
    clear hy2 bb2 kv1b2 ev1b2
    have hl2:=blk_lt ky2
    refine Go.Great.wpList_allocTo rfl (some 6) rfl (.pointer (some ⟨y2.heap.size,0,none⟩)) (.cells #[.int .i64 0,.int .i64 0] 32) (by kernel_rfl) ?_
    conv => arg 5;simp [Act.put]
    refine wpList_store_blk 29 (.tmp 5) (.tmp 19) u2.heap.size zF #[.int .i64 F.k,.int .i64 F.fr,.int .i64 F.to_,.int .u64 F.mi,.int .u64 F.yo,.int .u64 F.a,.int .u64 F.b,.int .i64 F.ino,.int .u64 F.isq,.int .i64 F.iof,.int .i64 F.bno,.int .u64 F.bsq,.int .i64 F.bof,.int .i64 F.bde,.int .i64 F.bpr,.int .i64 F.bbo,.int .i64 F.bli,.int .i64 F.bto,.string F.da] (blk_alloc ky2 _) rfl rfl rfl rfl (by kernel_rfl) rfl (by kernel_rfl) ?_
    intro s2 ks2 o2 B2 z2
    conv => arg 5;simp [Act.put]
    have es2:=o2 y2.heap.size #[.int .i64 0,.int .i64 0] (by omega) (blk_alloc_new _ _ _ rfl)
    have bs2 : Below w.heap.size w s2:=B2 _ _ hz2 (by2.alloc by2.size _)
    have kv1d2:=o2 u1.heap.size #[.int .i64 F.k,.int .i64 F.fr,.int .i64 F.to_,.int .u64 F.mi,.int .u64 F.yo,.int .u64 F.a,.int .u64 F.b,.int .i64 F.ino,.int .u64 F.isq,.int .i64 F.iof,.int .i64 F.bno,.int .u64 F.bsq,.int .i64 F.bof,.int .i64 F.bde,.int .i64 F.bpr,.int .i64 F.bbo,.int .i64 F.bli,.int .i64 F.bto,.string F.da] (by omega) (blk_alloc kv1c2 _)
    have ev1d2:=o2 y1.heap.size #[.int .i64 c,.int .i64 x] (by omega) (blk_alloc ev1c2 _)
    clear o2 B2 z2 by2 ky2 kv1c2 ev1c2
    refine wpList_store_blk 32 (.tmp 6) (.tmp 20) y2.heap.size #[.int .i64 0,.int .i64 0] #[.int .i64 c,.int .i64 x] es2 rfl rfl rfl rfl (by kernel_rfl) rfl (by kernel_rfl) ?_
    intro v2 ev2 o2 B2 z2
    conv => arg 5;simp [Act.put]
    have kv2:=o2 u2.heap.size #[.int .i64 F.k,.int .i64 F.fr,.int .i64 F.to_,.int .u64 F.mi,.int .u64 F.yo,.int .u64 F.a,.int .u64 F.b,.int .i64 F.ino,.int .u64 F.isq,.int .i64 F.iof,.int .i64 F.bno,.int .u64 F.bsq,.int .i64 F.bof,.int .i64 F.bde,.int .i64 F.bpr,.int .i64 F.bbo,.int .i64 F.bli,.int .i64 F.bto,.string F.da] (by omega) ks2
    have bv2 : Below w.heap.size w v2:=B2 _ _ (by omega) bs2
    have kv1:=o2 u1.heap.size #[.int .i64 F.k,.int .i64 F.fr,.int .i64 F.to_,.int .u64 F.mi,.int .u64 F.yo,.int .u64 F.a,.int .u64 F.b,.int .i64 F.ino,.int .u64 F.isq,.int .i64 F.iof,.int .i64 F.bno,.int .u64 F.bsq,.int .i64 F.bof,.int .i64 F.bde,.int .i64 F.bpr,.int .i64 F.bbo,.int .i64 F.bli,.int .i64 F.bto,.string F.da] (by omega) kv1d2
    have ev1:=o2 y1.heap.size #[.int .i64 c,.int .i64 x] (by omega) ev1d2
    clear o2 B2 z2 ks2 es2 bs2 kv1d2 ev1d2
    have ne1:=kn ev1
    have ne2:=kn ev2
    go_upto_region 5 with fail
    refine wp_region_lit ?_
    refine wpList_load_blk 29 (.tmp 3) u1.heap.size #[.int .i64 F.k,.int .i64 F.fr,.int .i64 F.to_,.int .u64 F.mi,.int .u64 F.yo,.int .u64 F.a,.int .u64 F.b,.int .i64 F.ino,.int .u64 F.isq,.int .i64 F.iof,.int .i64 F.bno,.int .u64 F.bsq,.int .i64 F.bof,.int .i64 F.bde,.int .i64 F.bpr,.int .i64 F.bbo,.int .i64 F.bli,.int .i64 F.bto,.string F.da] kv1 _ rfl rfl rfl Tryd.underlying29 rfl (by kernel_rfl) ?_
    conv => arg 5;simp [Act.put]
    refine wpList_load_blk 29 (.tmp 5) u2.heap.size #[.int .i64 F.k,.int .i64 F.fr,.int .i64 F.to_,.int .u64 F.mi,.int .u64 F.yo,.int .u64 F.a,.int .u64 F.b,.int .i64 F.ino,.int .u64 F.isq,.int .i64 F.iof,.int .i64 F.bno,.int .u64 F.bsq,.int .i64 F.bof,.int .i64 F.bde,.int .i64 F.bpr,.int .i64 F.bbo,.int .i64 F.bli,.int .i64 F.bto,.string F.da] kv2 _ rfl rfl rfl Tryd.underlying29 rfl (by kernel_rfl) ?_
    conv => arg 5;simp [Act.put]
    clear kv1 kv2 ev1 ev2
    go_wp2_with (go_at_call 10;(with_reducible refine (ga.out _ (HH.out.on (by (repeat(first|(with_reducible first|assumption|exact Below.refl _ _|refine je ?_|refine jl ?_)|((with_reducible refine jp ?_ ?_);first|focus(dsimp only;assumption)|focus(simp;done)|focus(dsimp only;omega))|(with_reducible refine bt ?_ (by assumption)))))) (HT.out.on (by (repeat(first|(with_reducible first|assumption|exact Below.refl _ _|refine je ?_|refine jl ?_)|((with_reducible refine jp ?_ ?_);first|focus(dsimp only;assumption)|focus(simp;done)|focus(dsimp only;omega))|(with_reducible refine bt ?_ (by assumption))))))).mono ?_);rintro e wa ⟨rfl,ha⟩)
    go_ret
    exact ⟨rfl,by (repeat(first|(with_reducible first|assumption|exact Below.refl _ _|refine je ?_|refine jl ?_)|((with_reducible refine jp ?_ ?_);first|focus(dsimp only;assumption)|focus(simp;done)|focus(dsimp only;omega))|(with_reducible refine bt ?_ (by assumption))))⟩
theorem frameDecodes_walk (s : ByteArray) (hs : s.size ≤ maxLen) (w : World) (T0 : Lib.TabIs Tryd.prog w sumNm .u32 sumTab) (T1 : Lib.TabIs Tryd.prog w headsNm .u8 headsTab) :
    Calls Tryd.prog 3 #[.string s] w fun e w' => e = .returned (.bool true) ∧ Below w.heap.size w w' :=
  frameDecodes_at s hs w (htab_of T1) (stab_of T0)
end Go.Proofs.YtaiofjffoboicaaDoor
