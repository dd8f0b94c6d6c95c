/- Parts of a proof, printed by a program of mine out of my texts: FrChk3. -/
import Derived.Deep.Cut
import Derived.Test.YtaiofjffoboicaaDoorCEq
import Derived.Test.YtaiofjffoboicaaDoorCFrChkBad
set_option linter.unusedSimpArgs false
set_option linter.unusedVariables false
namespace Go.Proofs.YtaiofjffoboicaaDoor
open Go.RowKit
set_option maxRecDepth 100000 in
set_option maxHeartbeats 6400000 in
theorem check_k3 (f : Fr) (hk : f.k = 3) (hda : f.da.size ≤ maxLen) (h0b : 0 ≤ f.b) (w : World) : Calls Tryd.prog 17 #[frv f] w fun e w' => e = .returned (.int .i64 (frC f)) ∧ Below w.heap.size w w':=by
  have hk17 : 1 ≤ f.k ∧ f.k ≤ 7:=by omega
  have gu : ∀ w,Calls Tryd.prog 25 #[.int .i64 f.k] w fun e w' => e = .returned (.tuple #[.agg #[.bool true,.bool true,.bool true,.bool false],.bool true]) ∧ Below w.heap.size w w':=fun w => by have:=uses_any f.k w;rwa [show usesV f.k = .tuple #[.agg #[.bool true,.bool true,.bool true,.bool false],.bool true] by rw [hk];rfl] at this
  have gl : ∀ w,Calls Tryd.prog 40 #[.agg #[.int .i64 f.k,.int .i64 f.fr,.int .i64 f.to_,.int .u64 f.mi,.int .u64 f.yo,.int .u64 f.a,.int .u64 f.b,.int .i64 f.ino,.int .u64 f.isq,.int .i64 f.iof,.int .i64 f.bno,.int .u64 f.bsq,.int .i64 f.bof,.int .i64 f.bde,.int .i64 f.bpr,.int .i64 f.bbo,.int .i64 f.bli,.int .i64 f.bto,.string f.da]] w fun e w' => e = .returned (.tuple #[.int .u64 0,.int .u64 f.a]) ∧ Below w.heap.size w w':=fun w => by have:=limits_any f w;rwa [show limV f = .tuple #[.int .u64 0,.int .u64 f.a] by unfold limV;rw [hk];rfl] at this
  have gb : ∀ w,Calls Tryd.prog 41 #[.agg #[.int .i64 f.bno,.int .u64 f.bsq,.int .i64 f.bof,.int .i64 f.bde,.int .i64 f.bpr,.int .i64 f.bbo,.int .i64 f.bli,.int .i64 f.bto,.string f.da]] w fun e w' => e = .returned (.int .i64 (bcF f)) ∧ Below w.heap.size w w':=fun w => by have:=check_any f.bno f.bsq f.bof f.bde f.bpr f.bbo f.bli f.bto f.da hda w;rwa [show buC f.bno f.bsq f.bof f.bde f.bpr f.bbo f.bli f.bto f.da.size = bcF f by unfold bcF;rw [if_pos hk];rfl] at this
  have E : ∀ w,Sem.run Tryd.prog (binOp BinOp.neq 29 (.agg #[.int .i64 f.k,.int .i64 f.fr,.int .i64 f.to_,.int .u64 f.mi,.int .u64 f.yo,.int .u64 f.a,.int .u64 f.b,.int .i64 0,.int .u64 0,.int .i64 0,.int .i64 f.bno,.int .u64 f.bsq,.int .i64 f.bof,.int .i64 f.bde,.int .i64 f.bpr,.int .i64 f.bbo,.int .i64 f.bli,.int .i64 f.bto,.string f.da]) (.agg #[.int .i64 f.k,.int .i64 f.fr,.int .i64 f.to_,.int .u64 f.mi,.int .u64 f.yo,.int .u64 f.a,.int .u64 f.b,.int .i64 f.ino,.int .u64 f.isq,.int .i64 f.iof,.int .i64 f.bno,.int .u64 f.bsq,.int .i64 f.bof,.int .i64 f.bde,.int .i64 f.bpr,.int .i64 f.bbo,.int .i64 f.bli,.int .i64 f.bto,.string f.da])) w = .ok (.bool (!decide (clnF f))) w:=fun w => by have:=run_frNe (bareF f) f w;rw [bare_eq f hk17] at this;rwa [show bareF f = ⟨f.k,f.fr,f.to_,f.mi,f.yo,f.a,f.b,0,0,0,f.bno,f.bsq,f.bof,f.bde,f.bpr,f.bbo,f.bli,f.bto,f.da⟩ by unfold bareF;rw [hk];rfl] at this
  by_cases hr : rngF f
  · have hfr : frC f = if bcF f ≠ 0 then bcF f else if clnF f then 0 else 3:=by unfold frC;rw [if_neg (not_not_intro hk17),if_neg (not_not_intro hr)]
    obtain ⟨r1,r2,r3,r4,r5,r6,r7,r8,r9,r10,r11,r12⟩:=hr
    have t1 : decide (f.fr < 1) = false:=decide_eq_false (by omega)
    have t2 : decide (16 < f.fr) = false:=decide_eq_false (by omega)
    have t3 : decide (f.to_ < 1) = false:=decide_eq_false (by omega)
    have t4 : decide (16 < f.to_) = false:=decide_eq_false (by omega)
    have t5 : (f.to_ == f.fr) = false:=by simp [r5]
    have t6 : decide (f.mi < 1) = false:=decide_eq_false (by omega)
    have t7 : decide (1099511627776 < f.mi) = false:=decide_eq_false (by omega)
    have t8 : decide (1099511627776 < f.yo) = false:=decide_eq_false (by omega)
    have t9 : decide (1125899906842624 < f.a) = false:=decide_eq_false (by have:=r9 (by omega);omega)
    have t10 : decide (f.b < 0) = false:=decide_eq_false (by omega)
    have t11 : decide (f.a < f.b) = false:=decide_eq_false (by have:=r10 hk;omega)
    clear r1 r2 r3 r4 r5 r6 r7 r8 r9 r10 r11 r12
    obtain ⟨v,hv⟩ : ∃ v,bcF f = v:=⟨_,rfl⟩
    rw [hv] at hfr gb
    clear hv
    rw [hfr]
    clear hfr hk hk17
    have hun : undef = Value.tuple #[]:=rfl
    by_cases hv0 : v = 0
    · subst hv0
      rw [if_neg (by simp)]
      replace gu:=Lib.hid gu;replace gl:=Lib.hid gl;replace gb:=Lib.hid gb
      obtain ⟨cl,hcl⟩ : ∃ q,(!decide (clnF f)) = q:=⟨_,rfl⟩
      rw [hcl] at E
      obtain ⟨R,hR⟩ : ∃ R,(if clnF f then (0 : Int) else 3) = R:=⟨_,rfl⟩
      have HT : Hid (cl = true → R = 3):=Lib.hid (fun h => by rw [← hR];exact if_neg (fun hc => by rw [decide_eq_true hc,h] at hcl;exact absurd hcl (by decide)))
      have HF : Hid (cl = false → R = 0):=Lib.hid (fun h => by rw [← hR];exact if_pos (Decidable.byContradiction fun hc => by rw [decide_eq_false hc,h] at hcl;exact absurd hcl (by decide)))
      rw [hR]
      clear hR hcl
      go_enter Tryd.func17,Tryd.ntmps17
      go_upto_region 4 with (go_at_call 25;(with_reducible refine (gu.out _).mono ?_);rintro e w1 ⟨rfl,h1⟩;have k1 : blk w1 w.heap.size = some #[.int .i64 f.k,.int .i64 f.fr,.int .i64 f.to_,.int .u64 f.mi,.int .u64 f.yo,.int .u64 f.a,.int .u64 f.b,.int .i64 f.ino,.int .u64 f.isq,.int .i64 f.iof,.int .i64 f.bno,.int .u64 f.bsq,.int .i64 f.bof,.int .i64 f.bde,.int .i64 f.bpr,.int .i64 f.bbo,.int .i64 f.bli,.int .i64 f.bto,.string f.da]:=(by (apply jt;(focus repeat(first|(with_reducible first|assumption|apply jd|apply js)|((with_reducible apply jo);first|focus(dsimp only;assumption)|focus(simp;done)|focus(dsimp only;omega))|((with_reducible apply jn);first|with_reducible rfl|focus(simp;done)|focus(simp;omega))|(with_reducible apply ja)|((with_reducible apply jb);with_reducible assumption)));rfl));have n1:=kn k1)
      refine wp_region_in0 ?_
      intro W0 hE hN
      have bW0 : Below w.heap.size w W0:=(by rw [hE.out];(repeat(first|(with_reducible first|assumption|exact Below.refl _ _|refine je ?_|refine jl ?_)|((with_reducible refine jp ?_ ?_);first|focus(dsimp only;assumption)|focus(simp;done)|focus(dsimp only;omega))|(with_reducible refine bt ?_ (by assumption)))))
      have kf0 : blk W0 w.heap.size = some #[.int .i64 f.k,.int .i64 f.fr,.int .i64 f.to_,.int .u64 f.mi,.int .u64 f.yo,.int .u64 f.a,.int .u64 f.b,.int .i64 f.ino,.int .u64 f.isq,.int .i64 f.iof,.int .i64 f.bno,.int .u64 f.bsq,.int .i64 f.bof,.int .i64 f.bde,.int .i64 f.bpr,.int .i64 f.bbo,.int .i64 f.bli,.int .i64 f.bto,.string f.da]:=(by rw [hE.out];(apply jt;(focus repeat(first|(with_reducible first|assumption|apply jd|apply js)|((with_reducible apply jo);first|focus(dsimp only;assumption)|focus(simp;done)|focus(dsimp only;omega))|((with_reducible apply jn);first|with_reducible rfl|focus(simp;done)|focus(simp;omega))|(with_reducible apply ja)|((with_reducible apply jb);with_reducible assumption)));rfl))
      have ku0 : blk W0 w1.heap.size = some #[.bool true,.bool true,.bool true,.bool false]:=(by rw [hE.out];(apply jt;(focus repeat(first|(with_reducible first|assumption|apply jd|apply js)|((with_reducible apply jo);first|focus(dsimp only;assumption)|focus(simp;done)|focus(dsimp only;omega))|((with_reducible apply jn);first|with_reducible rfl|focus(simp;done)|focus(simp;omega))|(with_reducible apply ja)|((with_reducible apply jb);with_reducible assumption)));rfl))
      have nf:=calm_kn kf0;have nu:=calm_kn ku0
      clear hE
      refine wpQuiet_load_blk 29 (.tmp 1) w.heap.size #[.int .i64 f.k,.int .i64 f.fr,.int .i64 f.to_,.int .u64 f.mi,.int .u64 f.yo,.int .u64 f.a,.int .u64 f.b,.int .i64 f.ino,.int .u64 f.isq,.int .i64 f.iof,.int .i64 f.bno,.int .u64 f.bsq,.int .i64 f.bof,.int .i64 f.bde,.int .i64 f.bpr,.int .i64 f.bbo,.int .i64 f.bli,.int .i64 f.bto,.string f.da] (fun W hW => by obtain ⟨x,rfl⟩:=hW;exact blk_below x.ok kf0) _ rfl rfl rfl Tryd.underlying29 rfl (by kernel_rfl) ?_
      conv => arg 6;simp [Act.put]
      repeat (go_big_quiet_step ((go_at_call 40;(with_reducible refine Class.go _ (gl.out _)))))
      refine wpQuiet_nil ?_
      rintro _ ⟨x,rfl⟩
      have b4 : Below w.heap.size w x.wd:=bt bW0 x.ok
      have k4 : blk x.wd w.heap.size = some #[.int .i64 f.k,.int .i64 f.fr,.int .i64 f.to_,.int .u64 f.mi,.int .u64 f.yo,.int .u64 f.a,.int .u64 f.b,.int .i64 f.ino,.int .u64 f.isq,.int .i64 f.iof,.int .i64 f.bno,.int .u64 f.bsq,.int .i64 f.bof,.int .i64 f.bde,.int .i64 f.bpr,.int .i64 f.bbo,.int .i64 f.bli,.int .i64 f.bto,.string f.da]:=blk_below x.ok kf0
      have u4 : blk x.wd w1.heap.size = some #[.bool true,.bool true,.bool true,.bool false]:=blk_below x.ok ku0
      clear nf nu kf0 ku0 bW0 hN n1 k1 h1
      generalize x.wd = w4 at *
      have n4:=kn k4;have q4:=kn u4
      go_upto_region 7 with fail
      refine wp_region_tail0 11 ?_
      intro W0 hE hN
      have bW0 : Below w.heap.size w W0:=(by rw [hE.out];(repeat(first|(with_reducible first|assumption|exact Below.refl _ _|refine je ?_|refine jl ?_)|((with_reducible refine jp ?_ ?_);first|focus(dsimp only;assumption)|focus(simp;done)|focus(dsimp only;omega))|(with_reducible refine bt ?_ (by assumption)))))
      have kf0 : blk W0 w.heap.size = some #[.int .i64 f.k,.int .i64 f.fr,.int .i64 f.to_,.int .u64 f.mi,.int .u64 f.yo,.int .u64 f.a,.int .u64 f.b,.int .i64 f.ino,.int .u64 f.isq,.int .i64 f.iof,.int .i64 f.bno,.int .u64 f.bsq,.int .i64 f.bof,.int .i64 f.bde,.int .i64 f.bpr,.int .i64 f.bbo,.int .i64 f.bli,.int .i64 f.bto,.string f.da]:=(by rw [hE.out];(apply jt;(focus repeat(first|(with_reducible first|assumption|apply jd|apply js)|((with_reducible apply jo);first|focus(dsimp only;assumption)|focus(simp;done)|focus(dsimp only;omega))|((with_reducible apply jn);first|with_reducible rfl|focus(simp;done)|focus(simp;omega))|(with_reducible apply ja)|((with_reducible apply jb);with_reducible assumption)));rfl))
      have ku0 : blk W0 w1.heap.size = some #[.bool true,.bool true,.bool true,.bool false]:=(by rw [hE.out];(apply jt;(focus repeat(first|(with_reducible first|assumption|apply jd|apply js)|((with_reducible apply jo);first|focus(dsimp only;assumption)|focus(simp;done)|focus(dsimp only;omega))|((with_reducible apply jn);first|with_reducible rfl|focus(simp;done)|focus(simp;omega))|(with_reducible apply ja)|((with_reducible apply jb);with_reducible assumption)));rfl))
      have nf:=calm_kn kf0
      clear hE
      simp only [List.take_succ_cons,List.take_zero,List.drop_succ_cons,List.drop_zero]
      repeat (go_big_quiet_step (fail))
      refine wpQuiet_nil ?_
      rintro _ ⟨x,rfl⟩
      have b6 : Below w.heap.size w x.wd:=bt bW0 x.ok
      have k6:=blk_below x.ok kf0
      have u6:=blk_below x.ok ku0
      clear nf kf0 ku0 bW0 hN n4 q4 k4 u4 b4
      generalize x.wd = w6 at *
      have s6:=b6.size;have lf:=blk_lt k6;have lu:=blk_lt u6
      conv => arg 5;simp [Act.put]
      refine Go.Great.wpList_allocTo rfl _ rfl (.pointer (some ⟨w6.heap.size,0,none⟩)) (.cells #[.int .i64 0,.int .i64 0,.int .i64 0,.int .u64 0,.int .u64 0,.int .u64 0,.int .u64 0,.int .i64 0,.int .u64 0,.int .i64 0,.int .i64 0,.int .u64 0,.int .i64 0,.int .i64 0,.int .i64 0,.int .i64 0,.int .i64 0,.int .i64 0,.string ⟨#[]⟩] 29) (by kernel_rfl) ?_
      conv => arg 5;simp [Act.put]
      refine wpList_store_blk 29 (.tmp 7) (.tmp 98) w6.heap.size #[.int .i64 0,.int .i64 0,.int .i64 0,.int .u64 0,.int .u64 0,.int .u64 0,.int .u64 0,.int .i64 0,.int .u64 0,.int .i64 0,.int .i64 0,.int .u64 0,.int .i64 0,.int .i64 0,.int .i64 0,.int .i64 0,.int .i64 0,.int .i64 0,.string ⟨#[]⟩] #[.int .i64 f.k,.int .i64 f.fr,.int .i64 f.to_,.int .u64 f.mi,.int .u64 f.yo,.int .u64 0,.int .u64 0,.int .i64 0,.int .u64 0,.int .i64 0,.int .i64 0,.int .u64 0,.int .i64 0,.int .i64 0,.int .i64 0,.int .i64 0,.int .i64 0,.int .i64 0,.string ⟨#[]⟩] (by (apply jt;(focus repeat(first|(with_reducible first|assumption|apply jd|apply js)|((with_reducible apply jo);first|focus(dsimp only;assumption)|focus(simp;done)|focus(dsimp only;omega))|((with_reducible apply jn);first|with_reducible rfl|focus(simp;done)|focus(simp;omega))|(with_reducible apply ja)|((with_reducible apply jb);with_reducible assumption)));rfl)) rfl rfl rfl rfl (by kernel_rfl) rfl (by kernel_rfl) ?_
      intro w5 kb5 o5 B5 s5
      have b5 : Below w.heap.size w w5:=B5 _ _ (by omega) (by (repeat(first|(with_reducible first|assumption|exact Below.refl _ _|refine je ?_|refine jl ?_)|((with_reducible refine jp ?_ ?_);first|focus(dsimp only;assumption)|focus(simp;done)|focus(dsimp only;omega))|(with_reducible refine bt ?_ (by assumption)))))
      have k5 : blk w5 w.heap.size = some #[.int .i64 f.k,.int .i64 f.fr,.int .i64 f.to_,.int .u64 f.mi,.int .u64 f.yo,.int .u64 f.a,.int .u64 f.b,.int .i64 f.ino,.int .u64 f.isq,.int .i64 f.iof,.int .i64 f.bno,.int .u64 f.bsq,.int .i64 f.bof,.int .i64 f.bde,.int .i64 f.bpr,.int .i64 f.bbo,.int .i64 f.bli,.int .i64 f.bto,.string f.da]:=o5 _ _ (by omega) (by (apply jt;(focus repeat(first|(with_reducible first|assumption|apply jd|apply js)|((with_reducible apply jo);first|focus(dsimp only;assumption)|focus(simp;done)|focus(dsimp only;omega))|((with_reducible apply jn);first|with_reducible rfl|focus(simp;done)|focus(simp;omega))|(with_reducible apply ja)|((with_reducible apply jb);with_reducible assumption)));rfl))
      have u5 : blk w5 w1.heap.size = some #[.bool true,.bool true,.bool true,.bool false]:=o5 _ _ (by omega) (by (apply jt;(focus repeat(first|(with_reducible first|assumption|apply jd|apply js)|((with_reducible apply jo);first|focus(dsimp only;assumption)|focus(simp;done)|focus(dsimp only;omega))|((with_reducible apply jn);first|with_reducible rfl|focus(simp;done)|focus(simp;omega))|(with_reducible apply ja)|((with_reducible apply jb);with_reducible assumption)));rfl))
      clear k6 u6 b6 o5 B5
      have nb5:=kn kb5;have n5:=kn k5;have q5:=kn u5
      conv => arg 5;simp [Act.put]
      go_upto_region 22 with (go_at_call 41;(with_reducible refine (gb.out _).mono ?_);rintro e w3 ⟨rfl,h3⟩;have k3 : blk w3 w.heap.size = some #[.int .i64 f.k,.int .i64 f.fr,.int .i64 f.to_,.int .u64 f.mi,.int .u64 f.yo,.int .u64 f.a,.int .u64 f.b,.int .i64 f.ino,.int .u64 f.isq,.int .i64 f.iof,.int .i64 f.bno,.int .u64 f.bsq,.int .i64 f.bof,.int .i64 f.bde,.int .i64 f.bpr,.int .i64 f.bbo,.int .i64 f.bli,.int .i64 f.bto,.string f.da]:=(by (apply jt;(focus repeat(first|(with_reducible first|assumption|apply jd|apply js)|((with_reducible apply jo);first|focus(dsimp only;assumption)|focus(simp;done)|focus(dsimp only;omega))|((with_reducible apply jn);first|with_reducible rfl|focus(simp;done)|focus(simp;omega))|(with_reducible apply ja)|((with_reducible apply jb);with_reducible assumption)));rfl));have u3 : blk w3 w1.heap.size = some #[.bool true,.bool true,.bool true,.bool false]:=(by (apply jt;(focus repeat(first|(with_reducible first|assumption|apply jd|apply js)|((with_reducible apply jo);first|focus(dsimp only;assumption)|focus(simp;done)|focus(dsimp only;omega))|((with_reducible apply jn);first|with_reducible rfl|focus(simp;done)|focus(simp;omega))|(with_reducible apply ja)|((with_reducible apply jb);with_reducible assumption)));rfl));have x3 : blk w3 w6.heap.size = some #[.int .i64 f.k,.int .i64 f.fr,.int .i64 f.to_,.int .u64 f.mi,.int .u64 f.yo,.int .u64 f.a,.int .u64 f.b,.int .i64 0,.int .u64 0,.int .i64 0,.int .i64 f.bno,.int .u64 f.bsq,.int .i64 f.bof,.int .i64 f.bde,.int .i64 f.bpr,.int .i64 f.bbo,.int .i64 f.bli,.int .i64 f.bto,.string f.da]:=(by (apply jt;(focus repeat(first|(with_reducible first|assumption|apply jd|apply js)|((with_reducible apply jo);first|focus(dsimp only;assumption)|focus(simp;done)|focus(dsimp only;omega))|((with_reducible apply jn);first|with_reducible rfl|focus(simp;done)|focus(simp;omega))|(with_reducible apply ja)|((with_reducible apply jb);with_reducible assumption)));kernel_rfl));have n3:=kn k3;have q3:=kn u3;have y3:=kn x3;have b3 : Below w.heap.size w w3:=(by (repeat(first|(with_reducible first|assumption|exact Below.refl _ _|refine je ?_|refine jl ?_)|((with_reducible refine jp ?_ ?_);first|focus(dsimp only;assumption)|focus(simp;done)|focus(dsimp only;omega))|(with_reducible refine bt ?_ (by assumption)))));have s3:=b3.size)
      refine wp_fresh w6.heap.size w.heap.size #[.int .i64 f.k,.int .i64 f.fr,.int .i64 f.to_,.int .u64 f.mi,.int .u64 f.yo,.int .u64 f.a,.int .u64 f.b,.int .i64 0,.int .u64 0,.int .i64 0,.int .i64 f.bno,.int .u64 f.bsq,.int .i64 f.bof,.int .i64 f.bde,.int .i64 f.bpr,.int .i64 f.bbo,.int .i64 f.bli,.int .i64 f.bto,.string f.da] #[.int .i64 f.k,.int .i64 f.fr,.int .i64 f.to_,.int .u64 f.mi,.int .u64 f.yo,.int .u64 f.a,.int .u64 f.b,.int .i64 f.ino,.int .u64 f.isq,.int .i64 f.iof,.int .i64 f.bno,.int .u64 f.bsq,.int .i64 f.bof,.int .i64 f.bde,.int .i64 f.bpr,.int .i64 f.bbo,.int .i64 f.bli,.int .i64 f.bto,.string f.da] (by (apply jt;(focus repeat(first|(with_reducible first|assumption|apply jd|apply js)|((with_reducible apply jo);first|focus(dsimp only;assumption)|focus(simp;done)|focus(dsimp only;omega))|((with_reducible apply jn);first|with_reducible rfl|focus(simp;done)|focus(simp;omega))|(with_reducible apply ja)|((with_reducible apply jb);with_reducible assumption)));rfl)) (by (apply jt;(focus repeat(first|(with_reducible first|assumption|apply jd|apply js)|((with_reducible apply jo);first|focus(dsimp only;assumption)|focus(simp;done)|focus(dsimp only;omega))|((with_reducible apply jn);first|with_reducible rfl|focus(simp;done)|focus(simp;omega))|(with_reducible apply ja)|((with_reducible apply jb);with_reducible assumption)));rfl)) (show Below w.heap.size w _ by (repeat(first|(with_reducible first|assumption|exact Below.refl _ _|refine je ?_|refine jl ?_)|((with_reducible refine jp ?_ ?_);first|focus(dsimp only;assumption)|focus(simp;done)|focus(dsimp only;omega))|(with_reducible refine bt ?_ (by assumption))))) ?_
      intro w9 kb kf bw9
      refine wp_region_lit ?_
      refine wpList_load_blk 29 (.tmp 7) w6.heap.size #[.int .i64 f.k,.int .i64 f.fr,.int .i64 f.to_,.int .u64 f.mi,.int .u64 f.yo,.int .u64 f.a,.int .u64 f.b,.int .i64 0,.int .u64 0,.int .i64 0,.int .i64 f.bno,.int .u64 f.bsq,.int .i64 f.bof,.int .i64 f.bde,.int .i64 f.bpr,.int .i64 f.bbo,.int .i64 f.bli,.int .i64 f.bto,.string f.da] kb _ rfl rfl rfl Tryd.underlying29 rfl (by kernel_rfl) ?_
      refine wpList_load_blk 29 (.tmp 1) w.heap.size #[.int .i64 f.k,.int .i64 f.fr,.int .i64 f.to_,.int .u64 f.mi,.int .u64 f.yo,.int .u64 f.a,.int .u64 f.b,.int .i64 f.ino,.int .u64 f.isq,.int .i64 f.iof,.int .i64 f.bno,.int .u64 f.bsq,.int .i64 f.bof,.int .i64 f.bde,.int .i64 f.bpr,.int .i64 f.bbo,.int .i64 f.bli,.int .i64 f.bto,.string f.da] kf _ rfl rfl rfl Tryd.underlying29 rfl (by kernel_rfl) ?_
      conv => arg 5;simp [Act.put]
      cases cl
      · go_wp2
        go_ret
        exact ⟨ret_int (HF.out (by first|rfl|trivial)).symm,bw9⟩
      · go_wp2
        go_ret
        exact ⟨ret_int (HT.out (by first|rfl|trivial)).symm,bw9⟩
    · rw [if_pos hv0]
      have hv1 : (v != 0) = true:=by simp [hv0]
      clear hv0
      replace gu:=Lib.hid gu;replace gl:=Lib.hid gl;replace gb:=Lib.hid gb
      clear E
      go_enter Tryd.func17,Tryd.ntmps17
      go_upto_region 4 with (go_at_call 25;(with_reducible refine (gu.out _).mono ?_);rintro e w1 ⟨rfl,h1⟩;have k1 : blk w1 w.heap.size = some #[.int .i64 f.k,.int .i64 f.fr,.int .i64 f.to_,.int .u64 f.mi,.int .u64 f.yo,.int .u64 f.a,.int .u64 f.b,.int .i64 f.ino,.int .u64 f.isq,.int .i64 f.iof,.int .i64 f.bno,.int .u64 f.bsq,.int .i64 f.bof,.int .i64 f.bde,.int .i64 f.bpr,.int .i64 f.bbo,.int .i64 f.bli,.int .i64 f.bto,.string f.da]:=(by (apply jt;(focus repeat(first|(with_reducible first|assumption|apply jd|apply js)|((with_reducible apply jo);first|focus(dsimp only;assumption)|focus(simp;done)|focus(dsimp only;omega))|((with_reducible apply jn);first|with_reducible rfl|focus(simp;done)|focus(simp;omega))|(with_reducible apply ja)|((with_reducible apply jb);with_reducible assumption)));rfl));have n1:=kn k1)
      refine wp_region_in0 ?_
      intro W0 hE hN
      have bW0 : Below w.heap.size w W0:=(by rw [hE.out];(repeat(first|(with_reducible first|assumption|exact Below.refl _ _|refine je ?_|refine jl ?_)|((with_reducible refine jp ?_ ?_);first|focus(dsimp only;assumption)|focus(simp;done)|focus(dsimp only;omega))|(with_reducible refine bt ?_ (by assumption)))))
      have kf0 : blk W0 w.heap.size = some #[.int .i64 f.k,.int .i64 f.fr,.int .i64 f.to_,.int .u64 f.mi,.int .u64 f.yo,.int .u64 f.a,.int .u64 f.b,.int .i64 f.ino,.int .u64 f.isq,.int .i64 f.iof,.int .i64 f.bno,.int .u64 f.bsq,.int .i64 f.bof,.int .i64 f.bde,.int .i64 f.bpr,.int .i64 f.bbo,.int .i64 f.bli,.int .i64 f.bto,.string f.da]:=(by rw [hE.out];(apply jt;(focus repeat(first|(with_reducible first|assumption|apply jd|apply js)|((with_reducible apply jo);first|focus(dsimp only;assumption)|focus(simp;done)|focus(dsimp only;omega))|((with_reducible apply jn);first|with_reducible rfl|focus(simp;done)|focus(simp;omega))|(with_reducible apply ja)|((with_reducible apply jb);with_reducible assumption)));rfl))
      have ku0 : blk W0 w1.heap.size = some #[.bool true,.bool true,.bool true,.bool false]:=(by rw [hE.out];(apply jt;(focus repeat(first|(with_reducible first|assumption|apply jd|apply js)|((with_reducible apply jo);first|focus(dsimp only;assumption)|focus(simp;done)|focus(dsimp only;omega))|((with_reducible apply jn);first|with_reducible rfl|focus(simp;done)|focus(simp;omega))|(with_reducible apply ja)|((with_reducible apply jb);with_reducible assumption)));rfl))
      have nf:=calm_kn kf0;have nu:=calm_kn ku0
      clear hE
      refine wpQuiet_load_blk 29 (.tmp 1) w.heap.size #[.int .i64 f.k,.int .i64 f.fr,.int .i64 f.to_,.int .u64 f.mi,.int .u64 f.yo,.int .u64 f.a,.int .u64 f.b,.int .i64 f.ino,.int .u64 f.isq,.int .i64 f.iof,.int .i64 f.bno,.int .u64 f.bsq,.int .i64 f.bof,.int .i64 f.bde,.int .i64 f.bpr,.int .i64 f.bbo,.int .i64 f.bli,.int .i64 f.bto,.string f.da] (fun W hW => by obtain ⟨x,rfl⟩:=hW;exact blk_below x.ok kf0) _ rfl rfl rfl Tryd.underlying29 rfl (by kernel_rfl) ?_
      conv => arg 6;simp [Act.put]
      repeat (go_big_quiet_step ((go_at_call 40;(with_reducible refine Class.go _ (gl.out _)))))
      refine wpQuiet_nil ?_
      rintro _ ⟨x,rfl⟩
      have b4 : Below w.heap.size w x.wd:=bt bW0 x.ok
      have k4 : blk x.wd w.heap.size = some #[.int .i64 f.k,.int .i64 f.fr,.int .i64 f.to_,.int .u64 f.mi,.int .u64 f.yo,.int .u64 f.a,.int .u64 f.b,.int .i64 f.ino,.int .u64 f.isq,.int .i64 f.iof,.int .i64 f.bno,.int .u64 f.bsq,.int .i64 f.bof,.int .i64 f.bde,.int .i64 f.bpr,.int .i64 f.bbo,.int .i64 f.bli,.int .i64 f.bto,.string f.da]:=blk_below x.ok kf0
      have u4 : blk x.wd w1.heap.size = some #[.bool true,.bool true,.bool true,.bool false]:=blk_below x.ok ku0
      clear nf nu kf0 ku0 bW0 hN n1 k1 h1
      generalize x.wd = w4 at *
      have n4:=kn k4;have q4:=kn u4
      go_upto_region 7 with fail
      refine wp_region_tail0 11 ?_
      intro W0 hE hN
      have bW0 : Below w.heap.size w W0:=(by rw [hE.out];(repeat(first|(with_reducible first|assumption|exact Below.refl _ _|refine je ?_|refine jl ?_)|((with_reducible refine jp ?_ ?_);first|focus(dsimp only;assumption)|focus(simp;done)|focus(dsimp only;omega))|(with_reducible refine bt ?_ (by assumption)))))
      have kf0 : blk W0 w.heap.size = some #[.int .i64 f.k,.int .i64 f.fr,.int .i64 f.to_,.int .u64 f.mi,.int .u64 f.yo,.int .u64 f.a,.int .u64 f.b,.int .i64 f.ino,.int .u64 f.isq,.int .i64 f.iof,.int .i64 f.bno,.int .u64 f.bsq,.int .i64 f.bof,.int .i64 f.bde,.int .i64 f.bpr,.int .i64 f.bbo,.int .i64 f.bli,.int .i64 f.bto,.string f.da]:=(by rw [hE.out];(apply jt;(focus repeat(first|(with_reducible first|assumption|apply jd|apply js)|((with_reducible apply jo);first|focus(dsimp only;assumption)|focus(simp;done)|focus(dsimp only;omega))|((with_reducible apply jn);first|with_reducible rfl|focus(simp;done)|focus(simp;omega))|(with_reducible apply ja)|((with_reducible apply jb);with_reducible assumption)));rfl))
      have ku0 : blk W0 w1.heap.size = some #[.bool true,.bool true,.bool true,.bool false]:=(by rw [hE.out];(apply jt;(focus repeat(first|(with_reducible first|assumption|apply jd|apply js)|((with_reducible apply jo);first|focus(dsimp only;assumption)|focus(simp;done)|focus(dsimp only;omega))|((with_reducible apply jn);first|with_reducible rfl|focus(simp;done)|focus(simp;omega))|(with_reducible apply ja)|((with_reducible apply jb);with_reducible assumption)));rfl))
      have nf:=calm_kn kf0
      clear hE
      simp only [List.take_succ_cons,List.take_zero,List.drop_succ_cons,List.drop_zero]
      repeat (go_big_quiet_step (fail))
      refine wpQuiet_nil ?_
      rintro _ ⟨x,rfl⟩
      have b6 : Below w.heap.size w x.wd:=bt bW0 x.ok
      have k6:=blk_below x.ok kf0
      have u6:=blk_below x.ok ku0
      clear nf kf0 ku0 bW0 hN n4 q4 k4 u4 b4
      generalize x.wd = w6 at *
      have s6:=b6.size;have lf:=blk_lt k6;have lu:=blk_lt u6
      conv => arg 5;simp [Act.put]
      refine Go.Great.wpList_allocTo rfl _ rfl (.pointer (some ⟨w6.heap.size,0,none⟩)) (.cells #[.int .i64 0,.int .i64 0,.int .i64 0,.int .u64 0,.int .u64 0,.int .u64 0,.int .u64 0,.int .i64 0,.int .u64 0,.int .i64 0,.int .i64 0,.int .u64 0,.int .i64 0,.int .i64 0,.int .i64 0,.int .i64 0,.int .i64 0,.int .i64 0,.string ⟨#[]⟩] 29) (by kernel_rfl) ?_
      conv => arg 5;simp [Act.put]
      refine wpList_store_blk 29 (.tmp 7) (.tmp 98) w6.heap.size #[.int .i64 0,.int .i64 0,.int .i64 0,.int .u64 0,.int .u64 0,.int .u64 0,.int .u64 0,.int .i64 0,.int .u64 0,.int .i64 0,.int .i64 0,.int .u64 0,.int .i64 0,.int .i64 0,.int .i64 0,.int .i64 0,.int .i64 0,.int .i64 0,.string ⟨#[]⟩] #[.int .i64 f.k,.int .i64 f.fr,.int .i64 f.to_,.int .u64 f.mi,.int .u64 f.yo,.int .u64 0,.int .u64 0,.int .i64 0,.int .u64 0,.int .i64 0,.int .i64 0,.int .u64 0,.int .i64 0,.int .i64 0,.int .i64 0,.int .i64 0,.int .i64 0,.int .i64 0,.string ⟨#[]⟩] (by (apply jt;(focus repeat(first|(with_reducible first|assumption|apply jd|apply js)|((with_reducible apply jo);first|focus(dsimp only;assumption)|focus(simp;done)|focus(dsimp only;omega))|((with_reducible apply jn);first|with_reducible rfl|focus(simp;done)|focus(simp;omega))|(with_reducible apply ja)|((with_reducible apply jb);with_reducible assumption)));rfl)) rfl rfl rfl rfl (by kernel_rfl) rfl (by kernel_rfl) ?_
      intro w5 kb5 o5 B5 s5
      have b5 : Below w.heap.size w w5:=B5 _ _ (by omega) (by (repeat(first|(with_reducible first|assumption|exact Below.refl _ _|refine je ?_|refine jl ?_)|((with_reducible refine jp ?_ ?_);first|focus(dsimp only;assumption)|focus(simp;done)|focus(dsimp only;omega))|(with_reducible refine bt ?_ (by assumption)))))
      have k5 : blk w5 w.heap.size = some #[.int .i64 f.k,.int .i64 f.fr,.int .i64 f.to_,.int .u64 f.mi,.int .u64 f.yo,.int .u64 f.a,.int .u64 f.b,.int .i64 f.ino,.int .u64 f.isq,.int .i64 f.iof,.int .i64 f.bno,.int .u64 f.bsq,.int .i64 f.bof,.int .i64 f.bde,.int .i64 f.bpr,.int .i64 f.bbo,.int .i64 f.bli,.int .i64 f.bto,.string f.da]:=o5 _ _ (by omega) (by (apply jt;(focus repeat(first|(with_reducible first|assumption|apply jd|apply js)|((with_reducible apply jo);first|focus(dsimp only;assumption)|focus(simp;done)|focus(dsimp only;omega))|((with_reducible apply jn);first|with_reducible rfl|focus(simp;done)|focus(simp;omega))|(with_reducible apply ja)|((with_reducible apply jb);with_reducible assumption)));rfl))
      have u5 : blk w5 w1.heap.size = some #[.bool true,.bool true,.bool true,.bool false]:=o5 _ _ (by omega) (by (apply jt;(focus repeat(first|(with_reducible first|assumption|apply jd|apply js)|((with_reducible apply jo);first|focus(dsimp only;assumption)|focus(simp;done)|focus(dsimp only;omega))|((with_reducible apply jn);first|with_reducible rfl|focus(simp;done)|focus(simp;omega))|(with_reducible apply ja)|((with_reducible apply jb);with_reducible assumption)));rfl))
      clear k6 u6 b6 o5 B5
      have nb5:=kn kb5;have n5:=kn k5;have q5:=kn u5
      conv => arg 5;simp [Act.put]
      go_wp2_with (go_at_call 41;(with_reducible refine (gb.out _).mono ?_);rintro e w3 ⟨rfl,h3⟩;have k3 : blk w3 w.heap.size = some #[.int .i64 f.k,.int .i64 f.fr,.int .i64 f.to_,.int .u64 f.mi,.int .u64 f.yo,.int .u64 f.a,.int .u64 f.b,.int .i64 f.ino,.int .u64 f.isq,.int .i64 f.iof,.int .i64 f.bno,.int .u64 f.bsq,.int .i64 f.bof,.int .i64 f.bde,.int .i64 f.bpr,.int .i64 f.bbo,.int .i64 f.bli,.int .i64 f.bto,.string f.da]:=(by (apply jt;(focus repeat(first|(with_reducible first|assumption|apply jd|apply js)|((with_reducible apply jo);first|focus(dsimp only;assumption)|focus(simp;done)|focus(dsimp only;omega))|((with_reducible apply jn);first|with_reducible rfl|focus(simp;done)|focus(simp;omega))|(with_reducible apply ja)|((with_reducible apply jb);with_reducible assumption)));rfl));have u3 : blk w3 w1.heap.size = some #[.bool true,.bool true,.bool true,.bool false]:=(by (apply jt;(focus repeat(first|(with_reducible first|assumption|apply jd|apply js)|((with_reducible apply jo);first|focus(dsimp only;assumption)|focus(simp;done)|focus(dsimp only;omega))|((with_reducible apply jn);first|with_reducible rfl|focus(simp;done)|focus(simp;omega))|(with_reducible apply ja)|((with_reducible apply jb);with_reducible assumption)));rfl));have x3 : blk w3 w6.heap.size = some #[.int .i64 f.k,.int .i64 f.fr,.int .i64 f.to_,.int .u64 f.mi,.int .u64 f.yo,.int .u64 f.a,.int .u64 f.b,.int .i64 0,.int .u64 0,.int .i64 0,.int .i64 f.bno,.int .u64 f.bsq,.int .i64 f.bof,.int .i64 f.bde,.int .i64 f.bpr,.int .i64 f.bbo,.int .i64 f.bli,.int .i64 f.bto,.string f.da]:=(by (apply jt;(focus repeat(first|(with_reducible first|assumption|apply jd|apply js)|((with_reducible apply jo);first|focus(dsimp only;assumption)|focus(simp;done)|focus(dsimp only;omega))|((with_reducible apply jn);first|with_reducible rfl|focus(simp;done)|focus(simp;omega))|(with_reducible apply ja)|((with_reducible apply jb);with_reducible assumption)));kernel_rfl));have n3:=kn k3;have q3:=kn u3;have y3:=kn x3;have b3 : Below w.heap.size w w3:=(by (repeat(first|(with_reducible first|assumption|exact Below.refl _ _|refine je ?_|refine jl ?_)|((with_reducible refine jp ?_ ?_);first|focus(dsimp only;assumption)|focus(simp;done)|focus(dsimp only;omega))|(with_reducible refine bt ?_ (by assumption)))));have s3:=b3.size)
      go_ret
      exact ⟨rfl,by (repeat(first|(with_reducible first|assumption|exact Below.refl _ _|refine je ?_|refine jl ?_)|((with_reducible refine jp ?_ ?_);first|focus(dsimp only;assumption)|focus(simp;done)|focus(dsimp only;omega))|(with_reducible refine bt ?_ (by assumption))))⟩
  · rw [frC_two hk17 (.inl hr)]
    by_cases n1 : f.fr < 1
    · exact check_b1 f true true true false 0 (f.a) w gu gl  n1
    by_cases n2 : 16 < f.fr
    · exact check_b2 f true true true false 0 (f.a) w gu gl n1 n2
    by_cases n3 : f.to_ < 1
    · exact check_b3 f true true true false 0 (f.a) w gu gl n1 n2 n3
    by_cases n4 : 16 < f.to_
    · exact check_b4 f true true true false 0 (f.a) w gu gl n1 n2 n3 n4
    by_cases n5 : f.to_ = f.fr
    · exact check_b5 f true true true false 0 (f.a) w gu gl n1 n2 n3 n4 n5
    by_cases n6 : f.mi < 1
    · exact check_b6 f true true true false 0 (f.a) w gu gl n1 n2 n3 n4 n5 n6
    by_cases n7 : 1099511627776 < f.mi
    · exact check_b7 f true true true false 0 (f.a) w gu gl n1 n2 n3 n4 n5 n6 n7
    by_cases n8 : 1099511627776 < f.yo
    · exact check_b8 f true true true false 0 (f.a) w gu gl n1 n2 n3 n4 n5 n6 n7 n8
    by_cases n9 : 1125899906842624 < f.a
    · exact check_b9 f true true false 0 (f.a) w gu gl n1 n2 n3 n4 n5 n6 n7 n8 n9
    by_cases n10 : f.b < 0
    · exact check_b10 f true false 0 (f.a) w gu gl n1 n2 n3 n4 n5 n6 n7 n8 n9 n10
    by_cases n11 : f.a < f.b
    · exact check_b11 f true false 0 (f.a) w gu gl n1 n2 n3 n4 n5 n6 n7 n8 n9 n10 n11
    exact absurd ⟨by omega,by omega,by omega,by omega,n5,by omega,by omega,by omega,by omega,by omega,by omega,by omega⟩ hr
end Go.Proofs.YtaiofjffoboicaaDoor
