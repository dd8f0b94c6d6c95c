/- Parts of a proof, printed by a program of mine out of my texts: FrRChk3, FrRChk5, FrRChk6. -/
import Derived.Deep.Cut
import Derived.Test.YtaiofjffoboicaaGreatDoorCFrRChkBad
set_option linter.unusedSimpArgs false
set_option linter.unusedVariables false
namespace Go.Proofs.YtaiofjffoboicaaGreatDoor
open Go.RowKit
set_option maxRecDepth 100000 in
set_option maxHeartbeats 6400000 in
theorem rcheck_k3 (f : Fr) (hk : f.k = 3) (hda : f.da.size ≤ maxLen) (w : World) : Calls Tryz.prog 12 #[frv f] w fun e w' => e = .returned (.int .i64 (frC f)) ∧ Below w.heap.size w w':=by
  have hk17 : 1 ≤ f.k ∧ f.k ≤ 7:=by omega
  have gb : ∀ w,Calls Tryz.prog 33 #[.agg #[.int .i64 f.bno,.int .u64 f.bsq,.int .i64 f.bof,.int .i64 f.bde,.int .i64 f.bpr,.int .i64 f.bbo,.int .i64 f.bli,.int .i64 f.bto,.string f.da]] w fun e w' => e = .returned (.int .i64 (bcF f)) ∧ Below w.heap.size w w':=fun w => by have:=refCheck_any f.bno f.bsq f.bof f.bde f.bpr f.bbo f.bli f.bto f.da hda w;rwa [show buC f.bno f.bsq f.bof f.bde f.bpr f.bbo f.bli f.bto f.da.size = bcF f by unfold bcF;rw [if_pos hk];rfl] at this
  have gi : ∀ w,Calls Tryz.prog 28 #[.int .i64 f.k] w fun e w' => e = .returned (.bool false) ∧ w = w':=fun w => by have:=refHasID_any f.k w;rwa [show hasI f.k = false by rw [hk];rfl] at this
  have gs : ∀ w,Calls Tryz.prog 35 #[.agg #[.int .i64 f.k,.int .i64 f.fr,.int .i64 f.to_,.int .u64 f.mi,.int .u64 f.yo,.int .u64 f.a,.int .u64 f.b,.int .i64 f.ino,.int .u64 f.isq,.int .i64 f.iof,.int .i64 f.bno,.int .u64 f.bsq,.int .i64 f.bof,.int .i64 f.bde,.int .i64 f.bpr,.int .i64 f.bbo,.int .i64 f.bli,.int .i64 f.bto,.string f.da]] w fun e w' => e = .returned (.agg #[.int .i64 f.k,.int .i64 f.fr,.int .i64 f.to_,.int .u64 f.mi,.int .u64 f.yo,.int .u64 f.a,.int .u64 f.b,.int .i64 0,.int .u64 0,.int .i64 0,.int .i64 f.bno,.int .u64 f.bsq,.int .i64 f.bof,.int .i64 f.bde,.int .i64 f.bpr,.int .i64 f.bbo,.int .i64 f.bli,.int .i64 f.bto,.string f.da]) ∧ Below w.heap.size w w':=fun w => refUsed_k3 f hk w
  have E : ∀ w,Sem.run Tryz.prog (binOp BinOp.neq 28 (.agg #[.int .i64 f.k,.int .i64 f.fr,.int .i64 f.to_,.int .u64 f.mi,.int .u64 f.yo,.int .u64 f.a,.int .u64 f.b,.int .i64 0,.int .u64 0,.int .i64 0,.int .i64 f.bno,.int .u64 f.bsq,.int .i64 f.bof,.int .i64 f.bde,.int .i64 f.bpr,.int .i64 f.bbo,.int .i64 f.bli,.int .i64 f.bto,.string f.da]) (.agg #[.int .i64 f.k,.int .i64 f.fr,.int .i64 f.to_,.int .u64 f.mi,.int .u64 f.yo,.int .u64 f.a,.int .u64 f.b,.int .i64 f.ino,.int .u64 f.isq,.int .i64 f.iof,.int .i64 f.bno,.int .u64 f.bsq,.int .i64 f.bof,.int .i64 f.bde,.int .i64 f.bpr,.int .i64 f.bbo,.int .i64 f.bli,.int .i64 f.bto,.string f.da])) w = .ok (.bool (!decide (clnF f))) w:=fun w => by have:=run_frNe (bareF f) f w;rw [bare_eq f hk17] at this;rwa [show bareF f = ⟨f.k,f.fr,f.to_,f.mi,f.yo,f.a,f.b,0,0,0,f.bno,f.bsq,f.bof,f.bde,f.bpr,f.bbo,f.bli,f.bto,f.da⟩ by unfold bareF;rw [hk];rfl] at this
  by_cases hr : rngF f
  · have hfr : frC f = if bcF f ≠ 0 then bcF f else if clnF f then 0 else 3:=by unfold frC;rw [if_neg (not_not_intro hk17),if_neg (not_not_intro hr)]
    obtain ⟨r1,r2,r3,r4,r5,r6,r7,r8,r9,r10,r11,r12⟩:=hr
    have hwr : wrgB f = false:=by unfold wrgB;simp only [decide_eq_false_iff_not];omega
    have gw : ∀ w,Calls Tryz.prog 32 #[.agg #[.int .i64 f.k,.int .i64 f.fr,.int .i64 f.to_,.int .u64 f.mi,.int .u64 f.yo,.int .u64 f.a,.int .u64 f.b,.int .i64 f.ino,.int .u64 f.isq,.int .i64 f.iof,.int .i64 f.bno,.int .u64 f.bsq,.int .i64 f.bof,.int .i64 f.bde,.int .i64 f.bpr,.int .i64 f.bbo,.int .i64 f.bli,.int .i64 f.bto,.string f.da]] w fun e w' => e = .returned (.bool false) ∧ Below w.heap.size w w':=fun w => by have:=refWrongB_any f w;rwa [hwr] at this
    have kk1 : decide (f.k < 1) = false:=decide_eq_false (by omega)
    have kk7 : decide (7 < f.k) = false:=decide_eq_false (by omega)
    have t1 : decide (f.fr < 1) = false:=decide_eq_false (by omega)
    have t2 : decide (16 < f.fr) = false:=decide_eq_false (by omega)
    have t3 : decide (f.to_ < 1) = false:=decide_eq_false (by omega)
    have t4 : decide (16 < f.to_) = false:=decide_eq_false (by omega)
    have t5 : (f.fr == f.to_) = false:=by simp;omega
    have t6 : decide (f.mi < 1) = false:=decide_eq_false (by omega)
    have t7 : decide (1099511627776 < f.mi) = false:=decide_eq_false (by omega)
    have t8 : decide (1099511627776 < f.yo) = false:=decide_eq_false (by omega)
    have a1 : (f.k != 1) = true:=by simp [hk]
    have a2 : decide (1125899906842624 < f.a) = false:=decide_eq_false (by have:=r9 (by omega);omega)
    have e3 : (f.k == 3) = true:=by simp [hk]
    clear r1 r2 r3 r4 r5 r6 r7 r8 r9 r10 r11 r12 hwr
    obtain ⟨v,hv⟩ : ∃ v,bcF f = v:=⟨_,rfl⟩
    rw [hv] at hfr gb
    clear hv
    rw [hfr]
    clear hfr hk hk17
    have hun : undef = Value.tuple #[]:=rfl
    by_cases hv0 : v = 0
    · subst hv0
      rw [if_neg (by simp)]
      replace gw:=Lib.hid gw;replace gi:=Lib.hid gi;replace gs:=Lib.hid gs;replace gb:=Lib.hid gb
      obtain ⟨cl,hcl⟩ : ∃ q,(!decide (clnF f)) = q:=⟨_,rfl⟩
      rw [hcl] at E
      obtain ⟨R,hR⟩ : ∃ R,(if clnF f then (0 : Int) else 3) = R:=⟨_,rfl⟩
      have HT : Hid (cl = true → R = 3):=Lib.hid (fun h => by rw [← hR];exact if_neg (fun hc => by rw [decide_eq_true hc,h] at hcl;exact absurd hcl (by decide)))
      have HF : Hid (cl = false → R = 0):=Lib.hid (fun h => by rw [← hR];exact if_pos (Decidable.byContradiction fun hc => by rw [decide_eq_false hc,h] at hcl;exact absurd hcl (by decide)))
      rw [hR]
      clear hR hcl
      go_enter Tryz.func12,Tryz.ntmps12
      go_upto_region 3 with fail
      refine wp_region_in0 ?_
      intro W0 hE hN
      have bW0 : Below w.heap.size w W0:=(by rw [hE.out];(repeat(first|(with_reducible first|assumption|exact Below.refl _ _|refine je ?_|refine jl ?_)|((with_reducible refine jp ?_ ?_);first|focus(dsimp only;assumption)|focus(simp;done)|focus(dsimp only;omega))|(with_reducible refine bt ?_ (by assumption)))))
      have kf0 : blk W0 w.heap.size = some #[.int .i64 f.k,.int .i64 f.fr,.int .i64 f.to_,.int .u64 f.mi,.int .u64 f.yo,.int .u64 f.a,.int .u64 f.b,.int .i64 f.ino,.int .u64 f.isq,.int .i64 f.iof,.int .i64 f.bno,.int .u64 f.bsq,.int .i64 f.bof,.int .i64 f.bde,.int .i64 f.bpr,.int .i64 f.bbo,.int .i64 f.bli,.int .i64 f.bto,.string f.da]:=(by rw [hE.out];(apply jt;(focus repeat(first|(with_reducible first|assumption|apply jd|apply js)|((with_reducible apply jo);first|focus(dsimp only;assumption)|focus(simp;done)|focus(dsimp only;omega))|((with_reducible apply jn);first|with_reducible rfl|focus(simp;done)|focus(simp;omega))|(with_reducible apply ja)|((with_reducible apply jb);with_reducible assumption)));rfl))
      have nf:=calm_kn kf0
      clear hE
      repeat (go_big_quiet_step (fail))
      refine wpQuiet_nil ?_
      rintro _ ⟨x,rfl⟩
      have bw4 : Below w.heap.size w x.wd:=bt bW0 x.ok
      have kw4 : blk x.wd w.heap.size = some #[.int .i64 f.k,.int .i64 f.fr,.int .i64 f.to_,.int .u64 f.mi,.int .u64 f.yo,.int .u64 f.a,.int .u64 f.b,.int .i64 f.ino,.int .u64 f.isq,.int .i64 f.iof,.int .i64 f.bno,.int .u64 f.bsq,.int .i64 f.bof,.int .i64 f.bde,.int .i64 f.bpr,.int .i64 f.bbo,.int .i64 f.bli,.int .i64 f.bto,.string f.da]:=blk_below x.ok kf0
      clear nf kf0 bW0 hN
      generalize x.wd = w4 at *
      have nw4:=kn kw4
      go_upto_region 5 with fail
      refine wp_region_tail0 9 ?_
      intro W0 hE hN
      have bW0 : Below w.heap.size w W0:=(by rw [hE.out];(repeat(first|(with_reducible first|assumption|exact Below.refl _ _|refine je ?_|refine jl ?_)|((with_reducible refine jp ?_ ?_);first|focus(dsimp only;assumption)|focus(simp;done)|focus(dsimp only;omega))|(with_reducible refine bt ?_ (by assumption)))))
      have kf0 : blk W0 w.heap.size = some #[.int .i64 f.k,.int .i64 f.fr,.int .i64 f.to_,.int .u64 f.mi,.int .u64 f.yo,.int .u64 f.a,.int .u64 f.b,.int .i64 f.ino,.int .u64 f.isq,.int .i64 f.iof,.int .i64 f.bno,.int .u64 f.bsq,.int .i64 f.bof,.int .i64 f.bde,.int .i64 f.bpr,.int .i64 f.bbo,.int .i64 f.bli,.int .i64 f.bto,.string f.da]:=(by rw [hE.out];(apply jt;(focus repeat(first|(with_reducible first|assumption|apply jd|apply js)|((with_reducible apply jo);first|focus(dsimp only;assumption)|focus(simp;done)|focus(dsimp only;omega))|((with_reducible apply jn);first|with_reducible rfl|focus(simp;done)|focus(simp;omega))|(with_reducible apply ja)|((with_reducible apply jb);with_reducible assumption)));rfl))
      have nf:=calm_kn kf0
      clear hE
      simp only [List.take_succ_cons,List.take_zero,List.drop_succ_cons,List.drop_zero]
      repeat (go_big_quiet_step (fail))
      refine wpQuiet_nil ?_
      rintro _ ⟨x,rfl⟩
      have bw6 : Below w.heap.size w x.wd:=bt bW0 x.ok
      have kw6 : blk x.wd w.heap.size = some #[.int .i64 f.k,.int .i64 f.fr,.int .i64 f.to_,.int .u64 f.mi,.int .u64 f.yo,.int .u64 f.a,.int .u64 f.b,.int .i64 f.ino,.int .u64 f.isq,.int .i64 f.iof,.int .i64 f.bno,.int .u64 f.bsq,.int .i64 f.bof,.int .i64 f.bde,.int .i64 f.bpr,.int .i64 f.bbo,.int .i64 f.bli,.int .i64 f.bto,.string f.da]:=blk_below x.ok kf0
      clear nf kf0 bW0 hN
      generalize x.wd = w6 at *
      have nw6:=kn kw6
      refine wpList_load_blkG 28 (.tmp 1) w.heap.size #[.int .i64 f.k,.int .i64 f.fr,.int .i64 f.to_,.int .u64 f.mi,.int .u64 f.yo,.int .u64 f.a,.int .u64 f.b,.int .i64 f.ino,.int .u64 f.isq,.int .i64 f.iof,.int .i64 f.bno,.int .u64 f.bsq,.int .i64 f.bof,.int .i64 f.bde,.int .i64 f.bpr,.int .i64 f.bbo,.int .i64 f.bli,.int .i64 f.bto,.string f.da] kw6 _ (by kernel_rfl) rfl rfl Tryz.underlying28 rfl (by kernel_rfl) ?_
      conv => arg 5;simp [Act.put]
      go_upto_region 12 with (first|(go_at_call 32;(with_reducible refine (gw.out _).mono ?_);rintro e w7 ⟨rfl,h7⟩;have k7 : blk w7 w.heap.size = some #[.int .i64 f.k,.int .i64 f.fr,.int .i64 f.to_,.int .u64 f.mi,.int .u64 f.yo,.int .u64 f.a,.int .u64 f.b,.int .i64 f.ino,.int .u64 f.isq,.int .i64 f.iof,.int .i64 f.bno,.int .u64 f.bsq,.int .i64 f.bof,.int .i64 f.bde,.int .i64 f.bpr,.int .i64 f.bbo,.int .i64 f.bli,.int .i64 f.bto,.string f.da]:=(by (apply jt;(focus repeat(first|(with_reducible first|assumption|apply jd|apply js)|((with_reducible apply jo);first|focus(dsimp only;assumption)|focus(simp;done)|focus(dsimp only;omega))|((with_reducible apply jn);first|with_reducible rfl|focus(simp;done)|focus(simp;omega))|(with_reducible apply ja)|((with_reducible apply jb);with_reducible assumption)));rfl));have n7:=kn k7;have b7 : Below w.heap.size w w7:=(by (repeat(first|(with_reducible first|assumption|exact Below.refl _ _|refine je ?_|refine jl ?_)|((with_reducible refine jp ?_ ?_);first|focus(dsimp only;assumption)|focus(simp;done)|focus(dsimp only;omega))|(with_reducible refine bt ?_ (by assumption))))))|(go_at_call 28;(with_reducible refine (gi.out _).mono ?_);rintro e wx ⟨rfl,rfl⟩)|(go_at_call 33;(with_reducible refine (gb.out _).mono ?_);rintro e w8 ⟨rfl,h8⟩;have k8 : blk w8 w.heap.size = some #[.int .i64 f.k,.int .i64 f.fr,.int .i64 f.to_,.int .u64 f.mi,.int .u64 f.yo,.int .u64 f.a,.int .u64 f.b,.int .i64 f.ino,.int .u64 f.isq,.int .i64 f.iof,.int .i64 f.bno,.int .u64 f.bsq,.int .i64 f.bof,.int .i64 f.bde,.int .i64 f.bpr,.int .i64 f.bbo,.int .i64 f.bli,.int .i64 f.bto,.string f.da]:=(by (apply jt;(focus repeat(first|(with_reducible first|assumption|apply jd|apply js)|((with_reducible apply jo);first|focus(dsimp only;assumption)|focus(simp;done)|focus(dsimp only;omega))|((with_reducible apply jn);first|with_reducible rfl|focus(simp;done)|focus(simp;omega))|(with_reducible apply ja)|((with_reducible apply jb);with_reducible assumption)));rfl));have n8:=kn k8;have b8 : Below w.heap.size w w8:=(by (repeat(first|(with_reducible first|assumption|exact Below.refl _ _|refine je ?_|refine jl ?_)|((with_reducible refine jp ?_ ?_);first|focus(dsimp only;assumption)|focus(simp;done)|focus(dsimp only;omega))|(with_reducible refine bt ?_ (by assumption)))))))
      refine wp_region_in (by kernel_rfl) (by kernel_rfl) ?_
      intro W0 hE hN
      have bW0 : Below w.heap.size w W0:=(by rw [hE.out];(repeat(first|(with_reducible first|assumption|exact Below.refl _ _|refine je ?_|refine jl ?_)|((with_reducible refine jp ?_ ?_);first|focus(dsimp only;assumption)|focus(simp;done)|focus(dsimp only;omega))|(with_reducible refine bt ?_ (by assumption)))))
      have kf0 : blk W0 w.heap.size = some #[.int .i64 f.k,.int .i64 f.fr,.int .i64 f.to_,.int .u64 f.mi,.int .u64 f.yo,.int .u64 f.a,.int .u64 f.b,.int .i64 f.ino,.int .u64 f.isq,.int .i64 f.iof,.int .i64 f.bno,.int .u64 f.bsq,.int .i64 f.bof,.int .i64 f.bde,.int .i64 f.bpr,.int .i64 f.bbo,.int .i64 f.bli,.int .i64 f.bto,.string f.da]:=(by rw [hE.out];(apply jt;(focus repeat(first|(with_reducible first|assumption|apply jd|apply js)|((with_reducible apply jo);first|focus(dsimp only;assumption)|focus(simp;done)|focus(dsimp only;omega))|((with_reducible apply jn);first|with_reducible rfl|focus(simp;done)|focus(simp;omega))|(with_reducible apply ja)|((with_reducible apply jb);with_reducible assumption)));rfl))
      have nf:=calm_kn kf0
      clear hE
      refine wpQuiet_split 3 ?_
      simp only [List.take_succ_cons,List.take_zero,List.drop_succ_cons,List.drop_zero]
      repeat (go_big_quiet_step (fail))
      refine wpQuiet_nil ?_
      refine wpQuiet_load_blkG 28 (.tmp 1) w.heap.size #[.int .i64 f.k,.int .i64 f.fr,.int .i64 f.to_,.int .u64 f.mi,.int .u64 f.yo,.int .u64 f.a,.int .u64 f.b,.int .i64 f.ino,.int .u64 f.isq,.int .i64 f.iof,.int .i64 f.bno,.int .u64 f.bsq,.int .i64 f.bof,.int .i64 f.bde,.int .i64 f.bpr,.int .i64 f.bbo,.int .i64 f.bli,.int .i64 f.bto,.string f.da] (fun W hW => by obtain ⟨x,rfl⟩:=hW;exact blk_below x.ok kf0) _ (by kernel_rfl) rfl rfl Tryz.underlying28 rfl (by kernel_rfl) ?_
      conv => arg 6;simp [Act.put]
      refine wpQuiet_split 1 ?_
      simp only [List.take_succ_cons,List.take_zero,List.drop_succ_cons,List.drop_zero]
      repeat (go_big_quiet_step ((go_at_call 35;(with_reducible refine Class.go _ (gs.out _)))))
      refine wpQuiet_nil ?_
      refine wpQuiet_load_blkG 28 (.tmp 1) w.heap.size #[.int .i64 f.k,.int .i64 f.fr,.int .i64 f.to_,.int .u64 f.mi,.int .u64 f.yo,.int .u64 f.a,.int .u64 f.b,.int .i64 f.ino,.int .u64 f.isq,.int .i64 f.iof,.int .i64 f.bno,.int .u64 f.bsq,.int .i64 f.bof,.int .i64 f.bde,.int .i64 f.bpr,.int .i64 f.bbo,.int .i64 f.bli,.int .i64 f.bto,.string f.da] (fun W hW => by obtain ⟨x,rfl⟩:=hW;exact blk_below x.ok kf0) _ (by kernel_rfl) rfl rfl Tryz.underlying28 rfl (by kernel_rfl) ?_
      conv => arg 6;simp [Act.put]
      repeat (go_big_quiet_step (fail))
      refine wpQuiet_nil ?_
      rintro _ ⟨x,rfl⟩
      have b9 : Below w.heap.size w x.wd:=bt bW0 x.ok
      clear nf kf0 bW0 hN
      generalize x.wd = w9 at *
      cases cl
      · go_wp2
        go_ret
        exact ⟨ret_int (HF.out (by first|rfl|trivial)).symm,b9⟩
      · go_wp2
        go_ret
        exact ⟨ret_int (HT.out (by first|rfl|trivial)).symm,b9⟩
    · rw [if_pos hv0]
      have hv1 : (v == 0) = false:=by simp [hv0]
      clear hv0
      replace gw:=Lib.hid gw;replace gi:=Lib.hid gi;replace gs:=Lib.hid gs;replace gb:=Lib.hid gb
      clear E
      go_enter Tryz.func12,Tryz.ntmps12
      go_upto_region 3 with fail
      refine wp_region_in0 ?_
      intro W0 hE hN
      have bW0 : Below w.heap.size w W0:=(by rw [hE.out];(repeat(first|(with_reducible first|assumption|exact Below.refl _ _|refine je ?_|refine jl ?_)|((with_reducible refine jp ?_ ?_);first|focus(dsimp only;assumption)|focus(simp;done)|focus(dsimp only;omega))|(with_reducible refine bt ?_ (by assumption)))))
      have kf0 : blk W0 w.heap.size = some #[.int .i64 f.k,.int .i64 f.fr,.int .i64 f.to_,.int .u64 f.mi,.int .u64 f.yo,.int .u64 f.a,.int .u64 f.b,.int .i64 f.ino,.int .u64 f.isq,.int .i64 f.iof,.int .i64 f.bno,.int .u64 f.bsq,.int .i64 f.bof,.int .i64 f.bde,.int .i64 f.bpr,.int .i64 f.bbo,.int .i64 f.bli,.int .i64 f.bto,.string f.da]:=(by rw [hE.out];(apply jt;(focus repeat(first|(with_reducible first|assumption|apply jd|apply js)|((with_reducible apply jo);first|focus(dsimp only;assumption)|focus(simp;done)|focus(dsimp only;omega))|((with_reducible apply jn);first|with_reducible rfl|focus(simp;done)|focus(simp;omega))|(with_reducible apply ja)|((with_reducible apply jb);with_reducible assumption)));rfl))
      have nf:=calm_kn kf0
      clear hE
      repeat (go_big_quiet_step (fail))
      refine wpQuiet_nil ?_
      rintro _ ⟨x,rfl⟩
      have bw4 : Below w.heap.size w x.wd:=bt bW0 x.ok
      have kw4 : blk x.wd w.heap.size = some #[.int .i64 f.k,.int .i64 f.fr,.int .i64 f.to_,.int .u64 f.mi,.int .u64 f.yo,.int .u64 f.a,.int .u64 f.b,.int .i64 f.ino,.int .u64 f.isq,.int .i64 f.iof,.int .i64 f.bno,.int .u64 f.bsq,.int .i64 f.bof,.int .i64 f.bde,.int .i64 f.bpr,.int .i64 f.bbo,.int .i64 f.bli,.int .i64 f.bto,.string f.da]:=blk_below x.ok kf0
      clear nf kf0 bW0 hN
      generalize x.wd = w4 at *
      have nw4:=kn kw4
      go_upto_region 5 with fail
      refine wp_region_tail0 9 ?_
      intro W0 hE hN
      have bW0 : Below w.heap.size w W0:=(by rw [hE.out];(repeat(first|(with_reducible first|assumption|exact Below.refl _ _|refine je ?_|refine jl ?_)|((with_reducible refine jp ?_ ?_);first|focus(dsimp only;assumption)|focus(simp;done)|focus(dsimp only;omega))|(with_reducible refine bt ?_ (by assumption)))))
      have kf0 : blk W0 w.heap.size = some #[.int .i64 f.k,.int .i64 f.fr,.int .i64 f.to_,.int .u64 f.mi,.int .u64 f.yo,.int .u64 f.a,.int .u64 f.b,.int .i64 f.ino,.int .u64 f.isq,.int .i64 f.iof,.int .i64 f.bno,.int .u64 f.bsq,.int .i64 f.bof,.int .i64 f.bde,.int .i64 f.bpr,.int .i64 f.bbo,.int .i64 f.bli,.int .i64 f.bto,.string f.da]:=(by rw [hE.out];(apply jt;(focus repeat(first|(with_reducible first|assumption|apply jd|apply js)|((with_reducible apply jo);first|focus(dsimp only;assumption)|focus(simp;done)|focus(dsimp only;omega))|((with_reducible apply jn);first|with_reducible rfl|focus(simp;done)|focus(simp;omega))|(with_reducible apply ja)|((with_reducible apply jb);with_reducible assumption)));rfl))
      have nf:=calm_kn kf0
      clear hE
      simp only [List.take_succ_cons,List.take_zero,List.drop_succ_cons,List.drop_zero]
      repeat (go_big_quiet_step (fail))
      refine wpQuiet_nil ?_
      rintro _ ⟨x,rfl⟩
      have bw6 : Below w.heap.size w x.wd:=bt bW0 x.ok
      have kw6 : blk x.wd w.heap.size = some #[.int .i64 f.k,.int .i64 f.fr,.int .i64 f.to_,.int .u64 f.mi,.int .u64 f.yo,.int .u64 f.a,.int .u64 f.b,.int .i64 f.ino,.int .u64 f.isq,.int .i64 f.iof,.int .i64 f.bno,.int .u64 f.bsq,.int .i64 f.bof,.int .i64 f.bde,.int .i64 f.bpr,.int .i64 f.bbo,.int .i64 f.bli,.int .i64 f.bto,.string f.da]:=blk_below x.ok kf0
      clear nf kf0 bW0 hN
      generalize x.wd = w6 at *
      have nw6:=kn kw6
      refine wpList_load_blkG 28 (.tmp 1) w.heap.size #[.int .i64 f.k,.int .i64 f.fr,.int .i64 f.to_,.int .u64 f.mi,.int .u64 f.yo,.int .u64 f.a,.int .u64 f.b,.int .i64 f.ino,.int .u64 f.isq,.int .i64 f.iof,.int .i64 f.bno,.int .u64 f.bsq,.int .i64 f.bof,.int .i64 f.bde,.int .i64 f.bpr,.int .i64 f.bbo,.int .i64 f.bli,.int .i64 f.bto,.string f.da] kw6 _ (by kernel_rfl) rfl rfl Tryz.underlying28 rfl (by kernel_rfl) ?_
      conv => arg 5;simp [Act.put]
      go_upto_region 12 with (first|(go_at_call 32;(with_reducible refine (gw.out _).mono ?_);rintro e w7 ⟨rfl,h7⟩;have k7 : blk w7 w.heap.size = some #[.int .i64 f.k,.int .i64 f.fr,.int .i64 f.to_,.int .u64 f.mi,.int .u64 f.yo,.int .u64 f.a,.int .u64 f.b,.int .i64 f.ino,.int .u64 f.isq,.int .i64 f.iof,.int .i64 f.bno,.int .u64 f.bsq,.int .i64 f.bof,.int .i64 f.bde,.int .i64 f.bpr,.int .i64 f.bbo,.int .i64 f.bli,.int .i64 f.bto,.string f.da]:=(by (apply jt;(focus repeat(first|(with_reducible first|assumption|apply jd|apply js)|((with_reducible apply jo);first|focus(dsimp only;assumption)|focus(simp;done)|focus(dsimp only;omega))|((with_reducible apply jn);first|with_reducible rfl|focus(simp;done)|focus(simp;omega))|(with_reducible apply ja)|((with_reducible apply jb);with_reducible assumption)));rfl));have n7:=kn k7;have b7 : Below w.heap.size w w7:=(by (repeat(first|(with_reducible first|assumption|exact Below.refl _ _|refine je ?_|refine jl ?_)|((with_reducible refine jp ?_ ?_);first|focus(dsimp only;assumption)|focus(simp;done)|focus(dsimp only;omega))|(with_reducible refine bt ?_ (by assumption))))))|(go_at_call 28;(with_reducible refine (gi.out _).mono ?_);rintro e wx ⟨rfl,rfl⟩)|(go_at_call 33;(with_reducible refine (gb.out _).mono ?_);rintro e w8 ⟨rfl,h8⟩;have k8 : blk w8 w.heap.size = some #[.int .i64 f.k,.int .i64 f.fr,.int .i64 f.to_,.int .u64 f.mi,.int .u64 f.yo,.int .u64 f.a,.int .u64 f.b,.int .i64 f.ino,.int .u64 f.isq,.int .i64 f.iof,.int .i64 f.bno,.int .u64 f.bsq,.int .i64 f.bof,.int .i64 f.bde,.int .i64 f.bpr,.int .i64 f.bbo,.int .i64 f.bli,.int .i64 f.bto,.string f.da]:=(by (apply jt;(focus repeat(first|(with_reducible first|assumption|apply jd|apply js)|((with_reducible apply jo);first|focus(dsimp only;assumption)|focus(simp;done)|focus(dsimp only;omega))|((with_reducible apply jn);first|with_reducible rfl|focus(simp;done)|focus(simp;omega))|(with_reducible apply ja)|((with_reducible apply jb);with_reducible assumption)));rfl));have n8:=kn k8;have b8 : Below w.heap.size w w8:=(by (repeat(first|(with_reducible first|assumption|exact Below.refl _ _|refine je ?_|refine jl ?_)|((with_reducible refine jp ?_ ?_);first|focus(dsimp only;assumption)|focus(simp;done)|focus(dsimp only;omega))|(with_reducible refine bt ?_ (by assumption)))))))
      refine wp_region_in (by kernel_rfl) (by kernel_rfl) ?_
      intro W0 hE hN
      have bW0 : Below w.heap.size w W0:=(by rw [hE.out];(repeat(first|(with_reducible first|assumption|exact Below.refl _ _|refine je ?_|refine jl ?_)|((with_reducible refine jp ?_ ?_);first|focus(dsimp only;assumption)|focus(simp;done)|focus(dsimp only;omega))|(with_reducible refine bt ?_ (by assumption)))))
      have kf0 : blk W0 w.heap.size = some #[.int .i64 f.k,.int .i64 f.fr,.int .i64 f.to_,.int .u64 f.mi,.int .u64 f.yo,.int .u64 f.a,.int .u64 f.b,.int .i64 f.ino,.int .u64 f.isq,.int .i64 f.iof,.int .i64 f.bno,.int .u64 f.bsq,.int .i64 f.bof,.int .i64 f.bde,.int .i64 f.bpr,.int .i64 f.bbo,.int .i64 f.bli,.int .i64 f.bto,.string f.da]:=(by rw [hE.out];(apply jt;(focus repeat(first|(with_reducible first|assumption|apply jd|apply js)|((with_reducible apply jo);first|focus(dsimp only;assumption)|focus(simp;done)|focus(dsimp only;omega))|((with_reducible apply jn);first|with_reducible rfl|focus(simp;done)|focus(simp;omega))|(with_reducible apply ja)|((with_reducible apply jb);with_reducible assumption)));rfl))
      have nf:=calm_kn kf0
      clear hE
      repeat (go_big_quiet_step (fail))
      refine wpQuiet_nil ?_
      rintro _ ⟨x,rfl⟩
      have b9 : Below w.heap.size w x.wd:=bt bW0 x.ok
      clear nf kf0 bW0 hN
      generalize x.wd = w9 at *
      go_wp2
      go_ret
      exact ⟨rfl,b9⟩
  · rw [frC_two hk17 (.inl hr)]
    by_cases n1 : f.fr < 1
    · exact rcheck_b1 f hk17  n1 w
    by_cases n2 : 16 < f.fr
    · exact rcheck_b2 f hk17 n1 n2 w
    by_cases n3 : f.to_ < 1
    · exact rcheck_b3 f hk17 n1 n2 n3 w
    by_cases n4 : 16 < f.to_
    · exact rcheck_b4 f hk17 n1 n2 n3 n4 w
    by_cases n5 : f.fr = f.to_
    · exact rcheck_b5 f hk17 n1 n2 n3 n4 n5 w
    by_cases n6 : f.mi < 1
    · exact rcheck_b6 f hk17 n1 n2 n3 n4 n5 n6 w
    by_cases n7 : 1099511627776 < f.mi
    · exact rcheck_b7 f hk17 n1 n2 n3 n4 n5 n6 n7 w
    by_cases n8 : 1099511627776 < f.yo
    · exact rcheck_b8 f hk17 n1 n2 n3 n4 n5 n6 n7 n8 w
    by_cases ha : f.k ≠ 1 ∧ 1125899906842624 < f.a
    · exact rcheck_a f hk17 n1 n2 n3 n4 n5 n6 n7 n8 ha.1 ha.2 w
    by_cases hb : wrgB f = true
    · exact rcheck_b f hk17 n1 n2 n3 n4 n5 n6 n7 n8 ha hb w
    exact absurd ⟨by omega,by omega,by omega,by omega,by omega,by omega,by omega,by omega,by omega,by unfold wrgB at hb;simp only [decide_eq_true_eq] at hb;omega,by unfold wrgB at hb;simp only [decide_eq_true_eq] at hb;omega,by unfold wrgB at hb;simp only [decide_eq_true_eq] at hb;omega⟩ hr
end Go.Proofs.YtaiofjffoboicaaGreatDoor
namespace Go.Proofs.YtaiofjffoboicaaGreatDoor
open Go.RowKit
set_option maxRecDepth 100000 in
set_option maxHeartbeats 6400000 in
theorem rcheck_k5 (f : Fr) (hk : f.k = 5) (hda : f.da.size ≤ maxLen) (w : World) : Calls Tryz.prog 12 #[frv f] w fun e w' => e = .returned (.int .i64 (frC f)) ∧ Below w.heap.size w w':=by
  have hk17 : 1 ≤ f.k ∧ f.k ≤ 7:=by omega
  have gb : ∀ w,Calls Tryz.prog 34 #[.agg #[.int .i64 f.ino,.int .u64 f.isq,.int .i64 f.iof]] w fun e w' => e = .returned (.int .i64 (bcF f)) ∧ Below w.heap.size w w':=fun w => by have:=refCheckID_any f.ino f.isq f.iof w;rwa [show idC f.ino f.isq f.iof = bcF f by unfold bcF;rw [if_neg (by omega),if_pos (by omega)]] at this
  have gi : ∀ w,Calls Tryz.prog 28 #[.int .i64 f.k] w fun e w' => e = .returned (.bool true) ∧ w = w':=fun w => by have:=refHasID_any f.k w;rwa [show hasI f.k = true by rw [hk];rfl] at this
  have gs : ∀ w,Calls Tryz.prog 35 #[.agg #[.int .i64 f.k,.int .i64 f.fr,.int .i64 f.to_,.int .u64 f.mi,.int .u64 f.yo,.int .u64 f.a,.int .u64 f.b,.int .i64 f.ino,.int .u64 f.isq,.int .i64 f.iof,.int .i64 f.bno,.int .u64 f.bsq,.int .i64 f.bof,.int .i64 f.bde,.int .i64 f.bpr,.int .i64 f.bbo,.int .i64 f.bli,.int .i64 f.bto,.string f.da]] w fun e w' => e = .returned (.agg #[.int .i64 f.k,.int .i64 f.fr,.int .i64 f.to_,.int .u64 f.mi,.int .u64 f.yo,.int .u64 f.a,.int .u64 0,.int .i64 f.ino,.int .u64 f.isq,.int .i64 f.iof,.int .i64 0,.int .u64 0,.int .i64 0,.int .i64 0,.int .i64 0,.int .i64 0,.int .i64 0,.int .i64 0,.string ⟨#[]⟩]) ∧ Below w.heap.size w w':=fun w => refUsed_k5 f hk w
  have E : ∀ w,Sem.run Tryz.prog (binOp BinOp.neq 28 (.agg #[.int .i64 f.k,.int .i64 f.fr,.int .i64 f.to_,.int .u64 f.mi,.int .u64 f.yo,.int .u64 f.a,.int .u64 0,.int .i64 f.ino,.int .u64 f.isq,.int .i64 f.iof,.int .i64 0,.int .u64 0,.int .i64 0,.int .i64 0,.int .i64 0,.int .i64 0,.int .i64 0,.int .i64 0,.string ⟨#[]⟩]) (.agg #[.int .i64 f.k,.int .i64 f.fr,.int .i64 f.to_,.int .u64 f.mi,.int .u64 f.yo,.int .u64 f.a,.int .u64 f.b,.int .i64 f.ino,.int .u64 f.isq,.int .i64 f.iof,.int .i64 f.bno,.int .u64 f.bsq,.int .i64 f.bof,.int .i64 f.bde,.int .i64 f.bpr,.int .i64 f.bbo,.int .i64 f.bli,.int .i64 f.bto,.string f.da])) w = .ok (.bool (!decide (clnF f))) w:=fun w => by have:=run_frNe (bareF f) f w;rw [bare_eq f hk17] at this;rwa [show bareF f = ⟨f.k,f.fr,f.to_,f.mi,f.yo,f.a,0,f.ino,f.isq,f.iof,0,0,0,0,0,0,0,0,⟨#[]⟩⟩ by unfold bareF;rw [hk];rfl] at this
  by_cases hr : rngF f
  · have hfr : frC f = if bcF f ≠ 0 then bcF f else if clnF f then 0 else 3:=by unfold frC;rw [if_neg (not_not_intro hk17),if_neg (not_not_intro hr)]
    obtain ⟨r1,r2,r3,r4,r5,r6,r7,r8,r9,r10,r11,r12⟩:=hr
    have hwr : wrgB f = false:=by unfold wrgB;simp only [decide_eq_false_iff_not];omega
    have gw : ∀ w,Calls Tryz.prog 32 #[.agg #[.int .i64 f.k,.int .i64 f.fr,.int .i64 f.to_,.int .u64 f.mi,.int .u64 f.yo,.int .u64 f.a,.int .u64 f.b,.int .i64 f.ino,.int .u64 f.isq,.int .i64 f.iof,.int .i64 f.bno,.int .u64 f.bsq,.int .i64 f.bof,.int .i64 f.bde,.int .i64 f.bpr,.int .i64 f.bbo,.int .i64 f.bli,.int .i64 f.bto,.string f.da]] w fun e w' => e = .returned (.bool false) ∧ Below w.heap.size w w':=fun w => by have:=refWrongB_any f w;rwa [hwr] at this
    have kk1 : decide (f.k < 1) = false:=decide_eq_false (by omega)
    have kk7 : decide (7 < f.k) = false:=decide_eq_false (by omega)
    have t1 : decide (f.fr < 1) = false:=decide_eq_false (by omega)
    have t2 : decide (16 < f.fr) = false:=decide_eq_false (by omega)
    have t3 : decide (f.to_ < 1) = false:=decide_eq_false (by omega)
    have t4 : decide (16 < f.to_) = false:=decide_eq_false (by omega)
    have t5 : (f.fr == f.to_) = false:=by simp;omega
    have t6 : decide (f.mi < 1) = false:=decide_eq_false (by omega)
    have t7 : decide (1099511627776 < f.mi) = false:=decide_eq_false (by omega)
    have t8 : decide (1099511627776 < f.yo) = false:=decide_eq_false (by omega)
    have a1 : (f.k != 1) = true:=by simp [hk]
    have a2 : decide (1125899906842624 < f.a) = false:=decide_eq_false (by have:=r9 (by omega);omega)
    have e3 : (f.k == 3) = false:=by simp [hk]
    clear r1 r2 r3 r4 r5 r6 r7 r8 r9 r10 r11 r12 hwr
    obtain ⟨v,hv⟩ : ∃ v,bcF f = v:=⟨_,rfl⟩
    rw [hv] at hfr gb
    clear hv
    rw [hfr]
    clear hfr hk hk17
    have hun : undef = Value.tuple #[]:=rfl
    by_cases hv0 : v = 0
    · subst hv0
      rw [if_neg (by simp)]
      replace gw:=Lib.hid gw;replace gi:=Lib.hid gi;replace gs:=Lib.hid gs;replace gb:=Lib.hid gb
      obtain ⟨cl,hcl⟩ : ∃ q,(!decide (clnF f)) = q:=⟨_,rfl⟩
      rw [hcl] at E
      obtain ⟨R,hR⟩ : ∃ R,(if clnF f then (0 : Int) else 3) = R:=⟨_,rfl⟩
      have HT : Hid (cl = true → R = 3):=Lib.hid (fun h => by rw [← hR];exact if_neg (fun hc => by rw [decide_eq_true hc,h] at hcl;exact absurd hcl (by decide)))
      have HF : Hid (cl = false → R = 0):=Lib.hid (fun h => by rw [← hR];exact if_pos (Decidable.byContradiction fun hc => by rw [decide_eq_false hc,h] at hcl;exact absurd hcl (by decide)))
      rw [hR]
      clear hR hcl
      go_enter Tryz.func12,Tryz.ntmps12
      go_upto_region 3 with fail
      refine wp_region_in0 ?_
      intro W0 hE hN
      have bW0 : Below w.heap.size w W0:=(by rw [hE.out];(repeat(first|(with_reducible first|assumption|exact Below.refl _ _|refine je ?_|refine jl ?_)|((with_reducible refine jp ?_ ?_);first|focus(dsimp only;assumption)|focus(simp;done)|focus(dsimp only;omega))|(with_reducible refine bt ?_ (by assumption)))))
      have kf0 : blk W0 w.heap.size = some #[.int .i64 f.k,.int .i64 f.fr,.int .i64 f.to_,.int .u64 f.mi,.int .u64 f.yo,.int .u64 f.a,.int .u64 f.b,.int .i64 f.ino,.int .u64 f.isq,.int .i64 f.iof,.int .i64 f.bno,.int .u64 f.bsq,.int .i64 f.bof,.int .i64 f.bde,.int .i64 f.bpr,.int .i64 f.bbo,.int .i64 f.bli,.int .i64 f.bto,.string f.da]:=(by rw [hE.out];(apply jt;(focus repeat(first|(with_reducible first|assumption|apply jd|apply js)|((with_reducible apply jo);first|focus(dsimp only;assumption)|focus(simp;done)|focus(dsimp only;omega))|((with_reducible apply jn);first|with_reducible rfl|focus(simp;done)|focus(simp;omega))|(with_reducible apply ja)|((with_reducible apply jb);with_reducible assumption)));rfl))
      have nf:=calm_kn kf0
      clear hE
      repeat (go_big_quiet_step (fail))
      refine wpQuiet_nil ?_
      rintro _ ⟨x,rfl⟩
      have bw4 : Below w.heap.size w x.wd:=bt bW0 x.ok
      have kw4 : blk x.wd w.heap.size = some #[.int .i64 f.k,.int .i64 f.fr,.int .i64 f.to_,.int .u64 f.mi,.int .u64 f.yo,.int .u64 f.a,.int .u64 f.b,.int .i64 f.ino,.int .u64 f.isq,.int .i64 f.iof,.int .i64 f.bno,.int .u64 f.bsq,.int .i64 f.bof,.int .i64 f.bde,.int .i64 f.bpr,.int .i64 f.bbo,.int .i64 f.bli,.int .i64 f.bto,.string f.da]:=blk_below x.ok kf0
      clear nf kf0 bW0 hN
      generalize x.wd = w4 at *
      have nw4:=kn kw4
      go_upto_region 5 with fail
      refine wp_region_tail0 9 ?_
      intro W0 hE hN
      have bW0 : Below w.heap.size w W0:=(by rw [hE.out];(repeat(first|(with_reducible first|assumption|exact Below.refl _ _|refine je ?_|refine jl ?_)|((with_reducible refine jp ?_ ?_);first|focus(dsimp only;assumption)|focus(simp;done)|focus(dsimp only;omega))|(with_reducible refine bt ?_ (by assumption)))))
      have kf0 : blk W0 w.heap.size = some #[.int .i64 f.k,.int .i64 f.fr,.int .i64 f.to_,.int .u64 f.mi,.int .u64 f.yo,.int .u64 f.a,.int .u64 f.b,.int .i64 f.ino,.int .u64 f.isq,.int .i64 f.iof,.int .i64 f.bno,.int .u64 f.bsq,.int .i64 f.bof,.int .i64 f.bde,.int .i64 f.bpr,.int .i64 f.bbo,.int .i64 f.bli,.int .i64 f.bto,.string f.da]:=(by rw [hE.out];(apply jt;(focus repeat(first|(with_reducible first|assumption|apply jd|apply js)|((with_reducible apply jo);first|focus(dsimp only;assumption)|focus(simp;done)|focus(dsimp only;omega))|((with_reducible apply jn);first|with_reducible rfl|focus(simp;done)|focus(simp;omega))|(with_reducible apply ja)|((with_reducible apply jb);with_reducible assumption)));rfl))
      have nf:=calm_kn kf0
      clear hE
      simp only [List.take_succ_cons,List.take_zero,List.drop_succ_cons,List.drop_zero]
      repeat (go_big_quiet_step (fail))
      refine wpQuiet_nil ?_
      rintro _ ⟨x,rfl⟩
      have bw6 : Below w.heap.size w x.wd:=bt bW0 x.ok
      have kw6 : blk x.wd w.heap.size = some #[.int .i64 f.k,.int .i64 f.fr,.int .i64 f.to_,.int .u64 f.mi,.int .u64 f.yo,.int .u64 f.a,.int .u64 f.b,.int .i64 f.ino,.int .u64 f.isq,.int .i64 f.iof,.int .i64 f.bno,.int .u64 f.bsq,.int .i64 f.bof,.int .i64 f.bde,.int .i64 f.bpr,.int .i64 f.bbo,.int .i64 f.bli,.int .i64 f.bto,.string f.da]:=blk_below x.ok kf0
      clear nf kf0 bW0 hN
      generalize x.wd = w6 at *
      have nw6:=kn kw6
      refine wpList_load_blkG 28 (.tmp 1) w.heap.size #[.int .i64 f.k,.int .i64 f.fr,.int .i64 f.to_,.int .u64 f.mi,.int .u64 f.yo,.int .u64 f.a,.int .u64 f.b,.int .i64 f.ino,.int .u64 f.isq,.int .i64 f.iof,.int .i64 f.bno,.int .u64 f.bsq,.int .i64 f.bof,.int .i64 f.bde,.int .i64 f.bpr,.int .i64 f.bbo,.int .i64 f.bli,.int .i64 f.bto,.string f.da] kw6 _ (by kernel_rfl) rfl rfl Tryz.underlying28 rfl (by kernel_rfl) ?_
      conv => arg 5;simp [Act.put]
      go_upto_region 12 with (first|(go_at_call 32;(with_reducible refine (gw.out _).mono ?_);rintro e w7 ⟨rfl,h7⟩;have k7 : blk w7 w.heap.size = some #[.int .i64 f.k,.int .i64 f.fr,.int .i64 f.to_,.int .u64 f.mi,.int .u64 f.yo,.int .u64 f.a,.int .u64 f.b,.int .i64 f.ino,.int .u64 f.isq,.int .i64 f.iof,.int .i64 f.bno,.int .u64 f.bsq,.int .i64 f.bof,.int .i64 f.bde,.int .i64 f.bpr,.int .i64 f.bbo,.int .i64 f.bli,.int .i64 f.bto,.string f.da]:=(by (apply jt;(focus repeat(first|(with_reducible first|assumption|apply jd|apply js)|((with_reducible apply jo);first|focus(dsimp only;assumption)|focus(simp;done)|focus(dsimp only;omega))|((with_reducible apply jn);first|with_reducible rfl|focus(simp;done)|focus(simp;omega))|(with_reducible apply ja)|((with_reducible apply jb);with_reducible assumption)));rfl));have n7:=kn k7;have b7 : Below w.heap.size w w7:=(by (repeat(first|(with_reducible first|assumption|exact Below.refl _ _|refine je ?_|refine jl ?_)|((with_reducible refine jp ?_ ?_);first|focus(dsimp only;assumption)|focus(simp;done)|focus(dsimp only;omega))|(with_reducible refine bt ?_ (by assumption))))))|(go_at_call 28;(with_reducible refine (gi.out _).mono ?_);rintro e wx ⟨rfl,rfl⟩)|(go_at_call 34;(with_reducible refine (gb.out _).mono ?_);rintro e w8 ⟨rfl,h8⟩;have k8 : blk w8 w.heap.size = some #[.int .i64 f.k,.int .i64 f.fr,.int .i64 f.to_,.int .u64 f.mi,.int .u64 f.yo,.int .u64 f.a,.int .u64 f.b,.int .i64 f.ino,.int .u64 f.isq,.int .i64 f.iof,.int .i64 f.bno,.int .u64 f.bsq,.int .i64 f.bof,.int .i64 f.bde,.int .i64 f.bpr,.int .i64 f.bbo,.int .i64 f.bli,.int .i64 f.bto,.string f.da]:=(by (apply jt;(focus repeat(first|(with_reducible first|assumption|apply jd|apply js)|((with_reducible apply jo);first|focus(dsimp only;assumption)|focus(simp;done)|focus(dsimp only;omega))|((with_reducible apply jn);first|with_reducible rfl|focus(simp;done)|focus(simp;omega))|(with_reducible apply ja)|((with_reducible apply jb);with_reducible assumption)));rfl));have n8:=kn k8;have b8 : Below w.heap.size w w8:=(by (repeat(first|(with_reducible first|assumption|exact Below.refl _ _|refine je ?_|refine jl ?_)|((with_reducible refine jp ?_ ?_);first|focus(dsimp only;assumption)|focus(simp;done)|focus(dsimp only;omega))|(with_reducible refine bt ?_ (by assumption)))))))
      refine wp_region_in (by kernel_rfl) (by kernel_rfl) ?_
      intro W0 hE hN
      have bW0 : Below w.heap.size w W0:=(by rw [hE.out];(repeat(first|(with_reducible first|assumption|exact Below.refl _ _|refine je ?_|refine jl ?_)|((with_reducible refine jp ?_ ?_);first|focus(dsimp only;assumption)|focus(simp;done)|focus(dsimp only;omega))|(with_reducible refine bt ?_ (by assumption)))))
      have kf0 : blk W0 w.heap.size = some #[.int .i64 f.k,.int .i64 f.fr,.int .i64 f.to_,.int .u64 f.mi,.int .u64 f.yo,.int .u64 f.a,.int .u64 f.b,.int .i64 f.ino,.int .u64 f.isq,.int .i64 f.iof,.int .i64 f.bno,.int .u64 f.bsq,.int .i64 f.bof,.int .i64 f.bde,.int .i64 f.bpr,.int .i64 f.bbo,.int .i64 f.bli,.int .i64 f.bto,.string f.da]:=(by rw [hE.out];(apply jt;(focus repeat(first|(with_reducible first|assumption|apply jd|apply js)|((with_reducible apply jo);first|focus(dsimp only;assumption)|focus(simp;done)|focus(dsimp only;omega))|((with_reducible apply jn);first|with_reducible rfl|focus(simp;done)|focus(simp;omega))|(with_reducible apply ja)|((with_reducible apply jb);with_reducible assumption)));rfl))
      have nf:=calm_kn kf0
      clear hE
      refine wpQuiet_split 3 ?_
      simp only [List.take_succ_cons,List.take_zero,List.drop_succ_cons,List.drop_zero]
      repeat (go_big_quiet_step (fail))
      refine wpQuiet_nil ?_
      refine wpQuiet_load_blkG 28 (.tmp 1) w.heap.size #[.int .i64 f.k,.int .i64 f.fr,.int .i64 f.to_,.int .u64 f.mi,.int .u64 f.yo,.int .u64 f.a,.int .u64 f.b,.int .i64 f.ino,.int .u64 f.isq,.int .i64 f.iof,.int .i64 f.bno,.int .u64 f.bsq,.int .i64 f.bof,.int .i64 f.bde,.int .i64 f.bpr,.int .i64 f.bbo,.int .i64 f.bli,.int .i64 f.bto,.string f.da] (fun W hW => by obtain ⟨x,rfl⟩:=hW;exact blk_below x.ok kf0) _ (by kernel_rfl) rfl rfl Tryz.underlying28 rfl (by kernel_rfl) ?_
      conv => arg 6;simp [Act.put]
      refine wpQuiet_split 1 ?_
      simp only [List.take_succ_cons,List.take_zero,List.drop_succ_cons,List.drop_zero]
      repeat (go_big_quiet_step ((go_at_call 35;(with_reducible refine Class.go _ (gs.out _)))))
      refine wpQuiet_nil ?_
      refine wpQuiet_load_blkG 28 (.tmp 1) w.heap.size #[.int .i64 f.k,.int .i64 f.fr,.int .i64 f.to_,.int .u64 f.mi,.int .u64 f.yo,.int .u64 f.a,.int .u64 f.b,.int .i64 f.ino,.int .u64 f.isq,.int .i64 f.iof,.int .i64 f.bno,.int .u64 f.bsq,.int .i64 f.bof,.int .i64 f.bde,.int .i64 f.bpr,.int .i64 f.bbo,.int .i64 f.bli,.int .i64 f.bto,.string f.da] (fun W hW => by obtain ⟨x,rfl⟩:=hW;exact blk_below x.ok kf0) _ (by kernel_rfl) rfl rfl Tryz.underlying28 rfl (by kernel_rfl) ?_
      conv => arg 6;simp [Act.put]
      repeat (go_big_quiet_step (fail))
      refine wpQuiet_nil ?_
      rintro _ ⟨x,rfl⟩
      have b9 : Below w.heap.size w x.wd:=bt bW0 x.ok
      clear nf kf0 bW0 hN
      generalize x.wd = w9 at *
      cases cl
      · go_wp2
        go_ret
        exact ⟨ret_int (HF.out (by first|rfl|trivial)).symm,b9⟩
      · go_wp2
        go_ret
        exact ⟨ret_int (HT.out (by first|rfl|trivial)).symm,b9⟩
    · rw [if_pos hv0]
      have hv1 : (v == 0) = false:=by simp [hv0]
      clear hv0
      replace gw:=Lib.hid gw;replace gi:=Lib.hid gi;replace gs:=Lib.hid gs;replace gb:=Lib.hid gb
      clear E
      go_enter Tryz.func12,Tryz.ntmps12
      go_upto_region 3 with fail
      refine wp_region_in0 ?_
      intro W0 hE hN
      have bW0 : Below w.heap.size w W0:=(by rw [hE.out];(repeat(first|(with_reducible first|assumption|exact Below.refl _ _|refine je ?_|refine jl ?_)|((with_reducible refine jp ?_ ?_);first|focus(dsimp only;assumption)|focus(simp;done)|focus(dsimp only;omega))|(with_reducible refine bt ?_ (by assumption)))))
      have kf0 : blk W0 w.heap.size = some #[.int .i64 f.k,.int .i64 f.fr,.int .i64 f.to_,.int .u64 f.mi,.int .u64 f.yo,.int .u64 f.a,.int .u64 f.b,.int .i64 f.ino,.int .u64 f.isq,.int .i64 f.iof,.int .i64 f.bno,.int .u64 f.bsq,.int .i64 f.bof,.int .i64 f.bde,.int .i64 f.bpr,.int .i64 f.bbo,.int .i64 f.bli,.int .i64 f.bto,.string f.da]:=(by rw [hE.out];(apply jt;(focus repeat(first|(with_reducible first|assumption|apply jd|apply js)|((with_reducible apply jo);first|focus(dsimp only;assumption)|focus(simp;done)|focus(dsimp only;omega))|((with_reducible apply jn);first|with_reducible rfl|focus(simp;done)|focus(simp;omega))|(with_reducible apply ja)|((with_reducible apply jb);with_reducible assumption)));rfl))
      have nf:=calm_kn kf0
      clear hE
      repeat (go_big_quiet_step (fail))
      refine wpQuiet_nil ?_
      rintro _ ⟨x,rfl⟩
      have bw4 : Below w.heap.size w x.wd:=bt bW0 x.ok
      have kw4 : blk x.wd w.heap.size = some #[.int .i64 f.k,.int .i64 f.fr,.int .i64 f.to_,.int .u64 f.mi,.int .u64 f.yo,.int .u64 f.a,.int .u64 f.b,.int .i64 f.ino,.int .u64 f.isq,.int .i64 f.iof,.int .i64 f.bno,.int .u64 f.bsq,.int .i64 f.bof,.int .i64 f.bde,.int .i64 f.bpr,.int .i64 f.bbo,.int .i64 f.bli,.int .i64 f.bto,.string f.da]:=blk_below x.ok kf0
      clear nf kf0 bW0 hN
      generalize x.wd = w4 at *
      have nw4:=kn kw4
      go_upto_region 5 with fail
      refine wp_region_tail0 9 ?_
      intro W0 hE hN
      have bW0 : Below w.heap.size w W0:=(by rw [hE.out];(repeat(first|(with_reducible first|assumption|exact Below.refl _ _|refine je ?_|refine jl ?_)|((with_reducible refine jp ?_ ?_);first|focus(dsimp only;assumption)|focus(simp;done)|focus(dsimp only;omega))|(with_reducible refine bt ?_ (by assumption)))))
      have kf0 : blk W0 w.heap.size = some #[.int .i64 f.k,.int .i64 f.fr,.int .i64 f.to_,.int .u64 f.mi,.int .u64 f.yo,.int .u64 f.a,.int .u64 f.b,.int .i64 f.ino,.int .u64 f.isq,.int .i64 f.iof,.int .i64 f.bno,.int .u64 f.bsq,.int .i64 f.bof,.int .i64 f.bde,.int .i64 f.bpr,.int .i64 f.bbo,.int .i64 f.bli,.int .i64 f.bto,.string f.da]:=(by rw [hE.out];(apply jt;(focus repeat(first|(with_reducible first|assumption|apply jd|apply js)|((with_reducible apply jo);first|focus(dsimp only;assumption)|focus(simp;done)|focus(dsimp only;omega))|((with_reducible apply jn);first|with_reducible rfl|focus(simp;done)|focus(simp;omega))|(with_reducible apply ja)|((with_reducible apply jb);with_reducible assumption)));rfl))
      have nf:=calm_kn kf0
      clear hE
      simp only [List.take_succ_cons,List.take_zero,List.drop_succ_cons,List.drop_zero]
      repeat (go_big_quiet_step (fail))
      refine wpQuiet_nil ?_
      rintro _ ⟨x,rfl⟩
      have bw6 : Below w.heap.size w x.wd:=bt bW0 x.ok
      have kw6 : blk x.wd w.heap.size = some #[.int .i64 f.k,.int .i64 f.fr,.int .i64 f.to_,.int .u64 f.mi,.int .u64 f.yo,.int .u64 f.a,.int .u64 f.b,.int .i64 f.ino,.int .u64 f.isq,.int .i64 f.iof,.int .i64 f.bno,.int .u64 f.bsq,.int .i64 f.bof,.int .i64 f.bde,.int .i64 f.bpr,.int .i64 f.bbo,.int .i64 f.bli,.int .i64 f.bto,.string f.da]:=blk_below x.ok kf0
      clear nf kf0 bW0 hN
      generalize x.wd = w6 at *
      have nw6:=kn kw6
      refine wpList_load_blkG 28 (.tmp 1) w.heap.size #[.int .i64 f.k,.int .i64 f.fr,.int .i64 f.to_,.int .u64 f.mi,.int .u64 f.yo,.int .u64 f.a,.int .u64 f.b,.int .i64 f.ino,.int .u64 f.isq,.int .i64 f.iof,.int .i64 f.bno,.int .u64 f.bsq,.int .i64 f.bof,.int .i64 f.bde,.int .i64 f.bpr,.int .i64 f.bbo,.int .i64 f.bli,.int .i64 f.bto,.string f.da] kw6 _ (by kernel_rfl) rfl rfl Tryz.underlying28 rfl (by kernel_rfl) ?_
      conv => arg 5;simp [Act.put]
      go_upto_region 12 with (first|(go_at_call 32;(with_reducible refine (gw.out _).mono ?_);rintro e w7 ⟨rfl,h7⟩;have k7 : blk w7 w.heap.size = some #[.int .i64 f.k,.int .i64 f.fr,.int .i64 f.to_,.int .u64 f.mi,.int .u64 f.yo,.int .u64 f.a,.int .u64 f.b,.int .i64 f.ino,.int .u64 f.isq,.int .i64 f.iof,.int .i64 f.bno,.int .u64 f.bsq,.int .i64 f.bof,.int .i64 f.bde,.int .i64 f.bpr,.int .i64 f.bbo,.int .i64 f.bli,.int .i64 f.bto,.string f.da]:=(by (apply jt;(focus repeat(first|(with_reducible first|assumption|apply jd|apply js)|((with_reducible apply jo);first|focus(dsimp only;assumption)|focus(simp;done)|focus(dsimp only;omega))|((with_reducible apply jn);first|with_reducible rfl|focus(simp;done)|focus(simp;omega))|(with_reducible apply ja)|((with_reducible apply jb);with_reducible assumption)));rfl));have n7:=kn k7;have b7 : Below w.heap.size w w7:=(by (repeat(first|(with_reducible first|assumption|exact Below.refl _ _|refine je ?_|refine jl ?_)|((with_reducible refine jp ?_ ?_);first|focus(dsimp only;assumption)|focus(simp;done)|focus(dsimp only;omega))|(with_reducible refine bt ?_ (by assumption))))))|(go_at_call 28;(with_reducible refine (gi.out _).mono ?_);rintro e wx ⟨rfl,rfl⟩)|(go_at_call 34;(with_reducible refine (gb.out _).mono ?_);rintro e w8 ⟨rfl,h8⟩;have k8 : blk w8 w.heap.size = some #[.int .i64 f.k,.int .i64 f.fr,.int .i64 f.to_,.int .u64 f.mi,.int .u64 f.yo,.int .u64 f.a,.int .u64 f.b,.int .i64 f.ino,.int .u64 f.isq,.int .i64 f.iof,.int .i64 f.bno,.int .u64 f.bsq,.int .i64 f.bof,.int .i64 f.bde,.int .i64 f.bpr,.int .i64 f.bbo,.int .i64 f.bli,.int .i64 f.bto,.string f.da]:=(by (apply jt;(focus repeat(first|(with_reducible first|assumption|apply jd|apply js)|((with_reducible apply jo);first|focus(dsimp only;assumption)|focus(simp;done)|focus(dsimp only;omega))|((with_reducible apply jn);first|with_reducible rfl|focus(simp;done)|focus(simp;omega))|(with_reducible apply ja)|((with_reducible apply jb);with_reducible assumption)));rfl));have n8:=kn k8;have b8 : Below w.heap.size w w8:=(by (repeat(first|(with_reducible first|assumption|exact Below.refl _ _|refine je ?_|refine jl ?_)|((with_reducible refine jp ?_ ?_);first|focus(dsimp only;assumption)|focus(simp;done)|focus(dsimp only;omega))|(with_reducible refine bt ?_ (by assumption)))))))
      refine wp_region_in (by kernel_rfl) (by kernel_rfl) ?_
      intro W0 hE hN
      have bW0 : Below w.heap.size w W0:=(by rw [hE.out];(repeat(first|(with_reducible first|assumption|exact Below.refl _ _|refine je ?_|refine jl ?_)|((with_reducible refine jp ?_ ?_);first|focus(dsimp only;assumption)|focus(simp;done)|focus(dsimp only;omega))|(with_reducible refine bt ?_ (by assumption)))))
      have kf0 : blk W0 w.heap.size = some #[.int .i64 f.k,.int .i64 f.fr,.int .i64 f.to_,.int .u64 f.mi,.int .u64 f.yo,.int .u64 f.a,.int .u64 f.b,.int .i64 f.ino,.int .u64 f.isq,.int .i64 f.iof,.int .i64 f.bno,.int .u64 f.bsq,.int .i64 f.bof,.int .i64 f.bde,.int .i64 f.bpr,.int .i64 f.bbo,.int .i64 f.bli,.int .i64 f.bto,.string f.da]:=(by rw [hE.out];(apply jt;(focus repeat(first|(with_reducible first|assumption|apply jd|apply js)|((with_reducible apply jo);first|focus(dsimp only;assumption)|focus(simp;done)|focus(dsimp only;omega))|((with_reducible apply jn);first|with_reducible rfl|focus(simp;done)|focus(simp;omega))|(with_reducible apply ja)|((with_reducible apply jb);with_reducible assumption)));rfl))
      have nf:=calm_kn kf0
      clear hE
      repeat (go_big_quiet_step (fail))
      refine wpQuiet_nil ?_
      rintro _ ⟨x,rfl⟩
      have b9 : Below w.heap.size w x.wd:=bt bW0 x.ok
      clear nf kf0 bW0 hN
      generalize x.wd = w9 at *
      go_wp2
      go_ret
      exact ⟨rfl,b9⟩
  · rw [frC_two hk17 (.inl hr)]
    by_cases n1 : f.fr < 1
    · exact rcheck_b1 f hk17  n1 w
    by_cases n2 : 16 < f.fr
    · exact rcheck_b2 f hk17 n1 n2 w
    by_cases n3 : f.to_ < 1
    · exact rcheck_b3 f hk17 n1 n2 n3 w
    by_cases n4 : 16 < f.to_
    · exact rcheck_b4 f hk17 n1 n2 n3 n4 w
    by_cases n5 : f.fr = f.to_
    · exact rcheck_b5 f hk17 n1 n2 n3 n4 n5 w
    by_cases n6 : f.mi < 1
    · exact rcheck_b6 f hk17 n1 n2 n3 n4 n5 n6 w
    by_cases n7 : 1099511627776 < f.mi
    · exact rcheck_b7 f hk17 n1 n2 n3 n4 n5 n6 n7 w
    by_cases n8 : 1099511627776 < f.yo
    · exact rcheck_b8 f hk17 n1 n2 n3 n4 n5 n6 n7 n8 w
    by_cases ha : f.k ≠ 1 ∧ 1125899906842624 < f.a
    · exact rcheck_a f hk17 n1 n2 n3 n4 n5 n6 n7 n8 ha.1 ha.2 w
    by_cases hb : wrgB f = true
    · exact rcheck_b f hk17 n1 n2 n3 n4 n5 n6 n7 n8 ha hb w
    exact absurd ⟨by omega,by omega,by omega,by omega,by omega,by omega,by omega,by omega,by omega,by unfold wrgB at hb;simp only [decide_eq_true_eq] at hb;omega,by unfold wrgB at hb;simp only [decide_eq_true_eq] at hb;omega,by unfold wrgB at hb;simp only [decide_eq_true_eq] at hb;omega⟩ hr
end Go.Proofs.YtaiofjffoboicaaGreatDoor
namespace Go.Proofs.YtaiofjffoboicaaGreatDoor
open Go.RowKit
set_option maxRecDepth 100000 in
set_option maxHeartbeats 6400000 in
theorem rcheck_k6 (f : Fr) (hk : f.k = 6) (hda : f.da.size ≤ maxLen) (w : World) : Calls Tryz.prog 12 #[frv f] w fun e w' => e = .returned (.int .i64 (frC f)) ∧ Below w.heap.size w w':=by
  have hk17 : 1 ≤ f.k ∧ f.k ≤ 7:=by omega
  have gb : ∀ w,Calls Tryz.prog 34 #[.agg #[.int .i64 f.ino,.int .u64 f.isq,.int .i64 f.iof]] w fun e w' => e = .returned (.int .i64 (bcF f)) ∧ Below w.heap.size w w':=fun w => by have:=refCheckID_any f.ino f.isq f.iof w;rwa [show idC f.ino f.isq f.iof = bcF f by unfold bcF;rw [if_neg (by omega),if_pos (by omega)]] at this
  have gi : ∀ w,Calls Tryz.prog 28 #[.int .i64 f.k] w fun e w' => e = .returned (.bool true) ∧ w = w':=fun w => by have:=refHasID_any f.k w;rwa [show hasI f.k = true by rw [hk];rfl] at this
  have gs : ∀ w,Calls Tryz.prog 35 #[.agg #[.int .i64 f.k,.int .i64 f.fr,.int .i64 f.to_,.int .u64 f.mi,.int .u64 f.yo,.int .u64 f.a,.int .u64 f.b,.int .i64 f.ino,.int .u64 f.isq,.int .i64 f.iof,.int .i64 f.bno,.int .u64 f.bsq,.int .i64 f.bof,.int .i64 f.bde,.int .i64 f.bpr,.int .i64 f.bbo,.int .i64 f.bli,.int .i64 f.bto,.string f.da]] w fun e w' => e = .returned (.agg #[.int .i64 f.k,.int .i64 f.fr,.int .i64 f.to_,.int .u64 f.mi,.int .u64 f.yo,.int .u64 f.a,.int .u64 f.b,.int .i64 f.ino,.int .u64 f.isq,.int .i64 f.iof,.int .i64 0,.int .u64 0,.int .i64 0,.int .i64 0,.int .i64 0,.int .i64 0,.int .i64 0,.int .i64 0,.string ⟨#[]⟩]) ∧ Below w.heap.size w w':=fun w => refUsed_k6 f hk w
  have E : ∀ w,Sem.run Tryz.prog (binOp BinOp.neq 28 (.agg #[.int .i64 f.k,.int .i64 f.fr,.int .i64 f.to_,.int .u64 f.mi,.int .u64 f.yo,.int .u64 f.a,.int .u64 f.b,.int .i64 f.ino,.int .u64 f.isq,.int .i64 f.iof,.int .i64 0,.int .u64 0,.int .i64 0,.int .i64 0,.int .i64 0,.int .i64 0,.int .i64 0,.int .i64 0,.string ⟨#[]⟩]) (.agg #[.int .i64 f.k,.int .i64 f.fr,.int .i64 f.to_,.int .u64 f.mi,.int .u64 f.yo,.int .u64 f.a,.int .u64 f.b,.int .i64 f.ino,.int .u64 f.isq,.int .i64 f.iof,.int .i64 f.bno,.int .u64 f.bsq,.int .i64 f.bof,.int .i64 f.bde,.int .i64 f.bpr,.int .i64 f.bbo,.int .i64 f.bli,.int .i64 f.bto,.string f.da])) w = .ok (.bool (!decide (clnF f))) w:=fun w => by have:=run_frNe (bareF f) f w;rw [bare_eq f hk17] at this;rwa [show bareF f = ⟨f.k,f.fr,f.to_,f.mi,f.yo,f.a,f.b,f.ino,f.isq,f.iof,0,0,0,0,0,0,0,0,⟨#[]⟩⟩ by unfold bareF;rw [hk];rfl] at this
  by_cases hr : rngF f
  · have hfr : frC f = if bcF f ≠ 0 then bcF f else if clnF f then 0 else 3:=by unfold frC;rw [if_neg (not_not_intro hk17),if_neg (not_not_intro hr)]
    obtain ⟨r1,r2,r3,r4,r5,r6,r7,r8,r9,r10,r11,r12⟩:=hr
    have hwr : wrgB f = false:=by unfold wrgB;simp only [decide_eq_false_iff_not];omega
    have gw : ∀ w,Calls Tryz.prog 32 #[.agg #[.int .i64 f.k,.int .i64 f.fr,.int .i64 f.to_,.int .u64 f.mi,.int .u64 f.yo,.int .u64 f.a,.int .u64 f.b,.int .i64 f.ino,.int .u64 f.isq,.int .i64 f.iof,.int .i64 f.bno,.int .u64 f.bsq,.int .i64 f.bof,.int .i64 f.bde,.int .i64 f.bpr,.int .i64 f.bbo,.int .i64 f.bli,.int .i64 f.bto,.string f.da]] w fun e w' => e = .returned (.bool false) ∧ Below w.heap.size w w':=fun w => by have:=refWrongB_any f w;rwa [hwr] at this
    have kk1 : decide (f.k < 1) = false:=decide_eq_false (by omega)
    have kk7 : decide (7 < f.k) = false:=decide_eq_false (by omega)
    have t1 : decide (f.fr < 1) = false:=decide_eq_false (by omega)
    have t2 : decide (16 < f.fr) = false:=decide_eq_false (by omega)
    have t3 : decide (f.to_ < 1) = false:=decide_eq_false (by omega)
    have t4 : decide (16 < f.to_) = false:=decide_eq_false (by omega)
    have t5 : (f.fr == f.to_) = false:=by simp;omega
    have t6 : decide (f.mi < 1) = false:=decide_eq_false (by omega)
    have t7 : decide (1099511627776 < f.mi) = false:=decide_eq_false (by omega)
    have t8 : decide (1099511627776 < f.yo) = false:=decide_eq_false (by omega)
    have a1 : (f.k != 1) = true:=by simp [hk]
    have a2 : decide (1125899906842624 < f.a) = false:=decide_eq_false (by have:=r9 (by omega);omega)
    have e3 : (f.k == 3) = false:=by simp [hk]
    clear r1 r2 r3 r4 r5 r6 r7 r8 r9 r10 r11 r12 hwr
    obtain ⟨v,hv⟩ : ∃ v,bcF f = v:=⟨_,rfl⟩
    rw [hv] at hfr gb
    clear hv
    rw [hfr]
    clear hfr hk hk17
    have hun : undef = Value.tuple #[]:=rfl
    by_cases hv0 : v = 0
    · subst hv0
      rw [if_neg (by simp)]
      replace gw:=Lib.hid gw;replace gi:=Lib.hid gi;replace gs:=Lib.hid gs;replace gb:=Lib.hid gb
      obtain ⟨cl,hcl⟩ : ∃ q,(!decide (clnF f)) = q:=⟨_,rfl⟩
      rw [hcl] at E
      obtain ⟨R,hR⟩ : ∃ R,(if clnF f then (0 : Int) else 3) = R:=⟨_,rfl⟩
      have HT : Hid (cl = true → R = 3):=Lib.hid (fun h => by rw [← hR];exact if_neg (fun hc => by rw [decide_eq_true hc,h] at hcl;exact absurd hcl (by decide)))
      have HF : Hid (cl = false → R = 0):=Lib.hid (fun h => by rw [← hR];exact if_pos (Decidable.byContradiction fun hc => by rw [decide_eq_false hc,h] at hcl;exact absurd hcl (by decide)))
      rw [hR]
      clear hR hcl
      go_enter Tryz.func12,Tryz.ntmps12
      go_upto_region 3 with fail
      refine wp_region_in0 ?_
      intro W0 hE hN
      have bW0 : Below w.heap.size w W0:=(by rw [hE.out];(repeat(first|(with_reducible first|assumption|exact Below.refl _ _|refine je ?_|refine jl ?_)|((with_reducible refine jp ?_ ?_);first|focus(dsimp only;assumption)|focus(simp;done)|focus(dsimp only;omega))|(with_reducible refine bt ?_ (by assumption)))))
      have kf0 : blk W0 w.heap.size = some #[.int .i64 f.k,.int .i64 f.fr,.int .i64 f.to_,.int .u64 f.mi,.int .u64 f.yo,.int .u64 f.a,.int .u64 f.b,.int .i64 f.ino,.int .u64 f.isq,.int .i64 f.iof,.int .i64 f.bno,.int .u64 f.bsq,.int .i64 f.bof,.int .i64 f.bde,.int .i64 f.bpr,.int .i64 f.bbo,.int .i64 f.bli,.int .i64 f.bto,.string f.da]:=(by rw [hE.out];(apply jt;(focus repeat(first|(with_reducible first|assumption|apply jd|apply js)|((with_reducible apply jo);first|focus(dsimp only;assumption)|focus(simp;done)|focus(dsimp only;omega))|((with_reducible apply jn);first|with_reducible rfl|focus(simp;done)|focus(simp;omega))|(with_reducible apply ja)|((with_reducible apply jb);with_reducible assumption)));rfl))
      have nf:=calm_kn kf0
      clear hE
      repeat (go_big_quiet_step (fail))
      refine wpQuiet_nil ?_
      rintro _ ⟨x,rfl⟩
      have bw4 : Below w.heap.size w x.wd:=bt bW0 x.ok
      have kw4 : blk x.wd w.heap.size = some #[.int .i64 f.k,.int .i64 f.fr,.int .i64 f.to_,.int .u64 f.mi,.int .u64 f.yo,.int .u64 f.a,.int .u64 f.b,.int .i64 f.ino,.int .u64 f.isq,.int .i64 f.iof,.int .i64 f.bno,.int .u64 f.bsq,.int .i64 f.bof,.int .i64 f.bde,.int .i64 f.bpr,.int .i64 f.bbo,.int .i64 f.bli,.int .i64 f.bto,.string f.da]:=blk_below x.ok kf0
      clear nf kf0 bW0 hN
      generalize x.wd = w4 at *
      have nw4:=kn kw4
      go_upto_region 5 with fail
      refine wp_region_tail0 9 ?_
      intro W0 hE hN
      have bW0 : Below w.heap.size w W0:=(by rw [hE.out];(repeat(first|(with_reducible first|assumption|exact Below.refl _ _|refine je ?_|refine jl ?_)|((with_reducible refine jp ?_ ?_);first|focus(dsimp only;assumption)|focus(simp;done)|focus(dsimp only;omega))|(with_reducible refine bt ?_ (by assumption)))))
      have kf0 : blk W0 w.heap.size = some #[.int .i64 f.k,.int .i64 f.fr,.int .i64 f.to_,.int .u64 f.mi,.int .u64 f.yo,.int .u64 f.a,.int .u64 f.b,.int .i64 f.ino,.int .u64 f.isq,.int .i64 f.iof,.int .i64 f.bno,.int .u64 f.bsq,.int .i64 f.bof,.int .i64 f.bde,.int .i64 f.bpr,.int .i64 f.bbo,.int .i64 f.bli,.int .i64 f.bto,.string f.da]:=(by rw [hE.out];(apply jt;(focus repeat(first|(with_reducible first|assumption|apply jd|apply js)|((with_reducible apply jo);first|focus(dsimp only;assumption)|focus(simp;done)|focus(dsimp only;omega))|((with_reducible apply jn);first|with_reducible rfl|focus(simp;done)|focus(simp;omega))|(with_reducible apply ja)|((with_reducible apply jb);with_reducible assumption)));rfl))
      have nf:=calm_kn kf0
      clear hE
      simp only [List.take_succ_cons,List.take_zero,List.drop_succ_cons,List.drop_zero]
      repeat (go_big_quiet_step (fail))
      refine wpQuiet_nil ?_
      rintro _ ⟨x,rfl⟩
      have bw6 : Below w.heap.size w x.wd:=bt bW0 x.ok
      have kw6 : blk x.wd w.heap.size = some #[.int .i64 f.k,.int .i64 f.fr,.int .i64 f.to_,.int .u64 f.mi,.int .u64 f.yo,.int .u64 f.a,.int .u64 f.b,.int .i64 f.ino,.int .u64 f.isq,.int .i64 f.iof,.int .i64 f.bno,.int .u64 f.bsq,.int .i64 f.bof,.int .i64 f.bde,.int .i64 f.bpr,.int .i64 f.bbo,.int .i64 f.bli,.int .i64 f.bto,.string f.da]:=blk_below x.ok kf0
      clear nf kf0 bW0 hN
      generalize x.wd = w6 at *
      have nw6:=kn kw6
      refine wpList_load_blkG 28 (.tmp 1) w.heap.size #[.int .i64 f.k,.int .i64 f.fr,.int .i64 f.to_,.int .u64 f.mi,.int .u64 f.yo,.int .u64 f.a,.int .u64 f.b,.int .i64 f.ino,.int .u64 f.isq,.int .i64 f.iof,.int .i64 f.bno,.int .u64 f.bsq,.int .i64 f.bof,.int .i64 f.bde,.int .i64 f.bpr,.int .i64 f.bbo,.int .i64 f.bli,.int .i64 f.bto,.string f.da] kw6 _ (by kernel_rfl) rfl rfl Tryz.underlying28 rfl (by kernel_rfl) ?_
      conv => arg 5;simp [Act.put]
      go_upto_region 12 with (first|(go_at_call 32;(with_reducible refine (gw.out _).mono ?_);rintro e w7 ⟨rfl,h7⟩;have k7 : blk w7 w.heap.size = some #[.int .i64 f.k,.int .i64 f.fr,.int .i64 f.to_,.int .u64 f.mi,.int .u64 f.yo,.int .u64 f.a,.int .u64 f.b,.int .i64 f.ino,.int .u64 f.isq,.int .i64 f.iof,.int .i64 f.bno,.int .u64 f.bsq,.int .i64 f.bof,.int .i64 f.bde,.int .i64 f.bpr,.int .i64 f.bbo,.int .i64 f.bli,.int .i64 f.bto,.string f.da]:=(by (apply jt;(focus repeat(first|(with_reducible first|assumption|apply jd|apply js)|((with_reducible apply jo);first|focus(dsimp only;assumption)|focus(simp;done)|focus(dsimp only;omega))|((with_reducible apply jn);first|with_reducible rfl|focus(simp;done)|focus(simp;omega))|(with_reducible apply ja)|((with_reducible apply jb);with_reducible assumption)));rfl));have n7:=kn k7;have b7 : Below w.heap.size w w7:=(by (repeat(first|(with_reducible first|assumption|exact Below.refl _ _|refine je ?_|refine jl ?_)|((with_reducible refine jp ?_ ?_);first|focus(dsimp only;assumption)|focus(simp;done)|focus(dsimp only;omega))|(with_reducible refine bt ?_ (by assumption))))))|(go_at_call 28;(with_reducible refine (gi.out _).mono ?_);rintro e wx ⟨rfl,rfl⟩)|(go_at_call 34;(with_reducible refine (gb.out _).mono ?_);rintro e w8 ⟨rfl,h8⟩;have k8 : blk w8 w.heap.size = some #[.int .i64 f.k,.int .i64 f.fr,.int .i64 f.to_,.int .u64 f.mi,.int .u64 f.yo,.int .u64 f.a,.int .u64 f.b,.int .i64 f.ino,.int .u64 f.isq,.int .i64 f.iof,.int .i64 f.bno,.int .u64 f.bsq,.int .i64 f.bof,.int .i64 f.bde,.int .i64 f.bpr,.int .i64 f.bbo,.int .i64 f.bli,.int .i64 f.bto,.string f.da]:=(by (apply jt;(focus repeat(first|(with_reducible first|assumption|apply jd|apply js)|((with_reducible apply jo);first|focus(dsimp only;assumption)|focus(simp;done)|focus(dsimp only;omega))|((with_reducible apply jn);first|with_reducible rfl|focus(simp;done)|focus(simp;omega))|(with_reducible apply ja)|((with_reducible apply jb);with_reducible assumption)));rfl));have n8:=kn k8;have b8 : Below w.heap.size w w8:=(by (repeat(first|(with_reducible first|assumption|exact Below.refl _ _|refine je ?_|refine jl ?_)|((with_reducible refine jp ?_ ?_);first|focus(dsimp only;assumption)|focus(simp;done)|focus(dsimp only;omega))|(with_reducible refine bt ?_ (by assumption)))))))
      refine wp_region_in (by kernel_rfl) (by kernel_rfl) ?_
      intro W0 hE hN
      have bW0 : Below w.heap.size w W0:=(by rw [hE.out];(repeat(first|(with_reducible first|assumption|exact Below.refl _ _|refine je ?_|refine jl ?_)|((with_reducible refine jp ?_ ?_);first|focus(dsimp only;assumption)|focus(simp;done)|focus(dsimp only;omega))|(with_reducible refine bt ?_ (by assumption)))))
      have kf0 : blk W0 w.heap.size = some #[.int .i64 f.k,.int .i64 f.fr,.int .i64 f.to_,.int .u64 f.mi,.int .u64 f.yo,.int .u64 f.a,.int .u64 f.b,.int .i64 f.ino,.int .u64 f.isq,.int .i64 f.iof,.int .i64 f.bno,.int .u64 f.bsq,.int .i64 f.bof,.int .i64 f.bde,.int .i64 f.bpr,.int .i64 f.bbo,.int .i64 f.bli,.int .i64 f.bto,.string f.da]:=(by rw [hE.out];(apply jt;(focus repeat(first|(with_reducible first|assumption|apply jd|apply js)|((with_reducible apply jo);first|focus(dsimp only;assumption)|focus(simp;done)|focus(dsimp only;omega))|((with_reducible apply jn);first|with_reducible rfl|focus(simp;done)|focus(simp;omega))|(with_reducible apply ja)|((with_reducible apply jb);with_reducible assumption)));rfl))
      have nf:=calm_kn kf0
      clear hE
      refine wpQuiet_split 3 ?_
      simp only [List.take_succ_cons,List.take_zero,List.drop_succ_cons,List.drop_zero]
      repeat (go_big_quiet_step (fail))
      refine wpQuiet_nil ?_
      refine wpQuiet_load_blkG 28 (.tmp 1) w.heap.size #[.int .i64 f.k,.int .i64 f.fr,.int .i64 f.to_,.int .u64 f.mi,.int .u64 f.yo,.int .u64 f.a,.int .u64 f.b,.int .i64 f.ino,.int .u64 f.isq,.int .i64 f.iof,.int .i64 f.bno,.int .u64 f.bsq,.int .i64 f.bof,.int .i64 f.bde,.int .i64 f.bpr,.int .i64 f.bbo,.int .i64 f.bli,.int .i64 f.bto,.string f.da] (fun W hW => by obtain ⟨x,rfl⟩:=hW;exact blk_below x.ok kf0) _ (by kernel_rfl) rfl rfl Tryz.underlying28 rfl (by kernel_rfl) ?_
      conv => arg 6;simp [Act.put]
      refine wpQuiet_split 1 ?_
      simp only [List.take_succ_cons,List.take_zero,List.drop_succ_cons,List.drop_zero]
      repeat (go_big_quiet_step ((go_at_call 35;(with_reducible refine Class.go _ (gs.out _)))))
      refine wpQuiet_nil ?_
      refine wpQuiet_load_blkG 28 (.tmp 1) w.heap.size #[.int .i64 f.k,.int .i64 f.fr,.int .i64 f.to_,.int .u64 f.mi,.int .u64 f.yo,.int .u64 f.a,.int .u64 f.b,.int .i64 f.ino,.int .u64 f.isq,.int .i64 f.iof,.int .i64 f.bno,.int .u64 f.bsq,.int .i64 f.bof,.int .i64 f.bde,.int .i64 f.bpr,.int .i64 f.bbo,.int .i64 f.bli,.int .i64 f.bto,.string f.da] (fun W hW => by obtain ⟨x,rfl⟩:=hW;exact blk_below x.ok kf0) _ (by kernel_rfl) rfl rfl Tryz.underlying28 rfl (by kernel_rfl) ?_
      conv => arg 6;simp [Act.put]
      repeat (go_big_quiet_step (fail))
      refine wpQuiet_nil ?_
      rintro _ ⟨x,rfl⟩
      have b9 : Below w.heap.size w x.wd:=bt bW0 x.ok
      clear nf kf0 bW0 hN
      generalize x.wd = w9 at *
      cases cl
      · go_wp2
        go_ret
        exact ⟨ret_int (HF.out (by first|rfl|trivial)).symm,b9⟩
      · go_wp2
        go_ret
        exact ⟨ret_int (HT.out (by first|rfl|trivial)).symm,b9⟩
    · rw [if_pos hv0]
      have hv1 : (v == 0) = false:=by simp [hv0]
      clear hv0
      replace gw:=Lib.hid gw;replace gi:=Lib.hid gi;replace gs:=Lib.hid gs;replace gb:=Lib.hid gb
      clear E
      go_enter Tryz.func12,Tryz.ntmps12
      go_upto_region 3 with fail
      refine wp_region_in0 ?_
      intro W0 hE hN
      have bW0 : Below w.heap.size w W0:=(by rw [hE.out];(repeat(first|(with_reducible first|assumption|exact Below.refl _ _|refine je ?_|refine jl ?_)|((with_reducible refine jp ?_ ?_);first|focus(dsimp only;assumption)|focus(simp;done)|focus(dsimp only;omega))|(with_reducible refine bt ?_ (by assumption)))))
      have kf0 : blk W0 w.heap.size = some #[.int .i64 f.k,.int .i64 f.fr,.int .i64 f.to_,.int .u64 f.mi,.int .u64 f.yo,.int .u64 f.a,.int .u64 f.b,.int .i64 f.ino,.int .u64 f.isq,.int .i64 f.iof,.int .i64 f.bno,.int .u64 f.bsq,.int .i64 f.bof,.int .i64 f.bde,.int .i64 f.bpr,.int .i64 f.bbo,.int .i64 f.bli,.int .i64 f.bto,.string f.da]:=(by rw [hE.out];(apply jt;(focus repeat(first|(with_reducible first|assumption|apply jd|apply js)|((with_reducible apply jo);first|focus(dsimp only;assumption)|focus(simp;done)|focus(dsimp only;omega))|((with_reducible apply jn);first|with_reducible rfl|focus(simp;done)|focus(simp;omega))|(with_reducible apply ja)|((with_reducible apply jb);with_reducible assumption)));rfl))
      have nf:=calm_kn kf0
      clear hE
      repeat (go_big_quiet_step (fail))
      refine wpQuiet_nil ?_
      rintro _ ⟨x,rfl⟩
      have bw4 : Below w.heap.size w x.wd:=bt bW0 x.ok
      have kw4 : blk x.wd w.heap.size = some #[.int .i64 f.k,.int .i64 f.fr,.int .i64 f.to_,.int .u64 f.mi,.int .u64 f.yo,.int .u64 f.a,.int .u64 f.b,.int .i64 f.ino,.int .u64 f.isq,.int .i64 f.iof,.int .i64 f.bno,.int .u64 f.bsq,.int .i64 f.bof,.int .i64 f.bde,.int .i64 f.bpr,.int .i64 f.bbo,.int .i64 f.bli,.int .i64 f.bto,.string f.da]:=blk_below x.ok kf0
      clear nf kf0 bW0 hN
      generalize x.wd = w4 at *
      have nw4:=kn kw4
      go_upto_region 5 with fail
      refine wp_region_tail0 9 ?_
      intro W0 hE hN
      have bW0 : Below w.heap.size w W0:=(by rw [hE.out];(repeat(first|(with_reducible first|assumption|exact Below.refl _ _|refine je ?_|refine jl ?_)|((with_reducible refine jp ?_ ?_);first|focus(dsimp only;assumption)|focus(simp;done)|focus(dsimp only;omega))|(with_reducible refine bt ?_ (by assumption)))))
      have kf0 : blk W0 w.heap.size = some #[.int .i64 f.k,.int .i64 f.fr,.int .i64 f.to_,.int .u64 f.mi,.int .u64 f.yo,.int .u64 f.a,.int .u64 f.b,.int .i64 f.ino,.int .u64 f.isq,.int .i64 f.iof,.int .i64 f.bno,.int .u64 f.bsq,.int .i64 f.bof,.int .i64 f.bde,.int .i64 f.bpr,.int .i64 f.bbo,.int .i64 f.bli,.int .i64 f.bto,.string f.da]:=(by rw [hE.out];(apply jt;(focus repeat(first|(with_reducible first|assumption|apply jd|apply js)|((with_reducible apply jo);first|focus(dsimp only;assumption)|focus(simp;done)|focus(dsimp only;omega))|((with_reducible apply jn);first|with_reducible rfl|focus(simp;done)|focus(simp;omega))|(with_reducible apply ja)|((with_reducible apply jb);with_reducible assumption)));rfl))
      have nf:=calm_kn kf0
      clear hE
      simp only [List.take_succ_cons,List.take_zero,List.drop_succ_cons,List.drop_zero]
      repeat (go_big_quiet_step (fail))
      refine wpQuiet_nil ?_
      rintro _ ⟨x,rfl⟩
      have bw6 : Below w.heap.size w x.wd:=bt bW0 x.ok
      have kw6 : blk x.wd w.heap.size = some #[.int .i64 f.k,.int .i64 f.fr,.int .i64 f.to_,.int .u64 f.mi,.int .u64 f.yo,.int .u64 f.a,.int .u64 f.b,.int .i64 f.ino,.int .u64 f.isq,.int .i64 f.iof,.int .i64 f.bno,.int .u64 f.bsq,.int .i64 f.bof,.int .i64 f.bde,.int .i64 f.bpr,.int .i64 f.bbo,.int .i64 f.bli,.int .i64 f.bto,.string f.da]:=blk_below x.ok kf0
      clear nf kf0 bW0 hN
      generalize x.wd = w6 at *
      have nw6:=kn kw6
      refine wpList_load_blkG 28 (.tmp 1) w.heap.size #[.int .i64 f.k,.int .i64 f.fr,.int .i64 f.to_,.int .u64 f.mi,.int .u64 f.yo,.int .u64 f.a,.int .u64 f.b,.int .i64 f.ino,.int .u64 f.isq,.int .i64 f.iof,.int .i64 f.bno,.int .u64 f.bsq,.int .i64 f.bof,.int .i64 f.bde,.int .i64 f.bpr,.int .i64 f.bbo,.int .i64 f.bli,.int .i64 f.bto,.string f.da] kw6 _ (by kernel_rfl) rfl rfl Tryz.underlying28 rfl (by kernel_rfl) ?_
      conv => arg 5;simp [Act.put]
      go_upto_region 12 with (first|(go_at_call 32;(with_reducible refine (gw.out _).mono ?_);rintro e w7 ⟨rfl,h7⟩;have k7 : blk w7 w.heap.size = some #[.int .i64 f.k,.int .i64 f.fr,.int .i64 f.to_,.int .u64 f.mi,.int .u64 f.yo,.int .u64 f.a,.int .u64 f.b,.int .i64 f.ino,.int .u64 f.isq,.int .i64 f.iof,.int .i64 f.bno,.int .u64 f.bsq,.int .i64 f.bof,.int .i64 f.bde,.int .i64 f.bpr,.int .i64 f.bbo,.int .i64 f.bli,.int .i64 f.bto,.string f.da]:=(by (apply jt;(focus repeat(first|(with_reducible first|assumption|apply jd|apply js)|((with_reducible apply jo);first|focus(dsimp only;assumption)|focus(simp;done)|focus(dsimp only;omega))|((with_reducible apply jn);first|with_reducible rfl|focus(simp;done)|focus(simp;omega))|(with_reducible apply ja)|((with_reducible apply jb);with_reducible assumption)));rfl));have n7:=kn k7;have b7 : Below w.heap.size w w7:=(by (repeat(first|(with_reducible first|assumption|exact Below.refl _ _|refine je ?_|refine jl ?_)|((with_reducible refine jp ?_ ?_);first|focus(dsimp only;assumption)|focus(simp;done)|focus(dsimp only;omega))|(with_reducible refine bt ?_ (by assumption))))))|(go_at_call 28;(with_reducible refine (gi.out _).mono ?_);rintro e wx ⟨rfl,rfl⟩)|(go_at_call 34;(with_reducible refine (gb.out _).mono ?_);rintro e w8 ⟨rfl,h8⟩;have k8 : blk w8 w.heap.size = some #[.int .i64 f.k,.int .i64 f.fr,.int .i64 f.to_,.int .u64 f.mi,.int .u64 f.yo,.int .u64 f.a,.int .u64 f.b,.int .i64 f.ino,.int .u64 f.isq,.int .i64 f.iof,.int .i64 f.bno,.int .u64 f.bsq,.int .i64 f.bof,.int .i64 f.bde,.int .i64 f.bpr,.int .i64 f.bbo,.int .i64 f.bli,.int .i64 f.bto,.string f.da]:=(by (apply jt;(focus repeat(first|(with_reducible first|assumption|apply jd|apply js)|((with_reducible apply jo);first|focus(dsimp only;assumption)|focus(simp;done)|focus(dsimp only;omega))|((with_reducible apply jn);first|with_reducible rfl|focus(simp;done)|focus(simp;omega))|(with_reducible apply ja)|((with_reducible apply jb);with_reducible assumption)));rfl));have n8:=kn k8;have b8 : Below w.heap.size w w8:=(by (repeat(first|(with_reducible first|assumption|exact Below.refl _ _|refine je ?_|refine jl ?_)|((with_reducible refine jp ?_ ?_);first|focus(dsimp only;assumption)|focus(simp;done)|focus(dsimp only;omega))|(with_reducible refine bt ?_ (by assumption)))))))
      refine wp_region_in (by kernel_rfl) (by kernel_rfl) ?_
      intro W0 hE hN
      have bW0 : Below w.heap.size w W0:=(by rw [hE.out];(repeat(first|(with_reducible first|assumption|exact Below.refl _ _|refine je ?_|refine jl ?_)|((with_reducible refine jp ?_ ?_);first|focus(dsimp only;assumption)|focus(simp;done)|focus(dsimp only;omega))|(with_reducible refine bt ?_ (by assumption)))))
      have kf0 : blk W0 w.heap.size = some #[.int .i64 f.k,.int .i64 f.fr,.int .i64 f.to_,.int .u64 f.mi,.int .u64 f.yo,.int .u64 f.a,.int .u64 f.b,.int .i64 f.ino,.int .u64 f.isq,.int .i64 f.iof,.int .i64 f.bno,.int .u64 f.bsq,.int .i64 f.bof,.int .i64 f.bde,.int .i64 f.bpr,.int .i64 f.bbo,.int .i64 f.bli,.int .i64 f.bto,.string f.da]:=(by rw [hE.out];(apply jt;(focus repeat(first|(with_reducible first|assumption|apply jd|apply js)|((with_reducible apply jo);first|focus(dsimp only;assumption)|focus(simp;done)|focus(dsimp only;omega))|((with_reducible apply jn);first|with_reducible rfl|focus(simp;done)|focus(simp;omega))|(with_reducible apply ja)|((with_reducible apply jb);with_reducible assumption)));rfl))
      have nf:=calm_kn kf0
      clear hE
      repeat (go_big_quiet_step (fail))
      refine wpQuiet_nil ?_
      rintro _ ⟨x,rfl⟩
      have b9 : Below w.heap.size w x.wd:=bt bW0 x.ok
      clear nf kf0 bW0 hN
      generalize x.wd = w9 at *
      go_wp2
      go_ret
      exact ⟨rfl,b9⟩
  · rw [frC_two hk17 (.inl hr)]
    by_cases n1 : f.fr < 1
    · exact rcheck_b1 f hk17  n1 w
    by_cases n2 : 16 < f.fr
    · exact rcheck_b2 f hk17 n1 n2 w
    by_cases n3 : f.to_ < 1
    · exact rcheck_b3 f hk17 n1 n2 n3 w
    by_cases n4 : 16 < f.to_
    · exact rcheck_b4 f hk17 n1 n2 n3 n4 w
    by_cases n5 : f.fr = f.to_
    · exact rcheck_b5 f hk17 n1 n2 n3 n4 n5 w
    by_cases n6 : f.mi < 1
    · exact rcheck_b6 f hk17 n1 n2 n3 n4 n5 n6 w
    by_cases n7 : 1099511627776 < f.mi
    · exact rcheck_b7 f hk17 n1 n2 n3 n4 n5 n6 n7 w
    by_cases n8 : 1099511627776 < f.yo
    · exact rcheck_b8 f hk17 n1 n2 n3 n4 n5 n6 n7 n8 w
    by_cases ha : f.k ≠ 1 ∧ 1125899906842624 < f.a
    · exact rcheck_a f hk17 n1 n2 n3 n4 n5 n6 n7 n8 ha.1 ha.2 w
    by_cases hb : wrgB f = true
    · exact rcheck_b f hk17 n1 n2 n3 n4 n5 n6 n7 n8 ha hb w
    exact absurd ⟨by omega,by omega,by omega,by omega,by omega,by omega,by omega,by omega,by omega,by unfold wrgB at hb;simp only [decide_eq_true_eq] at hb;omega,by unfold wrgB at hb;simp only [decide_eq_true_eq] at hb;omega,by unfold wrgB at hb;simp only [decide_eq_true_eq] at hb;omega⟩ hr
end Go.Proofs.YtaiofjffoboicaaGreatDoor
