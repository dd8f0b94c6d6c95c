/- Parts of a proof, printed by a program of mine out of my texts: EgBad, EgRFn, EgRAlX, EgFF. -/
import Derived.Test.YtkaehoihpgelnaaDoorCF
import Derived.Test.YtkaehoihpgelnaaDoorCG
import Derived.Test.YtkaehoihpgelnaaDoorCP
import Derived.Test.YtkaehoihpgelnaaDoorCZ
set_option linter.unusedSimpArgs false
set_option linter.unusedVariables false
set_option maxRecDepth 100000
namespace Go.Proofs.YtkaehoihpgelnaaDoor
open Go.RowKit
set_option maxHeartbeats 3200000 in
theorem open_bad (aw : Option Addr) (cw : Nat) (ad : Option Addr) (cd : Nat) (ap : Option Addr) (cp : Nat) (x : Rr) (ps : List Int) (al : Option Addr) (cl : Nat) (l : List Bn) (us bu by' : Int) (hda : ∀ x ∈ l,x.da.size ≤ maxLen) (w : World) (hw : SRow ic 1 w aw cw x.w) (hd : SRow ic 1 w ad cd x.d) (hp : SRow ic 1 w ap cp ps) (hrow : SRow bn 9 w al cl l) (hbad : asksE x ps l bu by' ≠ 0) :
    Calls Tryd.prog 38 #[.agg #[.slice aw x.w.length cw,.int .i64 x.q,.slice ad x.d.length cd,.int .i64 x.t,.slice ap ps.length cp],.slice al l.length cl,.int .u64 us,.int .i64 bu,.int .i64 by'] w fun e w' => e = .returned (.tuple #[.agg #[.slice none 0 0,.int .i64 0,.slice none 0 0,.int .i64 0,.slice none 0 0,.slice none 0 0,.slice none 0 0,.slice none 0 0,.int .u64 0,.int .i64 0,.int .i64 0],.int .i64 (asksE x ps l bu by')]) ∧ Below w.heap.size w w':=by
  have GK:=Lib.hid (fun W (hB : Below w.heap.size w W) => xchk_any aw cw ad cd ap cp x ps W (hw.below hB) (hd.below hB) (hp.below hB))
  have GL:=Lib.hid (fun W (hB : Below w.heap.size w W) => list_any al cl l hda W (hrow.below hB))
  unfold asksE at hbad ⊢
  obtain ⟨c1,hc1⟩ : ∃ c,chkX x ps = c:=⟨_,rfl⟩
  obtain ⟨c2,hc2⟩ : ∃ c,lstE l = c:=⟨_,rfl⟩
  rw [hc1] at GK hbad ⊢
  rw [hc2] at GL hbad ⊢
  obtain ⟨nw,hnw⟩ : ∃ n,n = x.w.length:=⟨_,rfl⟩
  obtain ⟨nd,hnd⟩ : ∃ n,n = x.d.length:=⟨_,rfl⟩
  obtain ⟨np,hnp⟩ : ∃ n,n = ps.length:=⟨_,rfl⟩
  obtain ⟨nl,hnl⟩ : ∃ n,n = l.length:=⟨_,rfl⟩
  obtain ⟨q,hq⟩ : ∃ n,n = x.q:=⟨_,rfl⟩
  obtain ⟨t,ht⟩ : ∃ n,n = x.t:=⟨_,rfl⟩
  rw [← hnw,← hnd,← hnp,← hq,← ht] at GK
  rw [← hnl] at GL
  rw [← hnw,← hnd,← hnp,← hnl,← hq,← ht]
  clear hnw hnd hnp hnl hq ht hc1 hc2 hda hw hd hp hrow
  by_cases z1 : c1 = 0
  · subst z1
    rw [if_neg (show ¬ ((0 : Int) ≠ 0) by decide)] at hbad ⊢
    have t1 : ((0 : Int) == 0) = true:=rfl
    by_cases z2 : c2 = 0
    · subst z2
      rw [if_neg (show ¬ ((0 : Int) ≠ 0) by decide)] at hbad ⊢
      by_cases b1 : bu < 0
      · rw [if_pos (.inl b1)]
        have s1 : decide (bu < 0) = true:=decide_eq_true b1
        clear b1 hbad
        go_enter Tryd.func38,Tryd.ntmps38
        go_upto_region 7 with (first|(go_at_call 23;(with_reducible refine (GK.out _ be2).mono ?_);rintro e w1 ⟨rfl,h1⟩;(have b1:=bt be2 h1);(have z1 : blk w1 (w.heap.size + 1) = some #[.slice none 0 0,.int .i64 0,.slice none 0 0,.int .i64 0,.slice none 0 0,.slice none 0 0,.slice none 0 0,.slice none 0 0,.int .u64 0,.int .i64 0,.int .i64 0]:=blk_below h1 (blk_alloc_new _ _ _ (by simp))))|(go_at_call 45;(with_reducible refine (GL.out _ b1).mono ?_);rintro e w2 ⟨rfl,h2⟩;(have b2:=bt b1 h2);(have z2:=blk_below h2 z1)))
        have nz:=kn z2
        go_wp2
        refine ret_blk (b:=w.heap.size + 1) (c:=#[.slice none 0 0,.int .i64 0,.slice none 0 0,.int .i64 0,.slice none 0 0,.slice none 0 0,.slice none 0 0,.slice none 0 0,.int .u64 0,.int .i64 0,.int .i64 0]) (v:=.tuple #[.agg #[.slice none 0 0,.int .i64 0,.slice none 0 0,.int .i64 0,.slice none 0 0,.slice none 0 0,.slice none 0 0,.slice none 0 0,.int .u64 0,.int .i64 0,.int .i64 0],.int .i64 2]) (by (apply jt;(focus repeat(first|(with_reducible first|assumption|apply jd|apply js)|((with_reducible apply jo);first|focus(dsimp only;assumption)|focus(simp;done)|focus(dsimp only;omega))|((with_reducible apply jn);first|with_reducible rfl|focus(simp;done)|focus(simp;omega))|(with_reducible apply ja)|((with_reducible apply jb);with_reducible assumption)));rfl)) (fun W' hc => by simp [results,Tryd.results38,go_sem,hc]) rfl ?_
        exact ⟨rfl,by (repeat(first|(with_reducible first|assumption|exact Below.refl _ _|refine je ?_|refine jl ?_)|((with_reducible refine jp ?_ ?_);first|focus(dsimp only;assumption)|focus(simp;done)|focus(dsimp only;omega))|(with_reducible refine bt ?_ (by assumption))))⟩
      · have s1 : decide (bu < 0) = false:=decide_eq_false b1
        by_cases b2 : by' < 0
        · rw [if_pos (.inr (.inl b2))]
          have s2 : decide (by' < 0) = true:=decide_eq_true b2
          clear b1 b2 hbad
          go_enter Tryd.func38,Tryd.ntmps38
          go_upto_region 7 with (first|(go_at_call 23;(with_reducible refine (GK.out _ be2).mono ?_);rintro e w1 ⟨rfl,h1⟩;(have b1:=bt be2 h1);(have z1 : blk w1 (w.heap.size + 1) = some #[.slice none 0 0,.int .i64 0,.slice none 0 0,.int .i64 0,.slice none 0 0,.slice none 0 0,.slice none 0 0,.slice none 0 0,.int .u64 0,.int .i64 0,.int .i64 0]:=blk_below h1 (blk_alloc_new _ _ _ (by simp))))|(go_at_call 45;(with_reducible refine (GL.out _ b1).mono ?_);rintro e w2 ⟨rfl,h2⟩;(have b2:=bt b1 h2);(have z2:=blk_below h2 z1)))
          have nz:=kn z2
          go_wp2
          refine ret_blk (b:=w.heap.size + 1) (c:=#[.slice none 0 0,.int .i64 0,.slice none 0 0,.int .i64 0,.slice none 0 0,.slice none 0 0,.slice none 0 0,.slice none 0 0,.int .u64 0,.int .i64 0,.int .i64 0]) (v:=.tuple #[.agg #[.slice none 0 0,.int .i64 0,.slice none 0 0,.int .i64 0,.slice none 0 0,.slice none 0 0,.slice none 0 0,.slice none 0 0,.int .u64 0,.int .i64 0,.int .i64 0],.int .i64 2]) (by (apply jt;(focus repeat(first|(with_reducible first|assumption|apply jd|apply js)|((with_reducible apply jo);first|focus(dsimp only;assumption)|focus(simp;done)|focus(dsimp only;omega))|((with_reducible apply jn);first|with_reducible rfl|focus(simp;done)|focus(simp;omega))|(with_reducible apply ja)|((with_reducible apply jb);with_reducible assumption)));rfl)) (fun W' hc => by simp [results,Tryd.results38,go_sem,hc]) rfl ?_
          exact ⟨rfl,by (repeat(first|(with_reducible first|assumption|exact Below.refl _ _|refine je ?_|refine jl ?_)|((with_reducible refine jp ?_ ?_);first|focus(dsimp only;assumption)|focus(simp;done)|focus(dsimp only;omega))|(with_reducible refine bt ?_ (by assumption))))⟩
        · have b3 : 100 < by':=by
            refine Classical.byContradiction fun h => hbad ?_
            rw [if_neg (by omega)]
          rw [if_pos (.inr (.inr b3))]
          have s2 : decide (by' < 0) = false:=decide_eq_false b2
          have s3 : decide (100 < by') = true:=decide_eq_true b3
          clear b1 b2 b3 hbad
          go_enter Tryd.func38,Tryd.ntmps38
          go_upto_region 7 with (first|(go_at_call 23;(with_reducible refine (GK.out _ be2).mono ?_);rintro e w1 ⟨rfl,h1⟩;(have b1:=bt be2 h1);(have z1 : blk w1 (w.heap.size + 1) = some #[.slice none 0 0,.int .i64 0,.slice none 0 0,.int .i64 0,.slice none 0 0,.slice none 0 0,.slice none 0 0,.slice none 0 0,.int .u64 0,.int .i64 0,.int .i64 0]:=blk_below h1 (blk_alloc_new _ _ _ (by simp))))|(go_at_call 45;(with_reducible refine (GL.out _ b1).mono ?_);rintro e w2 ⟨rfl,h2⟩;(have b2:=bt b1 h2);(have z2:=blk_below h2 z1)))
          have nz:=kn z2
          go_wp2
          refine ret_blk (b:=w.heap.size + 1) (c:=#[.slice none 0 0,.int .i64 0,.slice none 0 0,.int .i64 0,.slice none 0 0,.slice none 0 0,.slice none 0 0,.slice none 0 0,.int .u64 0,.int .i64 0,.int .i64 0]) (v:=.tuple #[.agg #[.slice none 0 0,.int .i64 0,.slice none 0 0,.int .i64 0,.slice none 0 0,.slice none 0 0,.slice none 0 0,.slice none 0 0,.int .u64 0,.int .i64 0,.int .i64 0],.int .i64 2]) (by (apply jt;(focus repeat(first|(with_reducible first|assumption|apply jd|apply js)|((with_reducible apply jo);first|focus(dsimp only;assumption)|focus(simp;done)|focus(dsimp only;omega))|((with_reducible apply jn);first|with_reducible rfl|focus(simp;done)|focus(simp;omega))|(with_reducible apply ja)|((with_reducible apply jb);with_reducible assumption)));rfl)) (fun W' hc => by simp [results,Tryd.results38,go_sem,hc]) rfl ?_
          exact ⟨rfl,by (repeat(first|(with_reducible first|assumption|exact Below.refl _ _|refine je ?_|refine jl ?_)|((with_reducible refine jp ?_ ?_);first|focus(dsimp only;assumption)|focus(simp;done)|focus(dsimp only;omega))|(with_reducible refine bt ?_ (by assumption))))⟩
    · rw [if_pos z2]
      have t2 : (c2 == 0) = false:=by simpa using z2
      have t3 : (c2 != 0) = true:=by simpa using z2
      clear z2 hbad
      go_enter Tryd.func38,Tryd.ntmps38
      go_upto_region 7 with (first|(go_at_call 23;(with_reducible refine (GK.out _ be2).mono ?_);rintro e w1 ⟨rfl,h1⟩;(have b1:=bt be2 h1);(have z1 : blk w1 (w.heap.size + 1) = some #[.slice none 0 0,.int .i64 0,.slice none 0 0,.int .i64 0,.slice none 0 0,.slice none 0 0,.slice none 0 0,.slice none 0 0,.int .u64 0,.int .i64 0,.int .i64 0]:=blk_below h1 (blk_alloc_new _ _ _ (by simp))))|(go_at_call 45;(with_reducible refine (GL.out _ b1).mono ?_);rintro e w2 ⟨rfl,h2⟩;(have b2:=bt b1 h2);(have z2:=blk_below h2 z1)))
      have nz:=kn z2
      go_wp2
      refine ret_blk (b:=w.heap.size + 1) (c:=#[.slice none 0 0,.int .i64 0,.slice none 0 0,.int .i64 0,.slice none 0 0,.slice none 0 0,.slice none 0 0,.slice none 0 0,.int .u64 0,.int .i64 0,.int .i64 0]) (v:=.tuple #[.agg #[.slice none 0 0,.int .i64 0,.slice none 0 0,.int .i64 0,.slice none 0 0,.slice none 0 0,.slice none 0 0,.slice none 0 0,.int .u64 0,.int .i64 0,.int .i64 0],.int .i64 c2]) (by (apply jt;(focus repeat(first|(with_reducible first|assumption|apply jd|apply js)|((with_reducible apply jo);first|focus(dsimp only;assumption)|focus(simp;done)|focus(dsimp only;omega))|((with_reducible apply jn);first|with_reducible rfl|focus(simp;done)|focus(simp;omega))|(with_reducible apply ja)|((with_reducible apply jb);with_reducible assumption)));rfl)) (fun W' hc => by simp [results,Tryd.results38,go_sem,hc]) rfl ?_
      exact ⟨rfl,by (repeat(first|(with_reducible first|assumption|exact Below.refl _ _|refine je ?_|refine jl ?_)|((with_reducible refine jp ?_ ?_);first|focus(dsimp only;assumption)|focus(simp;done)|focus(dsimp only;omega))|(with_reducible refine bt ?_ (by assumption))))⟩
  · rw [if_pos z1]
    have t2 : (c1 == 0) = false:=by simpa using z1
    have t3 : (c1 != 0) = true:=by simpa using z1
    clear z1 hbad
    go_enter Tryd.func38,Tryd.ntmps38
    go_upto_region 7 with (first|(go_at_call 23;(with_reducible refine (GK.out _ be2).mono ?_);rintro e w1 ⟨rfl,h1⟩;(have b1:=bt be2 h1);(have z1 : blk w1 (w.heap.size + 1) = some #[.slice none 0 0,.int .i64 0,.slice none 0 0,.int .i64 0,.slice none 0 0,.slice none 0 0,.slice none 0 0,.slice none 0 0,.int .u64 0,.int .i64 0,.int .i64 0]:=blk_below h1 (blk_alloc_new _ _ _ (by simp))))|(go_at_call 45;(with_reducible refine (GL.out _ b1).mono ?_);rintro e w2 ⟨rfl,h2⟩;(have b2:=bt b1 h2);(have z2:=blk_below h2 z1)))
    have nz:=kn z1
    go_wp2
    refine ret_blk (b:=w.heap.size + 1) (c:=#[.slice none 0 0,.int .i64 0,.slice none 0 0,.int .i64 0,.slice none 0 0,.slice none 0 0,.slice none 0 0,.slice none 0 0,.int .u64 0,.int .i64 0,.int .i64 0]) (v:=.tuple #[.agg #[.slice none 0 0,.int .i64 0,.slice none 0 0,.int .i64 0,.slice none 0 0,.slice none 0 0,.slice none 0 0,.slice none 0 0,.int .u64 0,.int .i64 0,.int .i64 0],.int .i64 c1]) (by (apply jt;(focus repeat(first|(with_reducible first|assumption|apply jd|apply js)|((with_reducible apply jo);first|focus(dsimp only;assumption)|focus(simp;done)|focus(dsimp only;omega))|((with_reducible apply jn);first|with_reducible rfl|focus(simp;done)|focus(simp;omega))|(with_reducible apply ja)|((with_reducible apply jb);with_reducible assumption)));rfl)) (fun W' hc => by simp [results,Tryd.results38,go_sem,hc]) rfl ?_
    exact ⟨rfl,by (repeat(first|(with_reducible first|assumption|exact Below.refl _ _|refine je ?_|refine jl ?_)|((with_reducible refine jp ?_ ?_);first|focus(dsimp only;assumption)|focus(simp;done)|focus(dsimp only;omega))|(with_reducible refine bt ?_ (by assumption))))⟩
set_option maxHeartbeats 3200000 in
theorem candsX_bad (aw : Option Addr) (cw : Nat) (ad : Option Addr) (cd : Nat) (ap : Option Addr) (cp : Nat) (x : Rr) (ps : List Int) (al : Option Addr) (cl : Nat) (l : List Bn) (us bu by' : Int) (hda : ∀ x ∈ l,x.da.size ≤ maxLen) (w : World) (hw : SRow ic 1 w aw cw x.w) (hd : SRow ic 1 w ad cd x.d) (hp : SRow ic 1 w ap cp ps) (hrow : SRow bn 9 w al cl l) (hbad : asksE x ps l bu by' ≠ 0) :
    Calls Tryd.prog 29 #[.agg #[.slice aw x.w.length cw,.int .i64 x.q,.slice ad x.d.length cd,.int .i64 x.t,.slice ap ps.length cp],.slice al l.length cl,.int .u64 us,.int .i64 bu,.int .i64 by'] w fun e w' => e = .returned (.tuple #[.slice none 0 0,.int .i64 (asksE x ps l bu by')]) ∧ Below w.heap.size w w':=by
  have GO:=Lib.hid (fun W (hB : Below w.heap.size w W) => open_bad aw cw ad cd ap cp x ps al cl l us bu by' hda W (hw.below hB) (hd.below hB) (hp.below hB) (hrow.below hB) hbad)
  obtain ⟨c,hc⟩ : ∃ c,asksE x ps l bu by' = c:=⟨_,rfl⟩
  rw [hc] at GO hbad ⊢
  obtain ⟨nw,hnw⟩ : ∃ n,n = x.w.length:=⟨_,rfl⟩
  obtain ⟨nd,hnd⟩ : ∃ n,n = x.d.length:=⟨_,rfl⟩
  obtain ⟨np,hnp⟩ : ∃ n,n = ps.length:=⟨_,rfl⟩
  obtain ⟨nl,hnl⟩ : ∃ n,n = l.length:=⟨_,rfl⟩
  obtain ⟨q,hq⟩ : ∃ n,n = x.q:=⟨_,rfl⟩
  obtain ⟨t,ht⟩ : ∃ n,n = x.t:=⟨_,rfl⟩
  rw [← hnw,← hnd,← hnp,← hnl,← hq,← ht] at GO
  rw [← hnw,← hnd,← hnp,← hnl,← hq,← ht]
  have t1 : (c != 0) = true:=by simpa using hbad
  clear hnw hnd hnp hnl hq ht hc hbad hda hw hd hp hrow
  go_enter Tryd.func29,Tryd.ntmps29
  have n0:=kn (blk_alloc_new w #[.slice aw nw cw,.int .i64 q,.slice ad nd cd,.int .i64 t,.slice ap np cp] 28 rfl)
  go_wp2_with (go_at_call 38;(with_reducible refine (GO.out _ be1).mono ?_);rintro e w1 ⟨rfl,h1⟩;(have b1:=bt be1 h1))
  go_ret2
  exact ⟨rfl,b1.alloc b1.size _⟩
set_option maxHeartbeats 3200000 in
theorem chooseX_bad (aw : Option Addr) (cw : Nat) (ad : Option Addr) (cd : Nat) (ap : Option Addr) (cp : Nat) (x : Rr) (ps : List Int) (al : Option Addr) (cl : Nat) (l : List Bn) (us bu by' : Int) (hda : ∀ x ∈ l,x.da.size ≤ maxLen) (w : World) (hw : SRow ic 1 w aw cw x.w) (hd : SRow ic 1 w ad cd x.d) (hp : SRow ic 1 w ap cp ps) (hrow : SRow bn 9 w al cl l) (hbad : asksE x ps l bu by' ≠ 0) :
    Calls Tryd.prog 30 #[.agg #[.slice aw x.w.length cw,.int .i64 x.q,.slice ad x.d.length cd,.int .i64 x.t,.slice ap ps.length cp],.slice al l.length cl,.int .u64 us,.int .i64 bu,.int .i64 by'] w fun e w' => e = .returned (.tuple #[.int .i64 0,.agg #[.slice none 0 0,.int .i64 0,.slice none 0 0,.int .i64 0,.slice none 0 0],.int .i64 (asksE x ps l bu by')]) ∧ Below w.heap.size w w':=by
  have GO:=Lib.hid (fun W (hB : Below w.heap.size w W) => open_bad aw cw ad cd ap cp x ps al cl l us bu by' hda W (hw.below hB) (hd.below hB) (hp.below hB) (hrow.below hB) hbad)
  obtain ⟨c,hc⟩ : ∃ c,asksE x ps l bu by' = c:=⟨_,rfl⟩
  rw [hc] at GO hbad ⊢
  obtain ⟨nw,hnw⟩ : ∃ n,n = x.w.length:=⟨_,rfl⟩
  obtain ⟨nd,hnd⟩ : ∃ n,n = x.d.length:=⟨_,rfl⟩
  obtain ⟨np,hnp⟩ : ∃ n,n = ps.length:=⟨_,rfl⟩
  obtain ⟨nl,hnl⟩ : ∃ n,n = l.length:=⟨_,rfl⟩
  obtain ⟨q,hq⟩ : ∃ n,n = x.q:=⟨_,rfl⟩
  obtain ⟨t,ht⟩ : ∃ n,n = x.t:=⟨_,rfl⟩
  rw [← hnw,← hnd,← hnp,← hnl,← hq,← ht] at GO
  rw [← hnw,← hnd,← hnp,← hnl,← hq,← ht]
  have t1 : (c != 0) = true:=by simpa using hbad
  clear hnw hnd hnp hnl hq ht hc hbad hda hw hd hp hrow
  go_enter Tryd.func30,Tryd.ntmps30
  have n0:=kn (blk_alloc (blk_alloc_new w #[.slice aw nw cw,.int .i64 q,.slice ad nd cd,.int .i64 t,.slice ap np cp] 28 rfl) (.cells #[.slice none 0 0,.int .i64 0,.slice none 0 0,.int .i64 0,.slice none 0 0] 28))
  go_upto_region 3 with (go_at_call 38;(with_reducible refine (GO.out _ be2).mono ?_);rintro e w1 ⟨rfl,h1⟩;(have b1:=bt be2 h1);(have z1 : blk w1 (w.heap.size + 1) = some #[.slice none 0 0,.int .i64 0,.slice none 0 0,.int .i64 0,.slice none 0 0]:=blk_below h1 (blk_alloc_new _ _ _ (by simp))))
  clear n0
  have g1 : w.heap.size + 1 < w1.heap.size:=blk_lt z1
  have z9:=blk_alloc z1 (.cells #[.slice none 0 0,.int .i64 0,.slice none 0 0,.int .i64 0,.slice none 0 0,.slice none 0 0,.slice none 0 0,.slice none 0 0,.int .u64 0,.int .i64 0,.int .i64 0] 70)
  have n1:=kn z1
  go_wp2
  refine ret_blk (b:=w.heap.size + 1) (c:=#[.slice none 0 0,.int .i64 0,.slice none 0 0,.int .i64 0,.slice none 0 0]) (v:=.tuple #[.int .i64 0,.agg #[.slice none 0 0,.int .i64 0,.slice none 0 0,.int .i64 0,.slice none 0 0],.int .i64 c]) (blk_alloc (blk_set (i:=4) (v:=.slice none 0 0) (blk_set (i:=3) (v:=.int .i64 0) (blk_set (i:=2) (v:=.slice none 0 0) (blk_set (i:=1) (v:=.int .i64 0) (blk_set (i:=0) (v:=.slice none 0 0) z1))))) _) (fun W' hc => by simp [results,Tryd.results30,go_sem,hc]) rfl ?_
  refine ⟨rfl,?_⟩
  exact (((((b1.setCell (Nat.le_succ _) _).setCell (Nat.le_succ _) _).setCell (Nat.le_succ _) _).setCell (Nat.le_succ _) _).setCell (Nat.le_succ _) _).alloc (by simp;omega) _
set_option maxHeartbeats 3200000 in
theorem allX_bad (aw : Option Addr) (cw : Nat) (ad : Option Addr) (cd : Nat) (ap : Option Addr) (cp : Nat) (x : Rr) (ps : List Int) (al : Option Addr) (cl : Nat) (l : List Bn) (us bu by' : Int) (hda : ∀ x ∈ l,x.da.size ≤ maxLen) (w : World) (hw : SRow ic 1 w aw cw x.w) (hd : SRow ic 1 w ad cd x.d) (hp : SRow ic 1 w ap cp ps) (hrow : SRow bn 9 w al cl l) (hbad : asksE x ps l bu by' ≠ 0) :
    Calls Tryd.prog 11 #[.agg #[.slice aw x.w.length cw,.int .i64 x.q,.slice ad x.d.length cd,.int .i64 x.t,.slice ap ps.length cp],.slice al l.length cl,.int .u64 us,.int .i64 bu,.int .i64 by'] w fun e w' => e = .returned (.tuple #[.slice none 0 0,.agg #[.slice none 0 0,.int .i64 0,.slice none 0 0,.int .i64 0,.slice none 0 0],.int .i64 (asksE x ps l bu by')]) ∧ Below w.heap.size w w':=by
  have GO:=Lib.hid (fun W (hB : Below w.heap.size w W) => open_bad aw cw ad cd ap cp x ps al cl l us bu by' hda W (hw.below hB) (hd.below hB) (hp.below hB) (hrow.below hB) hbad)
  obtain ⟨c,hc⟩ : ∃ c,asksE x ps l bu by' = c:=⟨_,rfl⟩
  rw [hc] at GO hbad ⊢
  obtain ⟨nw,hnw⟩ : ∃ n,n = x.w.length:=⟨_,rfl⟩
  obtain ⟨nd,hnd⟩ : ∃ n,n = x.d.length:=⟨_,rfl⟩
  obtain ⟨np,hnp⟩ : ∃ n,n = ps.length:=⟨_,rfl⟩
  obtain ⟨nl,hnl⟩ : ∃ n,n = l.length:=⟨_,rfl⟩
  obtain ⟨q,hq⟩ : ∃ n,n = x.q:=⟨_,rfl⟩
  obtain ⟨t,ht⟩ : ∃ n,n = x.t:=⟨_,rfl⟩
  rw [← hnw,← hnd,← hnp,← hnl,← hq,← ht] at GO
  rw [← hnw,← hnd,← hnp,← hnl,← hq,← ht]
  have t1 : (c != 0) = true:=by simpa using hbad
  clear hnw hnd hnp hnl hq ht hc hbad hda hw hd hp hrow
  go_enter Tryd.func11,Tryd.ntmps11
  have n0:=kn (blk_alloc (blk_alloc_new w #[.slice aw nw cw,.int .i64 q,.slice ad nd cd,.int .i64 t,.slice ap np cp] 28 rfl) (.cells #[.slice none 0 0,.int .i64 0,.slice none 0 0,.int .i64 0,.slice none 0 0] 28))
  go_upto_region 3 with (go_at_call 38;(with_reducible refine (GO.out _ be2).mono ?_);rintro e w1 ⟨rfl,h1⟩;(have b1:=bt be2 h1);(have z1 : blk w1 (w.heap.size + 1) = some #[.slice none 0 0,.int .i64 0,.slice none 0 0,.int .i64 0,.slice none 0 0]:=blk_below h1 (blk_alloc_new _ _ _ (by simp))))
  clear n0
  have g1 : w.heap.size + 1 < w1.heap.size:=blk_lt z1
  have z9:=blk_alloc z1 (.cells #[.slice none 0 0,.int .i64 0,.slice none 0 0,.int .i64 0,.slice none 0 0,.slice none 0 0,.slice none 0 0,.slice none 0 0,.int .u64 0,.int .i64 0,.int .i64 0] 70)
  have n1:=kn z1
  go_wp2
  refine ret_blk (b:=w.heap.size + 1) (c:=#[.slice none 0 0,.int .i64 0,.slice none 0 0,.int .i64 0,.slice none 0 0]) (v:=.tuple #[.slice none 0 0,.agg #[.slice none 0 0,.int .i64 0,.slice none 0 0,.int .i64 0,.slice none 0 0],.int .i64 c]) (blk_alloc (blk_set (i:=4) (v:=.slice none 0 0) (blk_set (i:=3) (v:=.int .i64 0) (blk_set (i:=2) (v:=.slice none 0 0) (blk_set (i:=1) (v:=.int .i64 0) (blk_set (i:=0) (v:=.slice none 0 0) z1))))) _) (fun W' hc => by simp [results,Tryd.results11,go_sem,hc]) rfl ?_
  refine ⟨rfl,?_⟩
  exact (((((b1.setCell (Nat.le_succ _) _).setCell (Nat.le_succ _) _).setCell (Nat.le_succ _) _).setCell (Nat.le_succ _) _).setCell (Nat.le_succ _) _).alloc (by simp;omega) _
set_option maxHeartbeats 3200000 in
theorem rcandsX_bad (aw : Option Addr) (cw : Nat) (ad : Option Addr) (cd : Nat) (ap : Option Addr) (cp : Nat) (x : Rr) (ps : List Int) (al : Option Addr) (cl : Nat) (l : List Bn) (us bu by' : Int) (hda : ∀ x ∈ l,x.da.size ≤ maxLen) (w : World) (hw : SRow ic 1 w aw cw x.w) (hd : SRow ic 1 w ad cd x.d) (hp : SRow ic 1 w ap cp ps) (hrow : SRow bn 9 w al cl l) (hbad : asksE x ps l bu by' ≠ 0) :
    Calls Tryd.prog 34 #[.agg #[.slice aw x.w.length cw,.int .i64 x.q,.slice ad x.d.length cd,.int .i64 x.t,.slice ap ps.length cp],.slice al l.length cl,.int .u64 us,.int .i64 bu,.int .i64 by'] w fun e w' => e = .returned (.tuple #[.slice none 0 0,.int .i64 (asksE x ps l bu by')]) ∧ Below w.heap.size w w':=by
  have GO:=Lib.hid (fun W (hB : Below w.heap.size w W) => asks_any aw cw ad cd ap cp x ps al cl l bu by' hda W (hw.below hB) (hd.below hB) (hp.below hB) (hrow.below hB))
  obtain ⟨c,hc⟩ : ∃ c,asksE x ps l bu by' = c:=⟨_,rfl⟩
  rw [hc] at GO hbad ⊢
  obtain ⟨nw,hnw⟩ : ∃ n,n = x.w.length:=⟨_,rfl⟩
  obtain ⟨nd,hnd⟩ : ∃ n,n = x.d.length:=⟨_,rfl⟩
  obtain ⟨np,hnp⟩ : ∃ n,n = ps.length:=⟨_,rfl⟩
  obtain ⟨nl,hnl⟩ : ∃ n,n = l.length:=⟨_,rfl⟩
  obtain ⟨q,hq⟩ : ∃ n,n = x.q:=⟨_,rfl⟩
  obtain ⟨t,ht⟩ : ∃ n,n = x.t:=⟨_,rfl⟩
  rw [← hnw,← hnd,← hnp,← hnl,← hq,← ht] at GO
  rw [← hnw,← hnd,← hnp,← hnl,← hq,← ht]
  have t1 : (c != 0) = true:=by simpa using hbad
  clear hnw hnd hnp hnl hq ht hc hbad hda hw hd hp hrow
  go_enter Tryd.func34,Tryd.ntmps34
  have n0:=kn (blk_alloc_new w #[.slice aw nw cw,.int .i64 q,.slice ad nd cd,.int .i64 t,.slice ap np cp] 28 rfl)
  go_wp2_with (go_at_call 56;(with_reducible refine (GO.out _ be1).mono ?_);rintro e w1 ⟨rfl,h1⟩;(have b1:=bt be1 h1))
  go_ret2
  exact ⟨rfl,b1⟩
set_option maxHeartbeats 3200000 in
theorem rchooseX_bad (aw : Option Addr) (cw : Nat) (ad : Option Addr) (cd : Nat) (ap : Option Addr) (cp : Nat) (x : Rr) (ps : List Int) (al : Option Addr) (cl : Nat) (l : List Bn) (us bu by' : Int) (hda : ∀ x ∈ l,x.da.size ≤ maxLen) (w : World) (hw : SRow ic 1 w aw cw x.w) (hd : SRow ic 1 w ad cd x.d) (hp : SRow ic 1 w ap cp ps) (hrow : SRow bn 9 w al cl l) (hbad : asksE x ps l bu by' ≠ 0) :
    Calls Tryd.prog 35 #[.agg #[.slice aw x.w.length cw,.int .i64 x.q,.slice ad x.d.length cd,.int .i64 x.t,.slice ap ps.length cp],.slice al l.length cl,.int .u64 us,.int .i64 bu,.int .i64 by'] w fun e w' => e = .returned (.tuple #[.int .i64 0,.agg #[.slice none 0 0,.int .i64 0,.slice none 0 0,.int .i64 0,.slice none 0 0],.int .i64 (asksE x ps l bu by')]) ∧ Below w.heap.size w w':=by
  have GO:=Lib.hid (fun W (hB : Below w.heap.size w W) => asks_any aw cw ad cd ap cp x ps al cl l bu by' hda W (hw.below hB) (hd.below hB) (hp.below hB) (hrow.below hB))
  obtain ⟨c,hc⟩ : ∃ c,asksE x ps l bu by' = c:=⟨_,rfl⟩
  rw [hc] at GO hbad ⊢
  obtain ⟨nw,hnw⟩ : ∃ n,n = x.w.length:=⟨_,rfl⟩
  obtain ⟨nd,hnd⟩ : ∃ n,n = x.d.length:=⟨_,rfl⟩
  obtain ⟨np,hnp⟩ : ∃ n,n = ps.length:=⟨_,rfl⟩
  obtain ⟨nl,hnl⟩ : ∃ n,n = l.length:=⟨_,rfl⟩
  obtain ⟨q,hq⟩ : ∃ n,n = x.q:=⟨_,rfl⟩
  obtain ⟨t,ht⟩ : ∃ n,n = x.t:=⟨_,rfl⟩
  rw [← hnw,← hnd,← hnp,← hnl,← hq,← ht] at GO
  rw [← hnw,← hnd,← hnp,← hnl,← hq,← ht]
  have t1 : (c != 0) = true:=by simpa using hbad
  clear hnw hnd hnp hnl hq ht hc hbad hda hw hd hp hrow
  go_enter Tryd.func35,Tryd.ntmps35
  have n0:=kn (blk_alloc (blk_alloc_new w #[.slice aw nw cw,.int .i64 q,.slice ad nd cd,.int .i64 t,.slice ap np cp] 28 rfl) (.cells #[.slice none 0 0,.int .i64 0,.slice none 0 0,.int .i64 0,.slice none 0 0] 28))
  go_upto_region 3 with (go_at_call 56;(with_reducible refine (GO.out _ be2).mono ?_);rintro e w1 ⟨rfl,h1⟩;(have b1:=bt be2 h1);(have z1 : blk w1 (w.heap.size + 1) = some #[.slice none 0 0,.int .i64 0,.slice none 0 0,.int .i64 0,.slice none 0 0]:=blk_below h1 (blk_alloc_new _ _ _ (by simp))))
  clear n0
  have g1 : w.heap.size + 1 < w1.heap.size:=blk_lt z1
  have z9:=z1
  have n1:=kn z1
  go_wp2
  refine ret_blk (b:=w.heap.size + 1) (c:=#[.slice none 0 0,.int .i64 0,.slice none 0 0,.int .i64 0,.slice none 0 0]) (v:=.tuple #[.int .i64 0,.agg #[.slice none 0 0,.int .i64 0,.slice none 0 0,.int .i64 0,.slice none 0 0],.int .i64 c]) ((blk_set (i:=4) (v:=.slice none 0 0) (blk_set (i:=3) (v:=.int .i64 0) (blk_set (i:=2) (v:=.slice none 0 0) (blk_set (i:=1) (v:=.int .i64 0) (blk_set (i:=0) (v:=.slice none 0 0) z1)))))) (fun W' hc => by simp [results,Tryd.results35,go_sem,hc]) rfl ?_
  refine ⟨rfl,?_⟩
  exact ((((b1.setCell (Nat.le_succ _) _).setCell (Nat.le_succ _) _).setCell (Nat.le_succ _) _).setCell (Nat.le_succ _) _).setCell (Nat.le_succ _) _
set_option maxHeartbeats 3200000 in
theorem rallX_bad (aw : Option Addr) (cw : Nat) (ad : Option Addr) (cd : Nat) (ap : Option Addr) (cp : Nat) (x : Rr) (ps : List Int) (al : Option Addr) (cl : Nat) (l : List Bn) (us bu by' : Int) (hda : ∀ x ∈ l,x.da.size ≤ maxLen) (w : World) (hw : SRow ic 1 w aw cw x.w) (hd : SRow ic 1 w ad cd x.d) (hp : SRow ic 1 w ap cp ps) (hrow : SRow bn 9 w al cl l) (hbad : asksE x ps l bu by' ≠ 0) :
    Calls Tryd.prog 36 #[.agg #[.slice aw x.w.length cw,.int .i64 x.q,.slice ad x.d.length cd,.int .i64 x.t,.slice ap ps.length cp],.slice al l.length cl,.int .u64 us,.int .i64 bu,.int .i64 by'] w fun e w' => e = .returned (.tuple #[.slice none 0 0,.agg #[.slice none 0 0,.int .i64 0,.slice none 0 0,.int .i64 0,.slice none 0 0],.int .i64 (asksE x ps l bu by')]) ∧ Below w.heap.size w w':=by
  have GO:=Lib.hid (fun W (hB : Below w.heap.size w W) => asks_any aw cw ad cd ap cp x ps al cl l bu by' hda W (hw.below hB) (hd.below hB) (hp.below hB) (hrow.below hB))
  obtain ⟨c,hc⟩ : ∃ c,asksE x ps l bu by' = c:=⟨_,rfl⟩
  rw [hc] at GO hbad ⊢
  obtain ⟨nw,hnw⟩ : ∃ n,n = x.w.length:=⟨_,rfl⟩
  obtain ⟨nd,hnd⟩ : ∃ n,n = x.d.length:=⟨_,rfl⟩
  obtain ⟨np,hnp⟩ : ∃ n,n = ps.length:=⟨_,rfl⟩
  obtain ⟨nl,hnl⟩ : ∃ n,n = l.length:=⟨_,rfl⟩
  obtain ⟨q,hq⟩ : ∃ n,n = x.q:=⟨_,rfl⟩
  obtain ⟨t,ht⟩ : ∃ n,n = x.t:=⟨_,rfl⟩
  rw [← hnw,← hnd,← hnp,← hnl,← hq,← ht] at GO
  rw [← hnw,← hnd,← hnp,← hnl,← hq,← ht]
  have t1 : (c != 0) = true:=by simpa using hbad
  clear hnw hnd hnp hnl hq ht hc hbad hda hw hd hp hrow
  go_enter Tryd.func36,Tryd.ntmps36
  have n0:=kn (blk_alloc (blk_alloc_new w #[.slice aw nw cw,.int .i64 q,.slice ad nd cd,.int .i64 t,.slice ap np cp] 28 rfl) (.cells #[.slice none 0 0,.int .i64 0,.slice none 0 0,.int .i64 0,.slice none 0 0] 28))
  go_upto_region 3 with (go_at_call 56;(with_reducible refine (GO.out _ be2).mono ?_);rintro e w1 ⟨rfl,h1⟩;(have b1:=bt be2 h1);(have z1 : blk w1 (w.heap.size + 1) = some #[.slice none 0 0,.int .i64 0,.slice none 0 0,.int .i64 0,.slice none 0 0]:=blk_below h1 (blk_alloc_new _ _ _ (by simp))))
  clear n0
  have g1 : w.heap.size + 1 < w1.heap.size:=blk_lt z1
  have z9:=z1
  have n1:=kn z1
  go_wp2
  refine ret_blk (b:=w.heap.size + 1) (c:=#[.slice none 0 0,.int .i64 0,.slice none 0 0,.int .i64 0,.slice none 0 0]) (v:=.tuple #[.slice none 0 0,.agg #[.slice none 0 0,.int .i64 0,.slice none 0 0,.int .i64 0,.slice none 0 0],.int .i64 c]) ((blk_set (i:=4) (v:=.slice none 0 0) (blk_set (i:=3) (v:=.int .i64 0) (blk_set (i:=2) (v:=.slice none 0 0) (blk_set (i:=1) (v:=.int .i64 0) (blk_set (i:=0) (v:=.slice none 0 0) z1)))))) (fun W' hc => by simp [results,Tryd.results36,go_sem,hc]) rfl ?_
  refine ⟨rfl,?_⟩
  exact ((((b1.setCell (Nat.le_succ _) _).setCell (Nat.le_succ _) _).setCell (Nat.le_succ _) _).setCell (Nat.le_succ _) _).setCell (Nat.le_succ _) _
theorem mkB_run (n : Nat) (hn : n ≤ 100000) (W : World) : Sem.run Tryd.prog (Instr.makeSlice 34 (.int .i64 (n : Int)) (.int .i64 (n : Int))) W = .ok (.slice (some ⟨W.heap.size,0,none⟩) n n) (W.alloc (.cells (madeCells #[.bool false] n) 4)) :=
  run_make_row' 34 4 (.bool false) 1 Tryd.underlying34 infoBool rfl .i64 .i64 n (by omega) (by omega) W
theorem asks_zero {r : Rr} {ps : List Int} {l : List Bn} {us bu by' : Int} (h : OpnG r ps l us bu by') : asksE r ps l bu by' = 0:=by
  have h1:=h.bu0;have h2:=h.by0
  unfold asksE
  rw [h.chk,h.lst,if_neg (by decide),if_neg (by decide),if_neg (by omega)]
theorem linD_eight {x : Wy} (h : GdW x) (hn : linD x.dr (headsS x) ≠ 0) : linD x.dr (headsS x) = 8:=by
  rw [linD_eq h] at hn ⊢
  split
  · rfl
  · rename_i h1;rw [if_neg h1] at hn;exact absurd rfl hn
theorem rcho_any {r : Rr} {ps : List Int} {l : List Bn} (aw : Option Addr) (cw : Nat) (ad : Option Addr) (cd : Nat) (ap : Option Addr) (cp : Nat) (al : Option Addr) (cl : Nat) (tk : List Bool) (tb : Nat) (us bu by' : Int)
    (hlen : l.length ≤ 20) (hls : lstE l = 0) (hsq : ∀ y ∈ l,0 ≤ y.sq) (htk : tk.length = l.length) (hg : GdAll (refW r ps l tk us bu by')) (S : Nat → Prop) (w : World) (hS : ∀ b,S b → b < w.heap.size) (hw : SRow ic 1 w aw cw r.w) (hdr : SRow ic 1 w ad cd r.d) (hp : SRow ic 1 w ap cp ps) (hrow : SRow bn 9 w al cl l) (ht : blk w tb = some (cellB tk)) :
    Calls Tryd.prog 58 #[.agg #[.slice aw 3 cw,.int .i64 r.q,.slice ad 3 cd,.int .i64 r.t,.slice ap 3 cp],.slice al l.length cl,.slice (some ⟨tb,0,none⟩) l.length l.length,.int .u64 us,.int .i64 bu,.int .i64 by'] w fun e w' => RetRH S (refW r ps l tk us bu by') w e w':=by
  have hok:=hg.gd.dr
  obtain ⟨ws,ds,q,t⟩:=r
  have e1 : ws.length = 3:=hok.1
  have e2 : ds.length = 3:=hok.2.1
  obtain ⟨w0,w1,w2,rfl⟩:=list3 e1
  obtain ⟨d0,d1,d2,rfl⟩:=list3 e2
  by_cases hz : linD (refW ⟨[w0,w1,w2],[d0,d1,d2],q,t⟩ ps l tk us bu by').dr (headsS (refW ⟨[w0,w1,w2],[d0,d1,d2],q,t⟩ ps l tk us bu by')) = 0
  · exact rcho_go aw cw ad cd ap cp al cl w0 w1 w2 d0 d1 d2 q t ps l tk tb us bu by' _ rfl hlen hls hsq htk hg w hw hdr hp hrow ht S hS hz
  · exact (rcho_bad aw cw ad cd ap cp al cl w0 w1 w2 d0 d1 d2 q t ps l tk tb us bu by' _ rfl hlen hls hsq htk hg w hw hdr hp hrow ht hz).mono fun e w' h => ⟨h.1,.inl ⟨by rw [choose_err];exact hz,_,_,_,_,_,_,h.2⟩⟩
theorem rcho_none {r : Rr} {ps : List Int} {l : List Bn} (aw : Option Addr) (cw : Nat) (ad : Option Addr) (cd : Nat) (ap : Option Addr) (cp : Nat) (al : Option Addr) (cl : Nat) (tk : List Bool) (tb : Nat) (us bu by' : Int)
    (hlen : l.length ≤ 20) (hls : lstE l = 0) (hsq : ∀ y ∈ l,0 ≤ y.sq) (htk : tk.length = l.length) (hg : GdAll (refW r ps l tk us bu by')) (w : World) (hw : SRow ic 1 w aw cw r.w) (hdr : SRow ic 1 w ad cd r.d) (hp : SRow ic 1 w ap cp ps) (hrow : SRow bn 9 w al cl l) (ht : blk w tb = some (cellB tk)) (hz : (chooseS (refW r ps l tk us bu by')).2.2 ≠ 0) :
    Calls Tryd.prog 58 #[.agg #[.slice aw 3 cw,.int .i64 r.q,.slice ad 3 cd,.int .i64 r.t,.slice ap 3 cp],.slice al l.length cl,.slice (some ⟨tb,0,none⟩) l.length l.length,.int .u64 us,.int .i64 bu,.int .i64 by'] w fun e w' => e = .returned (.tuple #[.int .i64 (-1),.agg #[.slice aw 3 cw,.int .i64 r.q,.slice ad 3 cd,.int .i64 r.t,.slice ap 3 cp]]) ∧ Below w.heap.size w w':=by
  have hok:=hg.gd.dr
  obtain ⟨ws,ds,q,t⟩:=r
  have e1 : ws.length = 3:=hok.1
  have e2 : ds.length = 3:=hok.2.1
  obtain ⟨w0,w1,w2,rfl⟩:=list3 e1
  obtain ⟨d0,d1,d2,rfl⟩:=list3 e2
  refine (rcho_bad aw cw ad cd ap cp al cl w0 w1 w2 d0 d1 d2 q t ps l tk tb us bu by' _ rfl hlen hls hsq htk hg w hw hdr hp hrow ht (by rw [← choose_err];exact hz)).mono fun e w' hR => ⟨hR.2,hR.1⟩
set_option maxHeartbeats 3200000 in
theorem rcandsX_ok {r : Rr} {ps : List Int} {l : List Bn} {us bu by' : Int} (h : OpnG r ps l us bu by') (c : Array Value) (al : Option Addr) (cl : Nat) (w : World) (hX : ExitS (fun _ => False) w c r ps) (hrow : SRow bn 9 w al cl l) :
  Calls Tryd.prog 34 #[.agg c,.slice al l.length cl,.int .u64 us,.int .i64 bu,.int .i64 by'] w fun e w' => RetCa (candsS (opnW r ps l us bu by')) w e w':=by
 obtain ⟨aw,cw,ad,cd,ap,cp,rfl,hw,hdr,hp,_⟩:=hX
 obtain ⟨⟨k1,k2,_⟩,k3,_⟩:=chkX_zero h.chk
 have hb:=fun y hy => bcode_facts (lstE_codes h.lst y hy)
 have gda:=opnW_gda h
 have GA:=Lib.hid (fun W (hB : Below w.heap.size w W) => (show Calls Tryd.prog 56 #[.agg #[.slice aw 3 cw,.int .i64 r.q,.slice ad 3 cd,.int .i64 r.t,.slice ap 3 cp],.slice al l.length cl,.int .i64 bu,.int .i64 by'] W fun e w' => e = .returned (.int .i64 0) ∧ Below W.heap.size W w' from by
  have h9:=asks_any aw cw ad cd ap cp r ps al cl l bu by' (fun y hy => (hb y hy).2.2.1) W (hw.below hB) (hdr.below hB) (hp.below hB) (hrow.below hB)
  rw [asks_zero h,k1,k2,k3] at h9
  exact h9))
 have GQ:=Lib.hid (fun W (hB : Below w.heap.size w W) (tb : Nat) (ht : blk W tb = some (cellB (List.replicate l.length false))) => (show Calls Tryd.prog 48 #[.slice al l.length cl,.slice (some ⟨tb,0,none⟩) l.length l.length] W fun e w' => ∃ ob,e = .returned (.slice (some ⟨ob,0,none⟩) 3 3) ∧ W.heap.size ≤ ob ∧ QAtU w' ob (queS l 0) (queS l 1) (queS l 2) ∧ Below W.heap.size W w' from by
  have h9:=rqueues_any al cl l (by have:=h.len;omega) (fun x hx => (hb x hx).1) (fun x hx => (hb x hx).2.1) (List.replicate l.length false) tb l.length (by simp) W (hrow.below hB) ht
  rw [queT_none,queT_none,queT_none] at h9
  exact h9))
 have GC : Hid (∀ W ob,Below w.heap.size w W → QAt W ob (queS l 0) (queS l 1) (queS l 2) → Calls Tryd.prog 57 #[.agg #[.slice aw 3 cw,.int .i64 r.q,.slice ad 3 cd,.int .i64 r.t,.slice ap 3 cp],.slice al l.length cl,.slice (some ⟨ob,0,none⟩) 3 3,.int .u64 us,.int .i64 bu,.int .i64 by'] W fun e w' => RetRC (opnW r ps l us bu by') W e w'):=Lib.hid (fun W ob hB hq =>
  rcand_any (opnW r ps l us bu by') gda.1.gd rfl (fun y hy => (hb y hy).2.2.1) h.sq h.us0 h.bu0 aw cw ad cd ap cp al cl ob W (hp.below hB) (hrow.below hB) hq)
 unfold RetRC at GC
 unfold candsS
 obtain ⟨c0,hc0⟩ : ∃ c,candA (opnW r ps l us bu by') 0 = c:=⟨_,rfl⟩
 obtain ⟨c1,hc1⟩ : ∃ c,candA (opnW r ps l us bu by') 1 = c:=⟨_,rfl⟩
 obtain ⟨c2,hc2⟩ : ∃ c,candA (opnW r ps l us bu by') 2 = c:=⟨_,rfl⟩
 rw [hc0,hc1,hc2] at GC ⊢
 have hlen:=h.len
 obtain ⟨q,hq⟩ : ∃ v,v = r.q:=⟨_,rfl⟩
 obtain ⟨t,ht⟩ : ∃ v,v = r.t:=⟨_,rfl⟩
 obtain ⟨nl,hnl⟩ : ∃ v,v = l.length:=⟨_,rfl⟩
 rw [← hq,← ht,← hnl] at GA GC
 rw [← hnl] at GQ hlen
 rw [← hq,← ht,← hnl]
 have t1 : ((0 : Int) != 0) = false:=rfl
 clear hc0 hc1 hc2 hq ht hnl hw hdr hp hrow h k1 k2 k3 hb gda
 go_enter Tryd.func34,Tryd.ntmps34
 have n0:=kn (blk_alloc_new w #[.slice aw 3 cw,.int .i64 q,.slice ad 3 cd,.int .i64 t,.slice ap 3 cp] 28 rfl)
 go_upto_region 4 with (go_at_call 56;(with_reducible refine (GA.out _ (by (repeat(first|(with_reducible first|assumption|exact Below.refl _ _|refine je ?_|refine jl ?_)|((with_reducible refine jp ?_ ?_);first|focus(dsimp only;assumption)|focus(simp;done)|focus(dsimp only;omega))|(with_reducible refine bt ?_ (by assumption)))))).mono ?_);rintro e w1 ⟨rfl,h1⟩;(have b1 : Below w.heap.size w w1:=by (repeat(first|(with_reducible first|assumption|exact Below.refl _ _|refine je ?_|refine jl ?_)|((with_reducible refine jp ?_ ?_);first|focus(dsimp only;assumption)|focus(simp;done)|focus(dsimp only;omega))|(with_reducible refine bt ?_ (by assumption)))));(have k1 : blk w1 w.heap.size = some #[.slice aw 3 cw,.int .i64 q,.slice ad 3 cd,.int .i64 t,.slice ap 3 cp]:=blk_below h1 (blk_alloc_new _ _ _ rfl));clear h1)
 clear n0
 refine wp_region_held_drew (S:=fun W => ∀ o,W.cell? ⟨w.heap.size,o,none⟩ = (#[.slice aw 3 cw,.int .i64 q,.slice ad 3 cd,.int .i64 t,.slice ap 3 cp] : Array Value)[o]?) (by kernel_rfl) (fun o => blk_cell (blk_drew k1) o) (fun hHeld => ?_)
 obtain ⟨d0,ed⟩ : ∃ v,v = w1.drew:=⟨_,rfl⟩
 have kd0 : blk d0 w.heap.size = some #[.slice aw 3 cw,.int .i64 q,.slice ad 3 cd,.int .i64 t,.slice ap 3 cp]:=(by rw [ed];exact blk_drew k1)
 have bd0 : Below w.heap.size w d0:=(by rw [ed];exact b1.drew)
 rw [← ed] at hHeld ⊢
 clear ed k1 b1
 have mk:=mkB_run nl (by omega)
 refine jK (v:=?_) 0 ?_ ?_
 rotate_left;(focus intro W h;(try dsimp only at h);go_simp;(try with_reducible rfl));(try simp only[Act.put,jA,jB,jC,jD,jE,jF])
 refine jK (v:=?_) 1 ?_ ?_
 rotate_left;(focus intro W h;(try dsimp only at h);go_simp;(try with_reducible rfl));(try simp only[Act.put,jA,jB,jC,jD,jE,jF])
 refine jK (v:=?_) 2 ?_ ?_
 rotate_left;(focus intro W h;(try dsimp only at h);go_simp;(try with_reducible rfl));(try simp only[Act.put,jA,jB,jC,jD,jE,jF])
 refine jK (v:=?_) 3 ?_ ?_
 rotate_left;(focus intro W h;(try dsimp only at h);go_simp;(try with_reducible rfl));(try simp only[Act.put,jA,jB,jC,jD,jE,jF])
 refine jK (v:=?_) 4 ?_ ?_
 rotate_left;(focus intro W h;(try dsimp only at h);go_simp;(try with_reducible rfl));(try simp only[Act.put,jA,jB,jC,jD,jE,jF])
 refine jK (v:=?_) 7 ?_ ?_
 rotate_left;(focus intro W h;(try dsimp only at h);go_simp;(try with_reducible rfl));(try simp only[Act.put,jA,jB,jC,jD,jE,jF])
 refine jK (v:=?_) 8 ?_ ?_
 rotate_left;(focus intro W h;(try dsimp only at h);go_simp;(try with_reducible rfl));(try simp only[Act.put,jA,jB,jC,jD,jE,jF])
 refine jK (v:=?_) 9 ?_ ?_
 rotate_left;(focus intro W h;(try dsimp only at h);go_simp;(try with_reducible rfl));(try simp only[Act.put,jA,jB,jC,jD,jE,jF])
 refine jR 5 (fun K hK => ?_)
 go_simp
 obtain ⟨M,eM⟩ : ∃ v,v = d0.alloc (.cells (madeCells #[.bool false] nl) 4):=⟨_,rfl⟩
 obtain ⟨tb,etb⟩ : ∃ v,v = d0.heap.size:=⟨_,rfl⟩
 have hB : Below d0.heap.size d0 M:=(by rw [eM];exact (Below.refl _ _).alloc (Nat.le_refl _) _)
 have tM : blk M tb = some (cellB (List.replicate nl false)):=(by rw [eM,← cellB_made];exact blk_alloc_new _ _ _ etb)
 have ltb : w.heap.size ≤ tb:=(by rw [etb];exact bd0.size)
 have kM:=blk_below hB kd0
 have bM:=bt bd0 hB
 rw [← eM,← etb]
 clear eM etb hB
 refine hK.out _ _ (fun o => blk_cell kM o) (fun _ => ?_)
 clear hK K
 (try simp only[Act.put,jA,jB,jC,jD,jE,jF])
 refine jR 6 (fun K hK => ?_)
 go_simp
 go_at_call 48
 (with_reducible refine (GQ.out _ bM _ tM).mono ?_)
 rintro e u2 ⟨ob,rfl,_,hq,hB⟩
 (try go_wp2_with fail)
 have ku2:=blk_below hB kM
 have bu2:=bt bM hB
 have HQ:=Lib.hid hq.q
 clear hq hB
 refine hK.out _ _ (fun o => blk_cell ku2 o) (fun _ => ?_)
 clear hK K
 (try simp only[Act.put,jA,jB,jC,jD,jE,jF])
 refine jR 10 (fun K hK => ?_)
 go_simp
 go_at_call 57
 (with_reducible refine (GC.out _ _ bu2 HQ.out).mono ?_)
 rintro e u3 ⟨fb,rfl,_,kf,hB⟩
 (try go_wp2_with fail)
 have ku3:=blk_below hB ku2
 have bu3:=bt bu2 hB
 have KF:=Lib.hid (srow3 kf)
 clear kf hB
 refine hK.out _ _ (fun o => blk_cell ku3 o) (fun _ => ?_)
 clear hK K
 (try simp only[Act.put,jA,jB,jC,jD,jE,jF])
 refine jK (v:=?_) 11 ?_ ?_
 rotate_left;(focus intro W h;(try dsimp only at h);go_simp;(try with_reducible rfl));(try simp only[Act.put,jA,jB,jC,jD,jE,jF])
 refine jK (v:=?_) 12 ?_ ?_
 rotate_left;(focus intro W h;(try dsimp only at h);go_simp;(try with_reducible rfl));(try simp only[Act.put,jA,jB,jC,jD,jE,jF])
 refine wpAnyH_done (by kernel_rfl) ?_ _
 go_wp2
 go_ret2
 exact ⟨_,3,rfl,KF.out,bu3⟩
set_option maxHeartbeats 6400000 in
theorem rchooseX_ok {r : Rr} {ps : List Int} {l : List Bn} {us bu by' : Int} (h : OpnG r ps l us bu by') (c : Array Value) (al : Option Addr) (cl : Nat) (w : World) (S : Nat → Prop) (hS : ∀ b,S b → b < w.heap.size) (hX : ExitS S w c r ps) (hrow : SRow bn 9 w al cl l) :
  Calls Tryd.prog 35 #[.agg c,.slice al l.length cl,.int .u64 us,.int .i64 bu,.int .i64 by'] w fun e w' => RetCh S (opnW r ps l us bu by') w e w':=by
 obtain ⟨aw,cw,ad,cd,ap,cp,rfl,hw,hdr,hp,_⟩:=hX
 obtain ⟨⟨k1,k2,_⟩,k3,_⟩:=chkX_zero h.chk
 have hb:=fun y hy => bcode_facts (lstE_codes h.lst y hy)
 have gda:=opnW_gda h
 have GA:=Lib.hid (fun W (hB : Below w.heap.size w W) => (show Calls Tryd.prog 56 #[.agg #[.slice aw 3 cw,.int .i64 r.q,.slice ad 3 cd,.int .i64 r.t,.slice ap 3 cp],.slice al l.length cl,.int .i64 bu,.int .i64 by'] W fun e w' => e = .returned (.int .i64 0) ∧ Below W.heap.size W w' from by
  have h9:=asks_any aw cw ad cd ap cp r ps al cl l bu by' (fun y hy => (hb y hy).2.2.1) W (hw.below hB) (hdr.below hB) (hp.below hB) (hrow.below hB)
  rw [asks_zero h,k1,k2,k3] at h9
  exact h9))
 have GH0 : Hid (∀ W,Below w.heap.size w W → ∀ tb,blk W tb = some (cellB (List.replicate l.length false)) → Calls Tryd.prog 58 #[.agg #[.slice aw 3 cw,.int .i64 r.q,.slice ad 3 cd,.int .i64 r.t,.slice ap 3 cp],.slice al l.length cl,.slice (some ⟨tb,0,none⟩) l.length l.length,.int .u64 us,.int .i64 bu,.int .i64 by'] W fun e w' => RetRH (fun b => b < W.heap.size) (opnW r ps l us bu by') W e w'):=Lib.hid (fun W hB tb ht => by
  have h9:=rcho_any aw cw ad cd ap cp al cl (List.replicate l.length false) tb us bu by' h.len h.lst h.sq (by simp) (by rw [refW_none];exact gda.1) (fun b => b < W.heap.size) W (fun b h => h) (hw.below hB) (hdr.below hB) (hp.below hB) (hrow.below hB) ht
  rw [refW_none] at h9
  exact h9)
 have hlen:=h.len
 by_cases hz : (chooseS (opnW r ps l us bu by')).2.2 = 0
 ·obtain ⟨i,hi⟩ : ∃ v,(chooseS (opnW r ps l us bu by')).1 = v:=⟨_,rfl⟩
  obtain ⟨y,hy⟩ : ∃ v,(chooseS (opnW r ps l us bu by')).2.1 = v:=⟨_,rfl⟩
  obtain ⟨q1,hq1⟩ : ∃ v,v = y.dr.q:=⟨_,rfl⟩
  obtain ⟨t1,ht1⟩ : ∃ v,v = y.dr.t:=⟨_,rfl⟩
  have i0 : 0 ≤ i:=by
   obtain ⟨p,st⟩:=step_some gda.1.gd hz
   rw [← hi,st.i];exact st.pos
  have GH : Hid (∀ W,Below w.heap.size w W → ∀ tb,blk W tb = some (cellB (List.replicate l.length false)) → Calls Tryd.prog 58 #[.agg #[.slice aw 3 cw,.int .i64 r.q,.slice ad 3 cd,.int .i64 r.t,.slice ap 3 cp],.slice al l.length cl,.slice (some ⟨tb,0,none⟩) l.length l.length,.int .u64 us,.int .i64 bu,.int .i64 by'] W fun e w' => ∃ a1 c1 a2 c2 a3 c3,e = .returned (.tuple #[.int .i64 i,.agg #[.slice a1 3 c1,.int .i64 q1,.slice a2 3 c2,.int .i64 t1,.slice a3 3 c3]]) ∧ SRow ic 1 w' a1 c1 y.dr.w ∧ SRow ic 1 w' a2 c2 y.dr.d ∧ SRow ic 1 w' a3 c3 y.ps ∧ neS (fun b => b < W.heap.size) a1 y.dr.w ∧ neS (fun b => b < W.heap.size) a2 y.dr.d ∧ neS (fun b => b < W.heap.size) a3 y.ps ∧ Below W.heap.size W w'):=Lib.hid (fun W hB tb ht => (GH0.out W hB tb ht).mono fun e w' hR => by
   obtain ⟨h1,⟨h2,_⟩|⟨_,c,h2,a1,c1,a2,c2,a3,c3,h3,h4,h5,h6,h7,h8,h9⟩⟩:=hR
   ·exact absurd hz h2
   ·rw [hi] at h2
    rw [hy] at h3 h4 h5 h6 h7 h8 h9
    rw [← hq1,← ht1] at h3
    exact ⟨a1,c1,a2,c2,a3,c3,by rw [h2,h3],h4,h5,h6,h7,h8,h9,h1⟩)
  have FIN : Hid (∀ T c,Below w.heap.size w T → ExitS S T c y.dr y.ps → RetCh S (opnW r ps l us bu by') w (.returned (.tuple #[.int .i64 i,.agg c,.int .i64 0])) T):=Lib.hid (fun T c hB hE => ⟨hB,.inr ⟨hz,c,by rw [hi],by rw [hy];exact hE⟩⟩)
  have HY:=Lib.hid (And.intro hq1 ht1)
  have HS:=Lib.hid hS
  have d1 : decide (i < 0) = false:=decide_eq_false (by omega)
  obtain ⟨fR,hfR⟩ : ∃ R,R = RetCh S (opnW r ps l us bu by') w:=⟨_,rfl⟩
  rw [← hfR] at FIN ⊢
  obtain ⟨q,hq⟩ : ∃ v,v = r.q:=⟨_,rfl⟩
  obtain ⟨t,ht⟩ : ∃ v,v = r.t:=⟨_,rfl⟩
  obtain ⟨nl,hnl⟩ : ∃ v,v = l.length:=⟨_,rfl⟩
  rw [← hq,← ht,← hnl] at GA GH
  rw [← hnl] at hlen
  rw [← hq,← ht,← hnl]
  have t0 : ((0 : Int) != 0) = false:=rfl
  clear hfR hq ht hnl hw hdr hp hrow h k1 k2 k3 hb gda GH0 hi hy hq1 ht1 hz hS i0
  go_enter Tryd.func35,Tryd.ntmps35
  have n0:=kn (blk_alloc (blk_alloc_new w #[.slice aw 3 cw,.int .i64 q,.slice ad 3 cd,.int .i64 t,.slice ap 3 cp] 28 rfl) (.cells #[.slice none 0 0,.int .i64 0,.slice none 0 0,.int .i64 0,.slice none 0 0] 28))
  go_upto_region 4 with (go_at_call 56;(with_reducible refine (GA.out _ (by (repeat(first|(with_reducible first|assumption|exact Below.refl _ _|refine je ?_|refine jl ?_)|((with_reducible refine jp ?_ ?_);first|focus(dsimp only;assumption)|focus(simp;done)|focus(dsimp only;omega))|(with_reducible refine bt ?_ (by assumption)))))).mono ?_);rintro e w1 ⟨rfl,h1⟩;(have b1 : Below w.heap.size w w1:=by (repeat(first|(with_reducible first|assumption|exact Below.refl _ _|refine je ?_|refine jl ?_)|((with_reducible refine jp ?_ ?_);first|focus(dsimp only;assumption)|focus(simp;done)|focus(dsimp only;omega))|(with_reducible refine bt ?_ (by assumption)))));(have k1 : blk w1 w.heap.size = some #[.slice aw 3 cw,.int .i64 q,.slice ad 3 cd,.int .i64 t,.slice ap 3 cp]:=blk_below h1 (blk_alloc (blk_alloc_new _ _ _ rfl) _));(have z1 : blk w1 (w.heap.size + 1) = some #[.slice none 0 0,.int .i64 0,.slice none 0 0,.int .i64 0,.slice none 0 0]:=blk_below h1 (blk_alloc_new _ _ _ (by simp)));clear h1)
  clear n0
  refine wp_region_held_drew (S:=fun W => ∀ o,W.cell? ⟨w.heap.size,o,none⟩ = (#[.slice aw 3 cw,.int .i64 q,.slice ad 3 cd,.int .i64 t,.slice ap 3 cp] : Array Value)[o]?) (by kernel_rfl) (fun o => blk_cell (blk_drew k1) o) (fun hHeld => ?_)
  obtain ⟨d0,ed⟩ : ∃ v,v = w1.drew:=⟨_,rfl⟩
  have kd0 : blk d0 w.heap.size = some #[.slice aw 3 cw,.int .i64 q,.slice ad 3 cd,.int .i64 t,.slice ap 3 cp]:=(by rw [ed];exact blk_drew k1)
  have zd0 : blk d0 (w.heap.size + 1) = some #[.slice none 0 0,.int .i64 0,.slice none 0 0,.int .i64 0,.slice none 0 0]:=(by rw [ed];exact blk_drew z1)
  have bd0 : Below w.heap.size w d0:=(by rw [ed];exact b1.drew)
  rw [← ed] at hHeld ⊢
  clear ed k1 b1 z1
  have mk:=mkB_run nl (by omega)
  refine jK (v:=?_) 0 ?_ ?_
  rotate_left;(focus intro W h;(try dsimp only at h);go_simp;(try with_reducible rfl));(try simp only[Act.put,jA,jB,jC,jD,jE,jF])
  refine jK (v:=?_) 1 ?_ ?_
  rotate_left;(focus intro W h;(try dsimp only at h);go_simp;(try with_reducible rfl));(try simp only[Act.put,jA,jB,jC,jD,jE,jF])
  refine jK (v:=?_) 2 ?_ ?_
  rotate_left;(focus intro W h;(try dsimp only at h);go_simp;(try with_reducible rfl));(try simp only[Act.put,jA,jB,jC,jD,jE,jF])
  refine jK (v:=?_) 3 ?_ ?_
  rotate_left;(focus intro W h;(try dsimp only at h);go_simp;(try with_reducible rfl));(try simp only[Act.put,jA,jB,jC,jD,jE,jF])
  refine jK (v:=?_) 5 ?_ ?_
  rotate_left;(focus intro W h;(try dsimp only at h);go_simp;(try with_reducible rfl));(try simp only[Act.put,jA,jB,jC,jD,jE,jF])
  refine jK (v:=?_) 6 ?_ ?_
  rotate_left;(focus intro W h;(try dsimp only at h);go_simp;(try with_reducible rfl));(try simp only[Act.put,jA,jB,jC,jD,jE,jF])
  refine jK (v:=?_) 7 ?_ ?_
  rotate_left;(focus intro W h;(try dsimp only at h);go_simp;(try with_reducible rfl));(try simp only[Act.put,jA,jB,jC,jD,jE,jF])
  refine wpAnyH_ready (rs:=[4,12]) (by kernel_rfl) (by simp) ?_
  refine AllReadyH.cons rfl (fun K hK => ?_) ?_
  ·skip
   go_simp
   obtain ⟨M,eM⟩ : ∃ v,v = d0.alloc (.cells (madeCells #[.bool false] nl) 4):=⟨_,rfl⟩
   obtain ⟨tb,etb⟩ : ∃ v,v = d0.heap.size:=⟨_,rfl⟩
   have hB : Below d0.heap.size d0 M:=(by rw [eM];exact (Below.refl _ _).alloc (Nat.le_refl _) _)
   have tM : blk M tb = some (cellB (List.replicate nl false)):=(by rw [eM,← cellB_made];exact blk_alloc_new _ _ _ etb)
   have ltb : w.heap.size ≤ tb:=(by rw [etb];exact bd0.size)
   have kM:=blk_below hB kd0
   have bM:=bt bd0 hB
   have zM:=blk_below hB zd0
   rw [← eM,← etb]
   clear eM etb hB
   refine hK.out _ _ (fun o => blk_cell kM o) (fun _ => ?_)
   clear hK K
   (try simp only[Act.put,jA,jB,jC,jD,jE,jF])
   refine wpAnyH_ready (rs:=[8,12]) (by kernel_rfl) (by simp) ?_
   refine AllReadyH.cons rfl (fun K hK => ?_) ?_
   ·skip
    go_simp
    go_at_call 58
    (with_reducible refine (GH.out _ bM _ tM).mono ?_)
    rintro e u2 ⟨a1,c1,a2,c2,a3,c3,rfl,R1,R2,R3,N1,N2,N3,hB⟩
    (try go_wp2_with fail)
    have ku2:=blk_below hB kM
    have bu2:=bt bM hB
    have zu2:=blk_below hB zM
    have EX : ExitS (fun b => b < M.heap.size) u2 #[.slice a1 3 c1,.int .i64 q1,.slice a2 3 c2,.int .i64 t1,.slice a3 3 c3] y.dr y.ps:=⟨a1,c1,a2,c2,a3,c3,by rw [HY.out.1,HY.out.2],R1,R2,R3,N1,N2,N3⟩
    clear R1 R2 R3 N1 N2 N3
    have zS : w.heap.size + 1 < M.heap.size:=blk_lt zM
    obtain ⟨Bn0,eBn⟩ : ∃ v,v = M.heap.size:=⟨_,rfl⟩
    rw [← eBn] at EX zS
    clear eBn
    clear hB
    refine hK.out _ _ (fun o => blk_cell ku2 o) (fun _ => ?_)
    clear hK K
    (try simp only[Act.put,jA,jB,jC,jD,jE,jF])
    refine jK (v:=?_) 9 ?_ ?_
    rotate_left;(focus intro W h;(try dsimp only at h);go_simp;(try with_reducible rfl));(try simp only[Act.put,jA,jB,jC,jD,jE,jF])
    refine jK (v:=?_) 10 ?_ ?_
    rotate_left;(focus intro W h;(try dsimp only at h);go_simp;(try with_reducible rfl));(try simp only[Act.put,jA,jB,jC,jD,jE,jF])
    refine jK (v:=?_) 11 ?_ ?_
    rotate_left;(focus intro W h;(try dsimp only at h);go_simp;(try with_reducible rfl));(try simp only[Act.put,jA,jB,jC,jD,jE,jF])
    refine jR 12 (fun K hK => ?_)
    go_simp
    obtain ⟨A,eA⟩ : ∃ v,v = u2.alloc (.cells #[.slice none 0 0,.int .i64 0,.slice none 0 0,.int .i64 0,.slice none 0 0] 28):=⟨_,rfl⟩
    obtain ⟨xb,exb⟩ : ∃ v,v = u2.heap.size:=⟨_,rfl⟩
    have hB : Below u2.heap.size u2 A:=(by rw [eA];exact (Below.refl _ _).alloc (Nat.le_refl _) _)
    have kA:=blk_below hB ku2
    have bA:=bt bu2 hB
    have zA:=blk_below hB zu2
    have xA : blk A xb = some #[.slice none 0 0,.int .i64 0,.slice none 0 0,.int .i64 0,.slice none 0 0]:=(by rw [eA];exact blk_alloc_new _ _ _ exb)
    have lx : w.heap.size + 1 < xb:=(by rw [exb];exact blk_lt zu2)
    have E2 : ExitS (fun b => b < Bn0 ∨ b = xb) A #[.slice a1 3 c1,.int .i64 q1,.slice a2 3 c2,.int .i64 t1,.slice a3 3 c3] y.dr y.ps:=((EX.or (Nat.le_of_eq exb.symm) (Nat.le_of_eq exb.symm)).below hB).mono (fun b h => by rcases h with h|h;exact .inr (.inr h);exact .inl h)
    clear EX
    rw [← eA,← exb]
    clear eA exb hB
    refine hK.out _ _ (fun o => blk_cell kA o) (fun _ => ?_)
    clear hK K
    (try simp only[Act.put,jA,jB,jC,jD,jE,jF])
    refine jK (v:=?_) 13 ?_ ?_
    rotate_left;(focus intro W h;(try dsimp only at h);go_simp;(try with_reducible rfl));(try simp only[Act.put,jA,jB,jC,jD,jE,jF])
    refine jR 14 (fun K hK => ?_)
    refine wp_store_midB 28 (.tmp 15) (.tmp 36) xb 0 #[.slice none 0 0,.int .i64 0,.slice none 0 0,.int .i64 0,.slice none 0 0] #[.slice a1 3 c1,.int .i64 q1,.slice a2 3 c2,.int .i64 t1,.slice a3 3 c3] #[.slice a1 3 c1,.int .i64 q1,.slice a2 3 c2,.int .i64 t1,.slice a3 3 c3] xA rfl rfl rfl (by simp) (by kernel_rfl) (by kernel_rfl) (by kernel_rfl) ?_
    intro T xT sT BT zT9
    have bT:=BT _ _ (by omega) bA
    have kT:=blk_same kA (show w.heap.size ≠ xb by omega) sT
    have zT:=blk_same zA (show w.heap.size + 1 ≠ xb by omega) sT
    have ET:=E2.sameB sT (.inr rfl)
    clear BT zT9 sT
    refine hK.out _ _ (fun o => blk_cell kT o) (fun _ => ?_)
    clear hK K
    (try simp only[Act.put,jA,jB,jC,jD,jE,jF])
    refine wpAnyH_done (by kernel_rfl) ?_ _
    go_upto_region 7 with fail
    refine wp_region_held_drew (S:=fun W => ∀ o,W.cell? ⟨xb,o,none⟩ = (#[.slice a1 3 c1,.int .i64 q1,.slice a2 3 c2,.int .i64 t1,.slice a3 3 c3] : Array Value)[o]?) (by kernel_rfl) (fun o => blk_cell (blk_drew xT) o) (fun hHeld => ?_)
    obtain ⟨d1,ed⟩ : ∃ v,v = T.drew:=⟨_,rfl⟩
    have xd1 : blk d1 xb = some #[.slice a1 3 c1,.int .i64 q1,.slice a2 3 c2,.int .i64 t1,.slice a3 3 c3]:=(by rw [ed];exact blk_drew xT)
    have zd1 : blk d1 (w.heap.size + 1) = some #[.slice none 0 0,.int .i64 0,.slice none 0 0,.int .i64 0,.slice none 0 0]:=(by rw [ed];exact blk_drew zT)
    have bd1 : Below w.heap.size w d1:=(by rw [ed];exact bT.drew)
    have Ed1 : ExitS (fun b => b < Bn0 ∨ b = xb) d1 #[.slice a1 3 c1,.int .i64 q1,.slice a2 3 c2,.int .i64 t1,.slice a3 3 c3] y.dr y.ps:=(by rw [ed];exact ET.below (Below.refl _ _).drew)
    rw [← ed] at hHeld ⊢
    clear ed xT zT bT ET kT
    refine jK (v:=?_) 0 ?_ ?_
    rotate_left;(focus intro W h;(try dsimp only at h);go_simp;(try with_reducible rfl));(try simp only[Act.put,jA,jB,jC,jD,jE,jF])
    refine jK (v:=?_) 1 ?_ ?_
    rotate_left;(focus intro W h;(try dsimp only at h);go_simp;(try with_reducible rfl));(try simp only[Act.put,jA,jB,jC,jD,jE,jF])
    refine jK (v:=?_) 2 ?_ ?_
    rotate_left;(focus intro W h;(try dsimp only at h);go_simp;(try with_reducible rfl));(try simp only[Act.put,jA,jB,jC,jD,jE,jF])
    refine jR 3 (fun K hK => ?_)
    refine wp_store_midB 28 (.tmp 11) (.tmp 41) (w.heap.size + 1) 0 #[.slice none 0 0,.int .i64 0,.slice none 0 0,.int .i64 0,.slice none 0 0] #[.slice a1 3 c1,.int .i64 q1,.slice a2 3 c2,.int .i64 t1,.slice a3 3 c3] #[.slice a1 3 c1,.int .i64 q1,.slice a2 3 c2,.int .i64 t1,.slice a3 3 c3] zd1 rfl rfl rfl (by simp) (by kernel_rfl) (by kernel_rfl) (by kernel_rfl) ?_
    intro F kF sF BF zF
    have bF:=BF _ _ (Nat.le_succ w.heap.size) bd1
    have xF:=blk_same xd1 (show xb ≠ w.heap.size + 1 by omega) sF
    have EF:=Ed1.sameB sF (.inl zS)
    clear BF zF sF
    refine hK.out _ _ (fun o => blk_cell xF o) (fun _ => ?_)
    clear hK K
    (try simp only[Act.put,jA,jB,jC,jD,jE,jF])
    refine jK (v:=?_) 4 ?_ ?_
    rotate_left;(focus intro W h;(try dsimp only at h);go_simp;(try with_reducible rfl));(try simp only[Act.put,jA,jB,jC,jD,jE,jF])
    refine wpAnyH_done (by kernel_rfl) ?_ _
    go_wp2
    refine ret_blk (b:=w.heap.size + 1) (c:=#[.slice a1 3 c1,.int .i64 q1,.slice a2 3 c2,.int .i64 t1,.slice a3 3 c3]) (v:=.tuple #[.int .i64 i,.agg #[.slice a1 3 c1,.int .i64 q1,.slice a2 3 c2,.int .i64 t1,.slice a3 3 c3],.int .i64 0]) kF (fun W' hc => by simp [results,Tryd.results35,go_sem,hc]) rfl ?_
    exact FIN.out _ _ bF (EF.mono (fun b h => .inl (by have:=HS.out b h;omega)))
   refine AllReadyH.cons rfl (fun K hK => ?_) AllReadyH.nil
   go_simp
   obtain ⟨A,eA⟩ : ∃ v,v = M.alloc (.cells #[.slice none 0 0,.int .i64 0,.slice none 0 0,.int .i64 0,.slice none 0 0] 28):=⟨_,rfl⟩
   obtain ⟨xb,exb⟩ : ∃ v,v = M.heap.size:=⟨_,rfl⟩
   have hB : Below M.heap.size M A:=(by rw [eA];exact (Below.refl _ _).alloc (Nat.le_refl _) _)
   have kA:=blk_below hB kM
   have bA:=bt bM hB
   have zA:=blk_below hB zM
   have xA : blk A xb = some #[.slice none 0 0,.int .i64 0,.slice none 0 0,.int .i64 0,.slice none 0 0]:=(by rw [eA];exact blk_alloc_new _ _ _ exb)
   have lx : w.heap.size + 1 < xb:=(by rw [exb];exact blk_lt zM)
   have tA:=blk_below hB tM
   have tM:=tA
   rw [← eA,← exb]
   clear eA exb hB
   refine hK.out _ _ (fun o => blk_cell kA o) (fun _ => ?_)
   clear hK K
   (try simp only[Act.put,jA,jB,jC,jD,jE,jF])
   refine jR 8 (fun K hK => ?_)
   go_simp
   go_at_call 58
   (with_reducible refine (GH.out _ bA _ tM).mono ?_)
   rintro e u2 ⟨a1,c1,a2,c2,a3,c3,rfl,R1,R2,R3,N1,N2,N3,hB⟩
   (try go_wp2_with fail)
   have ku2:=blk_below hB kA
   have bu2:=bt bA hB
   have zu2:=blk_below hB zA
   have EX : ExitS (fun b => b < A.heap.size) u2 #[.slice a1 3 c1,.int .i64 q1,.slice a2 3 c2,.int .i64 t1,.slice a3 3 c3] y.dr y.ps:=⟨a1,c1,a2,c2,a3,c3,by rw [HY.out.1,HY.out.2],R1,R2,R3,N1,N2,N3⟩
   clear R1 R2 R3 N1 N2 N3
   have xu2:=blk_below hB xA
   have sx : xb < A.heap.size:=blk_lt xA
   have E2 : ExitS (fun b => b < A.heap.size ∨ b = xb) u2 #[.slice a1 3 c1,.int .i64 q1,.slice a2 3 c2,.int .i64 t1,.slice a3 3 c3] y.dr y.ps:=EX.mono (fun b h => by rcases h with h|h;exact h;subst h;exact sx)
   have zS : w.heap.size + 1 < A.heap.size:=blk_lt zA
   obtain ⟨Bn0,eBn⟩ : ∃ v,v = A.heap.size:=⟨_,rfl⟩
   rw [← eBn] at E2 zS
   clear EX eBn
   clear hB
   refine hK.out _ _ (fun o => blk_cell ku2 o) (fun _ => ?_)
   clear hK K
   (try simp only[Act.put,jA,jB,jC,jD,jE,jF])
   refine jK (v:=?_) 9 ?_ ?_
   rotate_left;(focus intro W h;(try dsimp only at h);go_simp;(try with_reducible rfl));(try simp only[Act.put,jA,jB,jC,jD,jE,jF])
   refine jK (v:=?_) 10 ?_ ?_
   rotate_left;(focus intro W h;(try dsimp only at h);go_simp;(try with_reducible rfl));(try simp only[Act.put,jA,jB,jC,jD,jE,jF])
   refine jK (v:=?_) 11 ?_ ?_
   rotate_left;(focus intro W h;(try dsimp only at h);go_simp;(try with_reducible rfl));(try simp only[Act.put,jA,jB,jC,jD,jE,jF])
   refine jK (v:=?_) 13 ?_ ?_
   rotate_left;(focus intro W h;(try dsimp only at h);go_simp;(try with_reducible rfl));(try simp only[Act.put,jA,jB,jC,jD,jE,jF])
   refine jR 14 (fun K hK => ?_)
   refine wp_store_midB 28 (.tmp 15) (.tmp 36) xb 0 #[.slice none 0 0,.int .i64 0,.slice none 0 0,.int .i64 0,.slice none 0 0] #[.slice a1 3 c1,.int .i64 q1,.slice a2 3 c2,.int .i64 t1,.slice a3 3 c3] #[.slice a1 3 c1,.int .i64 q1,.slice a2 3 c2,.int .i64 t1,.slice a3 3 c3] xu2 rfl rfl rfl (by simp) (by kernel_rfl) (by kernel_rfl) (by kernel_rfl) ?_
   intro T xT sT BT zT9
   have bT:=BT _ _ (by omega) bu2
   have kT:=blk_same ku2 (show w.heap.size ≠ xb by omega) sT
   have zT:=blk_same zu2 (show w.heap.size + 1 ≠ xb by omega) sT
   have ET:=E2.sameB sT (.inr rfl)
   clear BT zT9 sT
   refine hK.out _ _ (fun o => blk_cell kT o) (fun _ => ?_)
   clear hK K
   (try simp only[Act.put,jA,jB,jC,jD,jE,jF])
   refine wpAnyH_done (by kernel_rfl) ?_ _
   go_upto_region 7 with fail
   refine wp_region_held_drew (S:=fun W => ∀ o,W.cell? ⟨xb,o,none⟩ = (#[.slice a1 3 c1,.int .i64 q1,.slice a2 3 c2,.int .i64 t1,.slice a3 3 c3] : Array Value)[o]?) (by kernel_rfl) (fun o => blk_cell (blk_drew xT) o) (fun hHeld => ?_)
   obtain ⟨d1,ed⟩ : ∃ v,v = T.drew:=⟨_,rfl⟩
   have xd1 : blk d1 xb = some #[.slice a1 3 c1,.int .i64 q1,.slice a2 3 c2,.int .i64 t1,.slice a3 3 c3]:=(by rw [ed];exact blk_drew xT)
   have zd1 : blk d1 (w.heap.size + 1) = some #[.slice none 0 0,.int .i64 0,.slice none 0 0,.int .i64 0,.slice none 0 0]:=(by rw [ed];exact blk_drew zT)
   have bd1 : Below w.heap.size w d1:=(by rw [ed];exact bT.drew)
   have Ed1 : ExitS (fun b => b < Bn0 ∨ b = xb) d1 #[.slice a1 3 c1,.int .i64 q1,.slice a2 3 c2,.int .i64 t1,.slice a3 3 c3] y.dr y.ps:=(by rw [ed];exact ET.below (Below.refl _ _).drew)
   rw [← ed] at hHeld ⊢
   clear ed xT zT bT ET kT
   refine jK (v:=?_) 0 ?_ ?_
   rotate_left;(focus intro W h;(try dsimp only at h);go_simp;(try with_reducible rfl));(try simp only[Act.put,jA,jB,jC,jD,jE,jF])
   refine jK (v:=?_) 1 ?_ ?_
   rotate_left;(focus intro W h;(try dsimp only at h);go_simp;(try with_reducible rfl));(try simp only[Act.put,jA,jB,jC,jD,jE,jF])
   refine jK (v:=?_) 2 ?_ ?_
   rotate_left;(focus intro W h;(try dsimp only at h);go_simp;(try with_reducible rfl));(try simp only[Act.put,jA,jB,jC,jD,jE,jF])
   refine jR 3 (fun K hK => ?_)
   refine wp_store_midB 28 (.tmp 11) (.tmp 41) (w.heap.size + 1) 0 #[.slice none 0 0,.int .i64 0,.slice none 0 0,.int .i64 0,.slice none 0 0] #[.slice a1 3 c1,.int .i64 q1,.slice a2 3 c2,.int .i64 t1,.slice a3 3 c3] #[.slice a1 3 c1,.int .i64 q1,.slice a2 3 c2,.int .i64 t1,.slice a3 3 c3] zd1 rfl rfl rfl (by simp) (by kernel_rfl) (by kernel_rfl) (by kernel_rfl) ?_
   intro F kF sF BF zF
   have bF:=BF _ _ (Nat.le_succ w.heap.size) bd1
   have xF:=blk_same xd1 (show xb ≠ w.heap.size + 1 by omega) sF
   have EF:=Ed1.sameB sF (.inl zS)
   clear BF zF sF
   refine hK.out _ _ (fun o => blk_cell xF o) (fun _ => ?_)
   clear hK K
   (try simp only[Act.put,jA,jB,jC,jD,jE,jF])
   refine jK (v:=?_) 4 ?_ ?_
   rotate_left;(focus intro W h;(try dsimp only at h);go_simp;(try with_reducible rfl));(try simp only[Act.put,jA,jB,jC,jD,jE,jF])
   refine wpAnyH_done (by kernel_rfl) ?_ _
   go_wp2
   refine ret_blk (b:=w.heap.size + 1) (c:=#[.slice a1 3 c1,.int .i64 q1,.slice a2 3 c2,.int .i64 t1,.slice a3 3 c3]) (v:=.tuple #[.int .i64 i,.agg #[.slice a1 3 c1,.int .i64 q1,.slice a2 3 c2,.int .i64 t1,.slice a3 3 c3],.int .i64 0]) kF (fun W' hc => by simp [results,Tryd.results35,go_sem,hc]) rfl ?_
   exact FIN.out _ _ bF (EF.mono (fun b h => .inl (by have:=HS.out b h;omega)))
  refine AllReadyH.cons rfl (fun K hK => ?_) AllReadyH.nil
  go_simp
  obtain ⟨A,eA⟩ : ∃ v,v = d0.alloc (.cells #[.slice none 0 0,.int .i64 0,.slice none 0 0,.int .i64 0,.slice none 0 0] 28):=⟨_,rfl⟩
  obtain ⟨xb,exb⟩ : ∃ v,v = d0.heap.size:=⟨_,rfl⟩
  have hB : Below d0.heap.size d0 A:=(by rw [eA];exact (Below.refl _ _).alloc (Nat.le_refl _) _)
  have kA:=blk_below hB kd0
  have bA:=bt bd0 hB
  have zA:=blk_below hB zd0
  have xA : blk A xb = some #[.slice none 0 0,.int .i64 0,.slice none 0 0,.int .i64 0,.slice none 0 0]:=(by rw [eA];exact blk_alloc_new _ _ _ exb)
  have lx : w.heap.size + 1 < xb:=(by rw [exb];exact blk_lt zd0)
  rw [← eA,← exb]
  clear eA exb hB
  refine hK.out _ _ (fun o => blk_cell kA o) (fun _ => ?_)
  clear hK K
  (try simp only[Act.put,jA,jB,jC,jD,jE,jF])
  refine jR 4 (fun K hK => ?_)
  go_simp
  obtain ⟨M,eM⟩ : ∃ v,v = A.alloc (.cells (madeCells #[.bool false] nl) 4):=⟨_,rfl⟩
  obtain ⟨tb,etb⟩ : ∃ v,v = A.heap.size:=⟨_,rfl⟩
  have hB : Below A.heap.size A M:=(by rw [eM];exact (Below.refl _ _).alloc (Nat.le_refl _) _)
  have tM : blk M tb = some (cellB (List.replicate nl false)):=(by rw [eM,← cellB_made];exact blk_alloc_new _ _ _ etb)
  have ltb : w.heap.size ≤ tb:=(by rw [etb];exact bA.size)
  have kM:=blk_below hB kA
  have bM:=bt bA hB
  have zM:=blk_below hB zA
  have xM:=blk_below hB xA
  rw [← eM,← etb]
  clear eM etb hB
  refine hK.out _ _ (fun o => blk_cell kM o) (fun _ => ?_)
  clear hK K
  (try simp only[Act.put,jA,jB,jC,jD,jE,jF])
  refine jR 8 (fun K hK => ?_)
  go_simp
  go_at_call 58
  (with_reducible refine (GH.out _ bM _ tM).mono ?_)
  rintro e u2 ⟨a1,c1,a2,c2,a3,c3,rfl,R1,R2,R3,N1,N2,N3,hB⟩
  (try go_wp2_with fail)
  have ku2:=blk_below hB kM
  have bu2:=bt bM hB
  have zu2:=blk_below hB zM
  have EX : ExitS (fun b => b < M.heap.size) u2 #[.slice a1 3 c1,.int .i64 q1,.slice a2 3 c2,.int .i64 t1,.slice a3 3 c3] y.dr y.ps:=⟨a1,c1,a2,c2,a3,c3,by rw [HY.out.1,HY.out.2],R1,R2,R3,N1,N2,N3⟩
  clear R1 R2 R3 N1 N2 N3
  have xu2:=blk_below hB xM
  have sx : xb < M.heap.size:=blk_lt xM
  have E2 : ExitS (fun b => b < M.heap.size ∨ b = xb) u2 #[.slice a1 3 c1,.int .i64 q1,.slice a2 3 c2,.int .i64 t1,.slice a3 3 c3] y.dr y.ps:=EX.mono (fun b h => by rcases h with h|h;exact h;subst h;exact sx)
  have zS : w.heap.size + 1 < M.heap.size:=blk_lt zM
  obtain ⟨Bn0,eBn⟩ : ∃ v,v = M.heap.size:=⟨_,rfl⟩
  rw [← eBn] at E2 zS
  clear EX eBn
  clear hB
  refine hK.out _ _ (fun o => blk_cell ku2 o) (fun _ => ?_)
  clear hK K
  (try simp only[Act.put,jA,jB,jC,jD,jE,jF])
  refine jK (v:=?_) 9 ?_ ?_
  rotate_left;(focus intro W h;(try dsimp only at h);go_simp;(try with_reducible rfl));(try simp only[Act.put,jA,jB,jC,jD,jE,jF])
  refine jK (v:=?_) 10 ?_ ?_
  rotate_left;(focus intro W h;(try dsimp only at h);go_simp;(try with_reducible rfl));(try simp only[Act.put,jA,jB,jC,jD,jE,jF])
  refine jK (v:=?_) 11 ?_ ?_
  rotate_left;(focus intro W h;(try dsimp only at h);go_simp;(try with_reducible rfl));(try simp only[Act.put,jA,jB,jC,jD,jE,jF])
  refine jK (v:=?_) 13 ?_ ?_
  rotate_left;(focus intro W h;(try dsimp only at h);go_simp;(try with_reducible rfl));(try simp only[Act.put,jA,jB,jC,jD,jE,jF])
  refine jR 14 (fun K hK => ?_)
  refine wp_store_midB 28 (.tmp 15) (.tmp 36) xb 0 #[.slice none 0 0,.int .i64 0,.slice none 0 0,.int .i64 0,.slice none 0 0] #[.slice a1 3 c1,.int .i64 q1,.slice a2 3 c2,.int .i64 t1,.slice a3 3 c3] #[.slice a1 3 c1,.int .i64 q1,.slice a2 3 c2,.int .i64 t1,.slice a3 3 c3] xu2 rfl rfl rfl (by simp) (by kernel_rfl) (by kernel_rfl) (by kernel_rfl) ?_
  intro T xT sT BT zT9
  have bT:=BT _ _ (by omega) bu2
  have kT:=blk_same ku2 (show w.heap.size ≠ xb by omega) sT
  have zT:=blk_same zu2 (show w.heap.size + 1 ≠ xb by omega) sT
  have ET:=E2.sameB sT (.inr rfl)
  clear BT zT9 sT
  refine hK.out _ _ (fun o => blk_cell kT o) (fun _ => ?_)
  clear hK K
  (try simp only[Act.put,jA,jB,jC,jD,jE,jF])
  refine wpAnyH_done (by kernel_rfl) ?_ _
  go_upto_region 7 with fail
  refine wp_region_held_drew (S:=fun W => ∀ o,W.cell? ⟨xb,o,none⟩ = (#[.slice a1 3 c1,.int .i64 q1,.slice a2 3 c2,.int .i64 t1,.slice a3 3 c3] : Array Value)[o]?) (by kernel_rfl) (fun o => blk_cell (blk_drew xT) o) (fun hHeld => ?_)
  obtain ⟨d1,ed⟩ : ∃ v,v = T.drew:=⟨_,rfl⟩
  have xd1 : blk d1 xb = some #[.slice a1 3 c1,.int .i64 q1,.slice a2 3 c2,.int .i64 t1,.slice a3 3 c3]:=(by rw [ed];exact blk_drew xT)
  have zd1 : blk d1 (w.heap.size + 1) = some #[.slice none 0 0,.int .i64 0,.slice none 0 0,.int .i64 0,.slice none 0 0]:=(by rw [ed];exact blk_drew zT)
  have bd1 : Below w.heap.size w d1:=(by rw [ed];exact bT.drew)
  have Ed1 : ExitS (fun b => b < Bn0 ∨ b = xb) d1 #[.slice a1 3 c1,.int .i64 q1,.slice a2 3 c2,.int .i64 t1,.slice a3 3 c3] y.dr y.ps:=(by rw [ed];exact ET.below (Below.refl _ _).drew)
  rw [← ed] at hHeld ⊢
  clear ed xT zT bT ET kT
  refine jK (v:=?_) 0 ?_ ?_
  rotate_left;(focus intro W h;(try dsimp only at h);go_simp;(try with_reducible rfl));(try simp only[Act.put,jA,jB,jC,jD,jE,jF])
  refine jK (v:=?_) 1 ?_ ?_
  rotate_left;(focus intro W h;(try dsimp only at h);go_simp;(try with_reducible rfl));(try simp only[Act.put,jA,jB,jC,jD,jE,jF])
  refine jK (v:=?_) 2 ?_ ?_
  rotate_left;(focus intro W h;(try dsimp only at h);go_simp;(try with_reducible rfl));(try simp only[Act.put,jA,jB,jC,jD,jE,jF])
  refine jR 3 (fun K hK => ?_)
  refine wp_store_midB 28 (.tmp 11) (.tmp 41) (w.heap.size + 1) 0 #[.slice none 0 0,.int .i64 0,.slice none 0 0,.int .i64 0,.slice none 0 0] #[.slice a1 3 c1,.int .i64 q1,.slice a2 3 c2,.int .i64 t1,.slice a3 3 c3] #[.slice a1 3 c1,.int .i64 q1,.slice a2 3 c2,.int .i64 t1,.slice a3 3 c3] zd1 rfl rfl rfl (by simp) (by kernel_rfl) (by kernel_rfl) (by kernel_rfl) ?_
  intro F kF sF BF zF
  have bF:=BF _ _ (Nat.le_succ w.heap.size) bd1
  have xF:=blk_same xd1 (show xb ≠ w.heap.size + 1 by omega) sF
  have EF:=Ed1.sameB sF (.inl zS)
  clear BF zF sF
  refine hK.out _ _ (fun o => blk_cell xF o) (fun _ => ?_)
  clear hK K
  (try simp only[Act.put,jA,jB,jC,jD,jE,jF])
  refine jK (v:=?_) 4 ?_ ?_
  rotate_left;(focus intro W h;(try dsimp only at h);go_simp;(try with_reducible rfl));(try simp only[Act.put,jA,jB,jC,jD,jE,jF])
  refine wpAnyH_done (by kernel_rfl) ?_ _
  go_wp2
  refine ret_blk (b:=w.heap.size + 1) (c:=#[.slice a1 3 c1,.int .i64 q1,.slice a2 3 c2,.int .i64 t1,.slice a3 3 c3]) (v:=.tuple #[.int .i64 i,.agg #[.slice a1 3 c1,.int .i64 q1,.slice a2 3 c2,.int .i64 t1,.slice a3 3 c3],.int .i64 0]) kF (fun W' hc => by simp [results,Tryd.results35,go_sem,hc]) rfl ?_
  exact FIN.out _ _ bF (EF.mono (fun b h => .inl (by have:=HS.out b h;omega)))
 ·have h8 : (chooseS (opnW r ps l us bu by')).2.2 = 8:=by
   rw [choose_err] at hz ⊢
   exact linD_eight gda.1.gd hz
  have GH : Hid (∀ W,Below w.heap.size w W → ∀ tb,blk W tb = some (cellB (List.replicate l.length false)) → Calls Tryd.prog 58 #[.agg #[.slice aw 3 cw,.int .i64 r.q,.slice ad 3 cd,.int .i64 r.t,.slice ap 3 cp],.slice al l.length cl,.slice (some ⟨tb,0,none⟩) l.length l.length,.int .u64 us,.int .i64 bu,.int .i64 by'] W fun e w' => e = .returned (.tuple #[.int .i64 (-1),.agg #[.slice aw 3 cw,.int .i64 r.q,.slice ad 3 cd,.int .i64 r.t,.slice ap 3 cp]]) ∧ Below W.heap.size W w'):=Lib.hid (fun W hB tb ht => rcho_none aw cw ad cd ap cp al cl (List.replicate l.length false) tb us bu by' h.len h.lst h.sq (by simp) (by rw [refW_none];exact gda.1) W (hw.below hB) (hdr.below hB) (hp.below hB) (hrow.below hB) ht (by rw [refW_none];exact hz))
  have FIN : Hid (∀ T,Below w.heap.size w T → RetCh S (opnW r ps l us bu by') w (.returned (.tuple #[.int .i64 0,.agg #[.slice none 0 0,.int .i64 0,.slice none 0 0,.int .i64 0,.slice none 0 0],.int .i64 8])) T):=Lib.hid (fun T hB => ⟨hB,.inl ⟨hz,by rw [h8]⟩⟩)
  obtain ⟨fR,hfR⟩ : ∃ R,R = RetCh S (opnW r ps l us bu by') w:=⟨_,rfl⟩
  rw [← hfR] at FIN ⊢
  obtain ⟨q,hq⟩ : ∃ v,v = r.q:=⟨_,rfl⟩
  obtain ⟨t,ht⟩ : ∃ v,v = r.t:=⟨_,rfl⟩
  obtain ⟨nl,hnl⟩ : ∃ v,v = l.length:=⟨_,rfl⟩
  rw [← hq,← ht,← hnl] at GA GH
  rw [← hnl] at hlen
  rw [← hq,← ht,← hnl]
  have t0 : ((0 : Int) != 0) = false:=rfl
  clear hfR hq ht hnl hw hdr hp hrow h k1 k2 k3 hb gda GH0 h8 hz hS
  go_enter Tryd.func35,Tryd.ntmps35
  have n0:=kn (blk_alloc (blk_alloc_new w #[.slice aw 3 cw,.int .i64 q,.slice ad 3 cd,.int .i64 t,.slice ap 3 cp] 28 rfl) (.cells #[.slice none 0 0,.int .i64 0,.slice none 0 0,.int .i64 0,.slice none 0 0] 28))
  go_upto_region 4 with (go_at_call 56;(with_reducible refine (GA.out _ (by (repeat(first|(with_reducible first|assumption|exact Below.refl _ _|refine je ?_|refine jl ?_)|((with_reducible refine jp ?_ ?_);first|focus(dsimp only;assumption)|focus(simp;done)|focus(dsimp only;omega))|(with_reducible refine bt ?_ (by assumption)))))).mono ?_);rintro e w1 ⟨rfl,h1⟩;(have b1 : Below w.heap.size w w1:=by (repeat(first|(with_reducible first|assumption|exact Below.refl _ _|refine je ?_|refine jl ?_)|((with_reducible refine jp ?_ ?_);first|focus(dsimp only;assumption)|focus(simp;done)|focus(dsimp only;omega))|(with_reducible refine bt ?_ (by assumption)))));(have k1 : blk w1 w.heap.size = some #[.slice aw 3 cw,.int .i64 q,.slice ad 3 cd,.int .i64 t,.slice ap 3 cp]:=blk_below h1 (blk_alloc (blk_alloc_new _ _ _ rfl) _));(have z1 : blk w1 (w.heap.size + 1) = some #[.slice none 0 0,.int .i64 0,.slice none 0 0,.int .i64 0,.slice none 0 0]:=blk_below h1 (blk_alloc_new _ _ _ (by simp)));clear h1)
  clear n0
  refine wp_region_held_drew (S:=fun W => ∀ o,W.cell? ⟨w.heap.size,o,none⟩ = (#[.slice aw 3 cw,.int .i64 q,.slice ad 3 cd,.int .i64 t,.slice ap 3 cp] : Array Value)[o]?) (by kernel_rfl) (fun o => blk_cell (blk_drew k1) o) (fun hHeld => ?_)
  obtain ⟨d0,ed⟩ : ∃ v,v = w1.drew:=⟨_,rfl⟩
  have kd0 : blk d0 w.heap.size = some #[.slice aw 3 cw,.int .i64 q,.slice ad 3 cd,.int .i64 t,.slice ap 3 cp]:=(by rw [ed];exact blk_drew k1)
  have zd0 : blk d0 (w.heap.size + 1) = some #[.slice none 0 0,.int .i64 0,.slice none 0 0,.int .i64 0,.slice none 0 0]:=(by rw [ed];exact blk_drew z1)
  have bd0 : Below w.heap.size w d0:=(by rw [ed];exact b1.drew)
  rw [← ed] at hHeld ⊢
  clear ed k1 b1 z1
  have mk:=mkB_run nl (by omega)
  refine jK (v:=?_) 0 ?_ ?_
  rotate_left;(focus intro W h;(try dsimp only at h);go_simp;(try with_reducible rfl));(try simp only[Act.put,jA,jB,jC,jD,jE,jF])
  refine jK (v:=?_) 1 ?_ ?_
  rotate_left;(focus intro W h;(try dsimp only at h);go_simp;(try with_reducible rfl));(try simp only[Act.put,jA,jB,jC,jD,jE,jF])
  refine jK (v:=?_) 2 ?_ ?_
  rotate_left;(focus intro W h;(try dsimp only at h);go_simp;(try with_reducible rfl));(try simp only[Act.put,jA,jB,jC,jD,jE,jF])
  refine jK (v:=?_) 3 ?_ ?_
  rotate_left;(focus intro W h;(try dsimp only at h);go_simp;(try with_reducible rfl));(try simp only[Act.put,jA,jB,jC,jD,jE,jF])
  refine jK (v:=?_) 5 ?_ ?_
  rotate_left;(focus intro W h;(try dsimp only at h);go_simp;(try with_reducible rfl));(try simp only[Act.put,jA,jB,jC,jD,jE,jF])
  refine jK (v:=?_) 6 ?_ ?_
  rotate_left;(focus intro W h;(try dsimp only at h);go_simp;(try with_reducible rfl));(try simp only[Act.put,jA,jB,jC,jD,jE,jF])
  refine jK (v:=?_) 7 ?_ ?_
  rotate_left;(focus intro W h;(try dsimp only at h);go_simp;(try with_reducible rfl));(try simp only[Act.put,jA,jB,jC,jD,jE,jF])
  refine wpAnyH_ready (rs:=[4,12]) (by kernel_rfl) (by simp) ?_
  refine AllReadyH.cons rfl (fun K hK => ?_) ?_
  ·skip
   go_simp
   obtain ⟨M,eM⟩ : ∃ v,v = d0.alloc (.cells (madeCells #[.bool false] nl) 4):=⟨_,rfl⟩
   obtain ⟨tb,etb⟩ : ∃ v,v = d0.heap.size:=⟨_,rfl⟩
   have hB : Below d0.heap.size d0 M:=(by rw [eM];exact (Below.refl _ _).alloc (Nat.le_refl _) _)
   have tM : blk M tb = some (cellB (List.replicate nl false)):=(by rw [eM,← cellB_made];exact blk_alloc_new _ _ _ etb)
   have ltb : w.heap.size ≤ tb:=(by rw [etb];exact bd0.size)
   have kM:=blk_below hB kd0
   have bM:=bt bd0 hB
   have zM:=blk_below hB zd0
   rw [← eM,← etb]
   clear eM etb hB
   refine hK.out _ _ (fun o => blk_cell kM o) (fun _ => ?_)
   clear hK K
   (try simp only[Act.put,jA,jB,jC,jD,jE,jF])
   refine wpAnyH_ready (rs:=[8,12]) (by kernel_rfl) (by simp) ?_
   refine AllReadyH.cons rfl (fun K hK => ?_) ?_
   ·skip
    go_simp
    go_at_call 58
    (with_reducible refine (GH.out _ bM _ tM).mono ?_)
    rintro e u2 ⟨rfl,hB⟩
    (try go_wp2_with fail)
    have ku2:=blk_below hB kM
    have bu2:=bt bM hB
    have zu2:=blk_below hB zM
    clear hB
    refine hK.out _ _ (fun o => blk_cell ku2 o) (fun _ => ?_)
    clear hK K
    (try simp only[Act.put,jA,jB,jC,jD,jE,jF])
    refine jK (v:=?_) 9 ?_ ?_
    rotate_left;(focus intro W h;(try dsimp only at h);go_simp;(try with_reducible rfl));(try simp only[Act.put,jA,jB,jC,jD,jE,jF])
    refine jK (v:=?_) 10 ?_ ?_
    rotate_left;(focus intro W h;(try dsimp only at h);go_simp;(try with_reducible rfl));(try simp only[Act.put,jA,jB,jC,jD,jE,jF])
    refine jK (v:=?_) 11 ?_ ?_
    rotate_left;(focus intro W h;(try dsimp only at h);go_simp;(try with_reducible rfl));(try simp only[Act.put,jA,jB,jC,jD,jE,jF])
    refine jR 12 (fun K hK => ?_)
    go_simp
    obtain ⟨A,eA⟩ : ∃ v,v = u2.alloc (.cells #[.slice none 0 0,.int .i64 0,.slice none 0 0,.int .i64 0,.slice none 0 0] 28):=⟨_,rfl⟩
    obtain ⟨xb,exb⟩ : ∃ v,v = u2.heap.size:=⟨_,rfl⟩
    have hB : Below u2.heap.size u2 A:=(by rw [eA];exact (Below.refl _ _).alloc (Nat.le_refl _) _)
    have kA:=blk_below hB ku2
    have bA:=bt bu2 hB
    have zA:=blk_below hB zu2
    have xA : blk A xb = some #[.slice none 0 0,.int .i64 0,.slice none 0 0,.int .i64 0,.slice none 0 0]:=(by rw [eA];exact blk_alloc_new _ _ _ exb)
    have lx : w.heap.size + 1 < xb:=(by rw [exb];exact blk_lt zu2)
    rw [← eA,← exb]
    clear eA exb hB
    refine hK.out _ _ (fun o => blk_cell kA o) (fun _ => ?_)
    clear hK K
    (try simp only[Act.put,jA,jB,jC,jD,jE,jF])
    refine jK (v:=?_) 13 ?_ ?_
    rotate_left;(focus intro W h;(try dsimp only at h);go_simp;(try with_reducible rfl));(try simp only[Act.put,jA,jB,jC,jD,jE,jF])
    refine jR 14 (fun K hK => ?_)
    refine wp_store_midB 28 (.tmp 15) (.tmp 36) xb 0 #[.slice none 0 0,.int .i64 0,.slice none 0 0,.int .i64 0,.slice none 0 0] #[.slice aw 3 cw,.int .i64 q,.slice ad 3 cd,.int .i64 t,.slice ap 3 cp] #[.slice aw 3 cw,.int .i64 q,.slice ad 3 cd,.int .i64 t,.slice ap 3 cp] xA rfl rfl rfl (by simp) (by kernel_rfl) (by kernel_rfl) (by kernel_rfl) ?_
    intro T xT sT BT zT9
    have bT:=BT _ _ (by omega) bA
    have kT:=blk_same kA (show w.heap.size ≠ xb by omega) sT
    have zT:=blk_same zA (show w.heap.size + 1 ≠ xb by omega) sT
    clear BT zT9 sT
    refine hK.out _ _ (fun o => blk_cell kT o) (fun _ => ?_)
    clear hK K
    (try simp only[Act.put,jA,jB,jC,jD,jE,jF])
    refine wpAnyH_done (by kernel_rfl) ?_ _
    have n1:=kn zT
    go_wp2
    refine ret_blk (b:=w.heap.size + 1) (c:=#[.slice none 0 0,.int .i64 0,.slice none 0 0,.int .i64 0,.slice none 0 0]) (v:=.tuple #[.int .i64 0,.agg #[.slice none 0 0,.int .i64 0,.slice none 0 0,.int .i64 0,.slice none 0 0],.int .i64 8]) (by have h9:=blk_set (i:=4) (v:=.slice none 0 0) (blk_set (i:=3) (v:=.int .i64 0) (blk_set (i:=2) (v:=.slice none 0 0) (blk_set (i:=1) (v:=.int .i64 0) (blk_set (i:=0) (v:=.slice none 0 0) zT))));exact h9) (fun W' hc => by simp [results,Tryd.results35,go_sem,hc]) rfl (FIN.out _ (by (repeat(first|(with_reducible first|assumption|exact Below.refl _ _|refine je ?_|refine jl ?_)|((with_reducible refine jp ?_ ?_);first|focus(dsimp only;assumption)|focus(simp;done)|focus(dsimp only;omega))|(with_reducible refine bt ?_ (by assumption))))))
   refine AllReadyH.cons rfl (fun K hK => ?_) AllReadyH.nil
   go_simp
   obtain ⟨A,eA⟩ : ∃ v,v = M.alloc (.cells #[.slice none 0 0,.int .i64 0,.slice none 0 0,.int .i64 0,.slice none 0 0] 28):=⟨_,rfl⟩
   obtain ⟨xb,exb⟩ : ∃ v,v = M.heap.size:=⟨_,rfl⟩
   have hB : Below M.heap.size M A:=(by rw [eA];exact (Below.refl _ _).alloc (Nat.le_refl _) _)
   have kA:=blk_below hB kM
   have bA:=bt bM hB
   have zA:=blk_below hB zM
   have xA : blk A xb = some #[.slice none 0 0,.int .i64 0,.slice none 0 0,.int .i64 0,.slice none 0 0]:=(by rw [eA];exact blk_alloc_new _ _ _ exb)
   have lx : w.heap.size + 1 < xb:=(by rw [exb];exact blk_lt zM)
   have tA:=blk_below hB tM
   have tM:=tA
   rw [← eA,← exb]
   clear eA exb hB
   refine hK.out _ _ (fun o => blk_cell kA o) (fun _ => ?_)
   clear hK K
   (try simp only[Act.put,jA,jB,jC,jD,jE,jF])
   refine jR 8 (fun K hK => ?_)
   go_simp
   go_at_call 58
   (with_reducible refine (GH.out _ bA _ tM).mono ?_)
   rintro e u2 ⟨rfl,hB⟩
   (try go_wp2_with fail)
   have ku2:=blk_below hB kA
   have bu2:=bt bA hB
   have zu2:=blk_below hB zA
   have xu2:=blk_below hB xA
   have sx : xb < A.heap.size:=blk_lt xA
   clear hB
   refine hK.out _ _ (fun o => blk_cell ku2 o) (fun _ => ?_)
   clear hK K
   (try simp only[Act.put,jA,jB,jC,jD,jE,jF])
   refine jK (v:=?_) 9 ?_ ?_
   rotate_left;(focus intro W h;(try dsimp only at h);go_simp;(try with_reducible rfl));(try simp only[Act.put,jA,jB,jC,jD,jE,jF])
   refine jK (v:=?_) 10 ?_ ?_
   rotate_left;(focus intro W h;(try dsimp only at h);go_simp;(try with_reducible rfl));(try simp only[Act.put,jA,jB,jC,jD,jE,jF])
   refine jK (v:=?_) 11 ?_ ?_
   rotate_left;(focus intro W h;(try dsimp only at h);go_simp;(try with_reducible rfl));(try simp only[Act.put,jA,jB,jC,jD,jE,jF])
   refine jK (v:=?_) 13 ?_ ?_
   rotate_left;(focus intro W h;(try dsimp only at h);go_simp;(try with_reducible rfl));(try simp only[Act.put,jA,jB,jC,jD,jE,jF])
   refine jR 14 (fun K hK => ?_)
   refine wp_store_midB 28 (.tmp 15) (.tmp 36) xb 0 #[.slice none 0 0,.int .i64 0,.slice none 0 0,.int .i64 0,.slice none 0 0] #[.slice aw 3 cw,.int .i64 q,.slice ad 3 cd,.int .i64 t,.slice ap 3 cp] #[.slice aw 3 cw,.int .i64 q,.slice ad 3 cd,.int .i64 t,.slice ap 3 cp] xu2 rfl rfl rfl (by simp) (by kernel_rfl) (by kernel_rfl) (by kernel_rfl) ?_
   intro T xT sT BT zT9
   have bT:=BT _ _ (by omega) bu2
   have kT:=blk_same ku2 (show w.heap.size ≠ xb by omega) sT
   have zT:=blk_same zu2 (show w.heap.size + 1 ≠ xb by omega) sT
   clear BT zT9 sT
   refine hK.out _ _ (fun o => blk_cell kT o) (fun _ => ?_)
   clear hK K
   (try simp only[Act.put,jA,jB,jC,jD,jE,jF])
   refine wpAnyH_done (by kernel_rfl) ?_ _
   have n1:=kn zT
   go_wp2
   refine ret_blk (b:=w.heap.size + 1) (c:=#[.slice none 0 0,.int .i64 0,.slice none 0 0,.int .i64 0,.slice none 0 0]) (v:=.tuple #[.int .i64 0,.agg #[.slice none 0 0,.int .i64 0,.slice none 0 0,.int .i64 0,.slice none 0 0],.int .i64 8]) (by have h9:=blk_set (i:=4) (v:=.slice none 0 0) (blk_set (i:=3) (v:=.int .i64 0) (blk_set (i:=2) (v:=.slice none 0 0) (blk_set (i:=1) (v:=.int .i64 0) (blk_set (i:=0) (v:=.slice none 0 0) zT))));exact h9) (fun W' hc => by simp [results,Tryd.results35,go_sem,hc]) rfl (FIN.out _ (by (repeat(first|(with_reducible first|assumption|exact Below.refl _ _|refine je ?_|refine jl ?_)|((with_reducible refine jp ?_ ?_);first|focus(dsimp only;assumption)|focus(simp;done)|focus(dsimp only;omega))|(with_reducible refine bt ?_ (by assumption))))))
  refine AllReadyH.cons rfl (fun K hK => ?_) AllReadyH.nil
  go_simp
  obtain ⟨A,eA⟩ : ∃ v,v = d0.alloc (.cells #[.slice none 0 0,.int .i64 0,.slice none 0 0,.int .i64 0,.slice none 0 0] 28):=⟨_,rfl⟩
  obtain ⟨xb,exb⟩ : ∃ v,v = d0.heap.size:=⟨_,rfl⟩
  have hB : Below d0.heap.size d0 A:=(by rw [eA];exact (Below.refl _ _).alloc (Nat.le_refl _) _)
  have kA:=blk_below hB kd0
  have bA:=bt bd0 hB
  have zA:=blk_below hB zd0
  have xA : blk A xb = some #[.slice none 0 0,.int .i64 0,.slice none 0 0,.int .i64 0,.slice none 0 0]:=(by rw [eA];exact blk_alloc_new _ _ _ exb)
  have lx : w.heap.size + 1 < xb:=(by rw [exb];exact blk_lt zd0)
  rw [← eA,← exb]
  clear eA exb hB
  refine hK.out _ _ (fun o => blk_cell kA o) (fun _ => ?_)
  clear hK K
  (try simp only[Act.put,jA,jB,jC,jD,jE,jF])
  refine jR 4 (fun K hK => ?_)
  go_simp
  obtain ⟨M,eM⟩ : ∃ v,v = A.alloc (.cells (madeCells #[.bool false] nl) 4):=⟨_,rfl⟩
  obtain ⟨tb,etb⟩ : ∃ v,v = A.heap.size:=⟨_,rfl⟩
  have hB : Below A.heap.size A M:=(by rw [eM];exact (Below.refl _ _).alloc (Nat.le_refl _) _)
  have tM : blk M tb = some (cellB (List.replicate nl false)):=(by rw [eM,← cellB_made];exact blk_alloc_new _ _ _ etb)
  have ltb : w.heap.size ≤ tb:=(by rw [etb];exact bA.size)
  have kM:=blk_below hB kA
  have bM:=bt bA hB
  have zM:=blk_below hB zA
  have xM:=blk_below hB xA
  rw [← eM,← etb]
  clear eM etb hB
  refine hK.out _ _ (fun o => blk_cell kM o) (fun _ => ?_)
  clear hK K
  (try simp only[Act.put,jA,jB,jC,jD,jE,jF])
  refine jR 8 (fun K hK => ?_)
  go_simp
  go_at_call 58
  (with_reducible refine (GH.out _ bM _ tM).mono ?_)
  rintro e u2 ⟨rfl,hB⟩
  (try go_wp2_with fail)
  have ku2:=blk_below hB kM
  have bu2:=bt bM hB
  have zu2:=blk_below hB zM
  have xu2:=blk_below hB xM
  have sx : xb < M.heap.size:=blk_lt xM
  clear hB
  refine hK.out _ _ (fun o => blk_cell ku2 o) (fun _ => ?_)
  clear hK K
  (try simp only[Act.put,jA,jB,jC,jD,jE,jF])
  refine jK (v:=?_) 9 ?_ ?_
  rotate_left;(focus intro W h;(try dsimp only at h);go_simp;(try with_reducible rfl));(try simp only[Act.put,jA,jB,jC,jD,jE,jF])
  refine jK (v:=?_) 10 ?_ ?_
  rotate_left;(focus intro W h;(try dsimp only at h);go_simp;(try with_reducible rfl));(try simp only[Act.put,jA,jB,jC,jD,jE,jF])
  refine jK (v:=?_) 11 ?_ ?_
  rotate_left;(focus intro W h;(try dsimp only at h);go_simp;(try with_reducible rfl));(try simp only[Act.put,jA,jB,jC,jD,jE,jF])
  refine jK (v:=?_) 13 ?_ ?_
  rotate_left;(focus intro W h;(try dsimp only at h);go_simp;(try with_reducible rfl));(try simp only[Act.put,jA,jB,jC,jD,jE,jF])
  refine jR 14 (fun K hK => ?_)
  refine wp_store_midB 28 (.tmp 15) (.tmp 36) xb 0 #[.slice none 0 0,.int .i64 0,.slice none 0 0,.int .i64 0,.slice none 0 0] #[.slice aw 3 cw,.int .i64 q,.slice ad 3 cd,.int .i64 t,.slice ap 3 cp] #[.slice aw 3 cw,.int .i64 q,.slice ad 3 cd,.int .i64 t,.slice ap 3 cp] xu2 rfl rfl rfl (by simp) (by kernel_rfl) (by kernel_rfl) (by kernel_rfl) ?_
  intro T xT sT BT zT9
  have bT:=BT _ _ (by omega) bu2
  have kT:=blk_same ku2 (show w.heap.size ≠ xb by omega) sT
  have zT:=blk_same zu2 (show w.heap.size + 1 ≠ xb by omega) sT
  clear BT zT9 sT
  refine hK.out _ _ (fun o => blk_cell kT o) (fun _ => ?_)
  clear hK K
  (try simp only[Act.put,jA,jB,jC,jD,jE,jF])
  refine wpAnyH_done (by kernel_rfl) ?_ _
  have n1:=kn zT
  go_wp2
  refine ret_blk (b:=w.heap.size + 1) (c:=#[.slice none 0 0,.int .i64 0,.slice none 0 0,.int .i64 0,.slice none 0 0]) (v:=.tuple #[.int .i64 0,.agg #[.slice none 0 0,.int .i64 0,.slice none 0 0,.int .i64 0,.slice none 0 0],.int .i64 8]) (by have h9:=blk_set (i:=4) (v:=.slice none 0 0) (blk_set (i:=3) (v:=.int .i64 0) (blk_set (i:=2) (v:=.slice none 0 0) (blk_set (i:=1) (v:=.int .i64 0) (blk_set (i:=0) (v:=.slice none 0 0) zT))));exact h9) (fun W' hc => by simp [results,Tryd.results35,go_sem,hc]) rfl (FIN.out _ (by (repeat(first|(with_reducible first|assumption|exact Below.refl _ _|refine je ?_|refine jl ?_)|((with_reducible refine jp ?_ ?_);first|focus(dsimp only;assumption)|focus(simp;done)|focus(dsimp only;omega))|(with_reducible refine bt ?_ (by assumption))))))
def sgA (w : World) (tb : Nat) (S : Nat → Prop) : Nat → Prop:=fun b => b = w.heap.size ∨ b = w.heap.size + 1 ∨ b = tb ∨ S b
theorem sg_0 (w : World) (tb : Nat) (S : Nat → Prop) : sgA w tb S w.heap.size:=.inl rfl
theorem sg_1 (w : World) (tb : Nat) (S : Nat → Prop) : sgA w tb S (w.heap.size + 1):=.inr (.inl rfl)
theorem sg_2 (w : World) (tb : Nat) (S : Nat → Prop) : sgA w tb S tb:=.inr (.inr (.inl rfl))
theorem sg_S (w : World) (tb : Nat) (S : Nat → Prop) (b : Nat) (h : S b) : sgA w tb S b:=.inr (.inr (.inr h))
def INV (l : List Bn) (by' : Int) (S : Nat → Prop) (w : World) (tb BB : Nat) (LR : List Int) (DR : Rr) (PR : List Int) (r2 : Rr) (ps2 : List Int) (tk : List Bool) (us2 bu2 : Int) (C : Array Value) (L : List Int) (m : Nat) (o : Value) (wr : World) : Prop :=
  blk wr w.heap.size = some C ∧ blk wr (w.heap.size + 1) = some #[.slice none 0 0,.int .i64 0,.slice none 0 0,.int .i64 0,.slice none 0 0] ∧ blk wr tb = some (cellB tk) ∧ ExitS (avO (sgA w tb S) o) wr C r2 ps2 ∧ tk.length = l.length ∧ GdAll (refW r2 ps2 l tk us2 bu2 by') ∧ wr.ownsRow BB 3 1 o L.length (rowC ic L) ∧ cntW (refW r2 ps2 l tk us2 bu2 by') < m ∧
  L ++ (allS m (refW r2 ps2 l tk us2 bu2 by')).1 = LR ∧ (allS m (refW r2 ps2 l tk us2 bu2 by')).2.dr = DR ∧ (allS m (refW r2 ps2 l tk us2 bu2 by')).2.ps = PR
theorem exitS_to {S T : Nat → Prop} {W : World} {c : Array Value} {r : Rr} {ps : List Int} (h : ExitS S W c r ps) (hT : ∀ b,T b → S b ∨ W.heap.size ≤ b) : ExitS T W c r ps:=by
  obtain ⟨aw,cw,ad,cd,ap,cp,e,h1,h2,h3,n1,n2,n3⟩:=h
  exact ⟨aw,cw,ad,cd,ap,cp,e,h1,h2,h3,n1.to h1 hT,n2.to h2 hT,n3.to h3 hT⟩
theorem exitS_keptS {S : Nat → Prop} {W W' : World} {c : Array Value} {r : Rr} {ps : List Int} (h : ExitS S W c r ps) (hk : KeptS S W W') : ExitS S W' c r ps:=by
  obtain ⟨aw,cw,ad,cd,ap,cp,e,h1,h2,h3,n1,n2,n3⟩:=h
  exact ⟨aw,cw,ad,cd,ap,cp,e,srow_keptS h1 hk n1,srow_keptS h2 hk n2,srow_keptS h3 hk n3,n1,n2,n3⟩
theorem exit_kept {S T : Nat → Prop} {W W' : World} {c : Array Value} {r : Rr} {ps : List Int} {row : Option Nat} (h : ExitS S W c r ps) (hg : W.grownBy W' row) (hT : ∀ b,T b → S b ∨ W.heap.size ≤ b) (hr : ∀ k,row = some k → S k) : ExitS T W' c r ps:=by
  have h1:=exitS_to h (T:=fun b => T b ∨ S b) (fun b h => by rcases h with h|h;exact hT b h;exact .inl h)
  exact (exitS_keptS h1 (KeptS.of_grown hg (fun k e => .inr (hr k e)))).mono (fun b h => .inl h)
theorem sg_lt {w wr : World} {tb BB : Nat} {S : Nat → Prop} {b : Nat} (h : sgA w tb S b) (hl : w.heap.size + 1 < tb ∧ tb < BB) (hb : BB ≤ wr.heap.size) (hS : ∀ b,S b → b < w.heap.size:=by assumption) : b < wr.heap.size:=by
  rcases h with rfl|rfl|rfl|h
  · omega
  · omega
  · omega
  · have:=hS b h;omega
theorem ini_inv {r : Rr} {ps : List Int} {l : List Bn} {us bu by' : Int} (h : OpnG r ps l us bu by') {S : Nat → Prop} {w V : World} {aw ad ap : Option Addr} {cw cd cp : Nat} {q t : Int} {N tb BB : Nat} {LR PR : List Int} {DR : Rr} (hX : ExitS S w #[.slice aw 3 cw,.int .i64 r.q,.slice ad 3 cd,.int .i64 r.t,.slice ap 3 cp] r ps) (bV : Below w.heap.size w V)
    (kV : blk V w.heap.size = some #[.slice aw 3 cw,.int .i64 q,.slice ad 3 cd,.int .i64 t,.slice ap 3 cp]) (zV : blk V (w.heap.size + 1) = some #[.slice none 0 0,.int .i64 0,.slice none 0 0,.int .i64 0,.slice none 0 0]) (tV : blk V tb = some (cellB (List.replicate l.length false))) (hN : l.length < N) (lt : w.heap.size + 1 < tb ∧ tb < BB) (hB : BB ≤ V.heap.size)
    (h1 : LR = (allS N (opnW r ps l us bu by')).1) (h2 : DR = (allS N (opnW r ps l us bu by')).2.dr) (h3 : PR = (allS N (opnW r ps l us bu by')).2.ps) (hq : q = r.q) (ht : t = r.t) :
    INV l by' S w tb BB LR DR PR r ps (List.replicate l.length false) us bu #[.slice aw 3 cw,.int .i64 q,.slice ad 3 cd,.int .i64 t,.slice ap 3 cp] [] N (.slice none 0 0) V:=by
  subst hq;subst ht
  obtain ⟨g0,g1⟩:=opnW_gda h
  refine ⟨kV,zV,tV,?_,by simp,by rw [refW_none];exact g0,World.ownsRow_nil _ _ _ _,by rw [refW_none,g1];exact hN,by rw [refW_none,h1];rfl,by rw [refW_none,h2],by rw [refW_none,h3]⟩
  refine (exitS_to hX (T:=sgA w tb S) (fun b hb => ?_)).below bV |>.mono (fun b hb => ?_)
  · rcases hb with rfl|rfl|rfl|hb
    · exact .inr (Nat.le_refl _)
    · exact .inr (Nat.le_succ _)
    · exact .inr (by omega)
    · exact .inl hb
  · rcases hb with hb|hb
    · exact hb
    · cases hb
set_option maxHeartbeats 12800000 in
theorem rallX_ok {r : Rr} {ps : List Int} {l : List Bn} {us bu by' : Int} (h : OpnG r ps l us bu by') (c : Array Value) (al : Option Addr) (cl : Nat) (w : World) (N : Nat) (hN : l.length < N) (S : Nat → Prop) (hS : ∀ b,S b → b < w.heap.size) (hX : ExitS S w c r ps) (hrow : SRow bn 9 w al cl l) :
  Calls Tryd.prog 36 #[.agg c,.slice al l.length cl,.int .u64 us,.int .i64 bu,.int .i64 by'] w fun e w' => RetAl S (allS N (opnW r ps l us bu by')).1 (allS N (opnW r ps l us bu by')).2 w e w':=by
 obtain ⟨i0,hi,hz0,hz1,hz2⟩:=info_parts infoI64
 have Hi:=Lib.hid hi;have Hz0:=Lib.hid hz0;have Hz1:=Lib.hid hz1;have Hz2:=Lib.hid hz2
 clear hi hz0 hz1 hz2
 have hX0:=hX
 obtain ⟨aw,cw,ad,cd,ap,cp,rfl,hw,hdr,hp,_⟩:=hX
 obtain ⟨⟨k1,k2,_⟩,k3,_⟩:=chkX_zero h.chk
 have hb:=fun y hy => bcode_facts (lstE_codes h.lst y hy)
 have gda:=opnW_gda h
 have GA:=Lib.hid (fun W (hB : Below w.heap.size w W) => (show Calls Tryd.prog 56 #[.agg #[.slice aw 3 cw,.int .i64 r.q,.slice ad 3 cd,.int .i64 r.t,.slice ap 3 cp],.slice al l.length cl,.int .i64 bu,.int .i64 by'] W fun e w' => e = .returned (.int .i64 0) ∧ Below W.heap.size W w' from by
  have h9:=asks_any aw cw ad cd ap cp r ps al cl l bu by' (fun y hy => (hb y hy).2.2.1) W (hw.below hB) (hdr.below hB) (hp.below hB) (hrow.below hB)
  rw [asks_zero h,k1,k2,k3] at h9
  exact h9))
 obtain ⟨LR,hLR⟩ : ∃ v,v = (allS N (opnW r ps l us bu by')).1:=⟨_,rfl⟩
 obtain ⟨DR,hDR⟩ : ∃ v,v = (allS N (opnW r ps l us bu by')).2.dr:=⟨_,rfl⟩
 obtain ⟨PR,hPR⟩ : ∃ v,v = (allS N (opnW r ps l us bu by')).2.ps:=⟨_,rfl⟩
 have HR:=Lib.hid (And.intro hLR (And.intro hDR hPR))
 have FIN : Hid (∀ T a1 c1 L C,LR = L → SRow ic 1 T a1 c1 L → ExitS S T C DR PR → Below w.heap.size w T → upR w.heap.size a1 → RetAl S (allS N (opnW r ps l us bu by')).1 (allS N (opnW r ps l us bu by')).2 w (.returned (.tuple #[.slice a1 L.length c1,.agg C,.int .i64 0])) T):=Lib.hid (fun T a1 c1 L C e1 e2 e3 e4 e5 => by
  subst e1
  rw [hDR,hPR] at e3
  rw [hLR] at e2 ⊢
  exact ⟨a1,c1,C,rfl,e2,e3,e4,e5⟩)
 obtain ⟨fR,hfR⟩ : ∃ R,R = RetAl S (allS N (opnW r ps l us bu by')).1 (allS N (opnW r ps l us bu by')).2 w:=⟨_,rfl⟩
 rw [← hfR] at FIN ⊢
 have HX:=Lib.hid hX0
 have OG:=Lib.hid h;have ROW:=Lib.hid hrow;have HN:=Lib.hid hN;have HSS:=Lib.hid hS
 obtain ⟨q,hq⟩ : ∃ v,v = r.q:=⟨_,rfl⟩
 obtain ⟨t,ht⟩ : ∃ v,v = r.t:=⟨_,rfl⟩
 obtain ⟨nl,hnl0⟩ : ∃ v,v = l.length:=⟨_,rfl⟩
 have HQ:=Lib.hid (And.intro hq ht)
 have HNL:=Lib.hid hnl0
 have hlen:=h.len
 have hlc:=hrow.1
 have hlm:=hrow.2.1
 unfold maxLen at hlm
 rw [← hq,← ht,← hnl0] at GA
 rw [← hnl0] at hlen hlc
 rw [← hq,← ht,← hnl0]
 have t0 : ((0 : Int) != 0) = false:=rfl
 have hS9:=hS
 clear hfR hnl0 hq ht hw hdr hp hrow h k1 k2 k3 hb gda hLR hDR hPR hN hX0 hS
 go_enter Tryd.func36,Tryd.ntmps36
 have n0:=kn (blk_alloc (blk_alloc_new w #[.slice aw 3 cw,.int .i64 q,.slice ad 3 cd,.int .i64 t,.slice ap 3 cp] 28 rfl) (.cells #[.slice none 0 0,.int .i64 0,.slice none 0 0,.int .i64 0,.slice none 0 0] 28))
 go_upto_region 5 with (go_at_call 56;(with_reducible refine (GA.out _ (by (repeat(first|(with_reducible first|assumption|exact Below.refl _ _|refine je ?_|refine jl ?_)|((with_reducible refine jp ?_ ?_);first|focus(dsimp only;assumption)|focus(simp;done)|focus(dsimp only;omega))|(with_reducible refine bt ?_ (by assumption)))))).mono ?_);rintro e w1 ⟨rfl,h1⟩;(have b1 : Below w.heap.size w w1:=by (repeat(first|(with_reducible first|assumption|exact Below.refl _ _|refine je ?_|refine jl ?_)|((with_reducible refine jp ?_ ?_);first|focus(dsimp only;assumption)|focus(simp;done)|focus(dsimp only;omega))|(with_reducible refine bt ?_ (by assumption)))));(have k1 : blk w1 w.heap.size = some #[.slice aw 3 cw,.int .i64 q,.slice ad 3 cd,.int .i64 t,.slice ap 3 cp]:=blk_below h1 (blk_alloc (blk_alloc_new _ _ _ rfl) _));(have z1 : blk w1 (w.heap.size + 1) = some #[.slice none 0 0,.int .i64 0,.slice none 0 0,.int .i64 0,.slice none 0 0]:=blk_below h1 (blk_alloc_new _ _ _ (by simp)));clear h1)
 clear n0
 have mk:=mkB_run nl (by omega)
 go_upto_region 6 with fail
 clear mk
 obtain ⟨tb,etb⟩ : ∃ v,v = w1.heap.size:=⟨_,rfl⟩
 obtain ⟨V,eV⟩ : ∃ v,v = w1.alloc (.cells (madeCells #[.bool false] nl) 4):=⟨_,rfl⟩
 have d1 : Below w1.heap.size w1 V:=(by rw [eV];exact (Below.refl _ _).alloc (Nat.le_refl _) _)
 have tV : blk V tb = some (cellB (List.replicate nl false)):=(by rw [eV,← cellB_made];exact blk_alloc_new _ _ _ etb)
 have kV:=blk_below d1 k1
 have zV:=blk_below d1 z1
 have bV:=bt b1 d1
 have ltb : w.heap.size + 1 < tb:=(by rw [etb];exact blk_lt z1)
 obtain ⟨BB,eBB⟩ : ∃ v,v = V.heap.size:=⟨_,rfl⟩
 have ltB : tb < BB:=(by rw [eBB];exact blk_lt tV)
 rw [← eV,← etb]
 have LT:=Lib.hid (And.intro ltb ltB)
 have BV : BB ≤ V.heap.size:=Nat.le_of_eq eBB
 have INI : Hid (INV l by' S w tb BB LR DR PR r ps (List.replicate l.length false) us bu #[.slice aw 3 cw,.int .i64 q,.slice ad 3 cd,.int .i64 t,.slice ap 3 cp] [] N (.slice none 0 0) V):=Lib.hid (ini_inv OG.out HX.out bV kV zV (by rw [← HNL.out];exact tV) HN.out LT.out BV HR.out.1 HR.out.2.1 HR.out.2.2 HQ.out.1 HQ.out.2)
 have CI : Hid (([] : List Int).length + cntW (refW r ps l (List.replicate l.length false) us bu by') ≤ 20):=Lib.hid (by rw [refW_none,(opnW_gda OG.out).2];have:=OG.out.len;simpa using this)
 clear eV etb d1 tV kV zV k1 z1 b1 eBB HN HR HX HQ ltb ltB GA
 go_wp2
 go_loopw [2,3,14] (fun u b o wr => ∃ (r2 : Rr) (ps2 : List Int) (tk : List Bool) (us2 bu2 : Int) (C : Array Value) (L : List Int) (m : Nat),u = .int .u64 us2 ∧ b = .int .i64 bu2 ∧ L.length + cntW (refW r2 ps2 l tk us2 bu2 by') ≤ 20 ∧ Below w.heap.size w wr ∧ BB ≤ wr.heap.size ∧ lenV o = L.length ∧ Hid (INV l by' S w tb BB LR DR PR r2 ps2 tk us2 bu2 C L m o wr)) (fun u b o _ => 21 - lenV o)
 case atStart => exact ⟨r,ps,_,us,bu,_,[],N,rfl,rfl,CI.out,bV,BV,rfl,INI⟩
 case round =>
  clear INI CI bV BV
  obtain ⟨r2,ps2,tk,us2,bu2,C,L,m,rfl,rfl,hc,hB,hBr,hlo,HK⟩:=hrel
  obtain ⟨kr,zr,tr,er,htl,gy,oo,hm,hL1,hL2,hL3⟩:=HK.out
  obtain ⟨ao,co,rfl,Ro,_⟩:=srow_of_owns ic_len oo
  have uo : upR BB ao:=fun b off e => by subst e;exact (oo.lt b rfl).1
  have OW:=Lib.hid oo
  have OLW : Hid (∀ b,(Value.slice ao L.length co).ownBlock = some b → BB ≤ b ∧ b < wr.heap.size):=Lib.hid (fun b e => oo.lt b e)
  have ER:=Lib.hid er
  obtain ⟨aw2,cw2,ad2,cd2,ap2,cp2,rfl,rw2,rd2,rp2,_⟩:=er
  have BR:=Lib.hid hBr
  have HTL:=Lib.hid htl
  have hb:=fun y hy => bcode_facts (lstE_codes OG.out.lst y hy)
  have gh0:=fun (S' : Nat → Prop) (hS' : ∀ b,S' b → b < wr.heap.size) => rcho_any (r:=r2) (ps:=ps2) (l:=l) aw2 cw2 ad2 cd2 ap2 cp2 al cl tk tb us2 bu2 by' OG.out.len OG.out.lst OG.out.sq htl gy S' wr hS' rw2 rd2 rp2 (ROW.out.below hB) tr
  have ghn:=fun hz => rcho_none (r:=r2) (ps:=ps2) (l:=l) aw2 cw2 ad2 cd2 ap2 cp2 al cl tk tb us2 bu2 by' OG.out.len OG.out.lst OG.out.sq htl gy wr rw2 rd2 rp2 (ROW.out.below hB) tr hz
  have GY:=Lib.hid gy
  clear rw2 rd2 rp2 HK oo hlo
  obtain ⟨m9,rfl⟩ : ∃ m9,m = m9 + 1:=⟨m - 1,by omega⟩
  by_cases hz : (chooseS (refW r2 ps2 l tk us2 bu2 by')).2.2 = 0
  ·have hst:=step_ref (lstE_ids OG.out.lst) htl gy.gd hz
   obtain ⟨n,hnl,hi,htn,hsu,hsb,hstep⟩:=hst
   obtain ⟨pn,n9,A,B,hsg⟩:=step_gd gy hz
   have hgd2:=hsg.gd
   have hcn:=hsg.cnt
   clear hsg
   rw [allS_succ hz] at hL1 hL2 hL3
   rw [hi] at hL1
   obtain ⟨y,hy⟩ : ∃ v,(chooseS (refW r2 ps2 l tk us2 bu2 by')).2.1 = v:=⟨_,rfl⟩
   obtain ⟨q1,hq1⟩ : ∃ v,v = y.dr.q:=⟨_,rfl⟩
   obtain ⟨tt1,ht1⟩ : ∃ v,v = y.dr.t:=⟨_,rfl⟩
   obtain ⟨q2,hq2⟩ : ∃ v,v = r2.q:=⟨_,rfl⟩
   obtain ⟨t2,ht2⟩ : ∃ v,v = r2.t:=⟨_,rfl⟩
   rw [hy] at hstep
   obtain ⟨yb,hyb⟩ : ∃ y,y = l[n]:=⟨_,rfl⟩
   obtain ⟨s,hs⟩ : ∃ s,szB l[n] = s:=⟨_,rfl⟩
   rw [hs] at hstep hsu hsb
   have hs1 : 1 ≤ s ∧ s ≤ 1200:=by rw [← hs];exact (hb _ (List.getElem_mem hnl)).2.2.2
   have gs:=fun W => rsize_any yb (by rw [hyb];exact (hb _ (List.getElem_mem hnl)).2.2.1) (by rw [hyb];exact OG.out.sq _ (List.getElem_mem hnl)) (by rw [hyb,hs];omega) W
   rw [show szB yb = s by rw [hyb,hs]] at gs
   have GS:=Lib.hid gs
   obtain ⟨bl,ol,hal,lbl,hcs⟩:=ROW.out.2.2.2 (by omega)
   have hr:=hcs n hnl
   rw [← hyb] at hr
   have HRY:=Lib.hid hr
   have LBL:=Lib.hid lbl
   have NXT : Hid (∀ (a1 : Option Addr) (c1 : Nat) (a2 : Option Addr) (c2 : Nat) (a3 : Option Addr) (c3 : Nat) wr' o',blk wr' w.heap.size = some #[.slice a1 3 c1,.int .i64 q1,.slice a2 3 c2,.int .i64 tt1,.slice a3 3 c3] → blk wr' (w.heap.size + 1) = some #[.slice none 0 0,.int .i64 0,.slice none 0 0,.int .i64 0,.slice none 0 0] → blk wr' tb = some (cellB (tk.set n true)) → ExitS (avO (sgA w tb S) o') wr' #[.slice a1 3 c1,.int .i64 q1,.slice a2 3 c2,.int .i64 tt1,.slice a3 3 c3] y.dr y.ps → wr'.ownsRow BB 3 1 o' (L ++ [(n : Int)]).length (rowC ic (L ++ [(n : Int)])) → Hid (INV l by' S w tb BB LR DR PR y.dr y.ps (tk.set n true) (us2 - s) (bu2 - s) #[.slice a1 3 c1,.int .i64 q1,.slice a2 3 c2,.int .i64 tt1,.slice a3 3 c3] (L ++ [(n : Int)]) (m9 + 1 - 1) o' wr')):=Lib.hid (fun a1 c1 a2 c2 a3 c3 wr' o' e1 e2 e3 e4 e5 => Lib.hid ⟨e1,e2,e3,e4,by rw [List.length_set];exact htl,by rw [← hstep];exact hgd2,e5,by rw [Nat.add_sub_cancel,← hstep];omega,by rw [Nat.add_sub_cancel,← hstep];simpa using hL1,by rw [Nat.add_sub_cancel,← hstep];exact hL2,by rw [Nat.add_sub_cancel,← hstep];exact hL3⟩)
   have NCN : Hid (L.length + 1 + cntW (refW y.dr y.ps l (tk.set n true) (us2 - s) (bu2 - s) by') ≤ 20):=Lib.hid (by rw [← hstep];omega)
   have gh : Calls Tryd.prog 58 #[.agg #[.slice aw2 3 cw2,.int .i64 q2,.slice ad2 3 cd2,.int .i64 t2,.slice ap2 3 cp2],.slice al l.length cl,.slice (some ⟨tb,0,none⟩) l.length l.length,.int .u64 us2,.int .i64 bu2,.int .i64 by'] wr fun e w' => ∃ a1 c1 a2 c2 a3 c3,e = .returned (.tuple #[.int .i64 (n : Int),.agg #[.slice a1 3 c1,.int .i64 q1,.slice a2 3 c2,.int .i64 tt1,.slice a3 3 c3]]) ∧ ExitS (fun b => b < wr.heap.size) w' #[.slice a1 3 c1,.int .i64 q1,.slice a2 3 c2,.int .i64 tt1,.slice a3 3 c3] y.dr y.ps ∧ Below wr.heap.size wr w':=by
    have h9:=gh0 (fun b => b < wr.heap.size) (fun b h => h)
    rw [← hq2,← ht2] at h9
    refine h9.mono fun e w' hR => ?_
    obtain ⟨h1,⟨h2,_⟩|⟨_,c,h2,a1,c1,a2,c2,a3,c3,h3,h4⟩⟩:=hR
    ·exact absurd hz h2
    ·rw [hi] at h2
     rw [hy] at h3 h4
     rw [← hq1,← ht1] at h3
     subst h3
     exact ⟨a1,c1,a2,c2,a3,c3,h2,⟨a1,c1,a2,c2,a3,c3,by rw [hq1,ht1],h4⟩,h1⟩
   rw [← HNL.out] at gh
   have GH:=Lib.hid gh
   rw [← hq2,← ht2] at kr
   have lL : L.length ≤ 19:=by have:=NCN.out;omega
   have L5 : Hid ((L ++ [(n : Int)]).length = L.length + 1):=Lib.hid (by simp)
   have v1 : IntKind.u64.wrap (us2 - s) = us2 - s:=by have h1:=gy.us.1;have h2:=gy.us.2;have e : (refW r2 ps2 l tk us2 bu2 by').us = us2:=rfl;rw [e] at h1 h2;exact IntWalk.u64_in _ (by omega)
   have v2 : IntKind.i64.wrap s = s:=IntWalk.i64_in _ (by omega)
   have v3 : IntKind.i64.wrap (bu2 - s) = bu2 - s:=by have h1:=gy.bu.1;have h2:=gy.bu.2;have e : (refW r2 ps2 l tk us2 bu2 by').bu = bu2:=rfl;rw [e] at h1 h2;exact IntWalk.i64_in _ (by omega)
   have hnz : (n : Int) < (nl : Int):=by have:=HNL.out;omega
   have htk9 : tk.length = nl:=by rw [htl,HNL.out]
   subst hal
   have nr:=kn kr
   clear hcs hr gs hs hyb lbl hstep hsu hsb hi hy hq1 ht1 hq2 ht2 hL1 hL2 hL3 hgd2 hcn hz gh0 ghn gh gy htl hb htn hm htk9
   go_upto_region 7 with (go_at_call 58;(with_reducible refine (GH.out).mono ?_);rintro e u1 ⟨a1,c1,a2,c2,a3,c3,rfl,hE1,h1⟩)
   have b1:=bt hB h1
   have k1:=blk_below h1 kr
   have z1:=blk_below h1 zr
   have t1:=blk_below h1 tr
   have O1:=Lib.hid (owns_belowS OW.out h1)
   have E1:=Lib.hid hE1
   have s1:=Nat.le_trans BR.out h1.size
   have w1:=h1.size
   clear h1 hE1 GH nr kr zr tr Ro ER
   obtain ⟨xb,exb⟩ : ∃ v,v = u1.heap.size:=⟨_,rfl⟩
   obtain ⟨V,eV⟩ : ∃ v,v = u1.alloc (.cells #[.slice a1 3 c1,.int .i64 q1,.slice a2 3 c2,.int .i64 tt1,.slice a3 3 c3] 28):=⟨_,rfl⟩
   have d1 : Below u1.heap.size u1 V:=(by rw [eV];exact (Below.refl _ _).alloc (Nat.le_refl _) _)
   have xV : blk V xb = some #[.slice a1 3 c1,.int .i64 q1,.slice a2 3 c2,.int .i64 tt1,.slice a3 3 c3]:=(by rw [eV];exact blk_alloc_new _ _ _ exb)
   have lxb : wr.heap.size ≤ xb:=(by rw [exb];exact w1)
   have kV:=blk_below d1 k1
   have zV:=blk_below d1 z1
   have tV:=blk_below d1 t1
   have bV:=bt b1 d1
   have EV:=Lib.hid (E1.out.below d1)
   have OV:=Lib.hid (owns_belowS O1.out d1)
   have sV : BB ≤ V.heap.size:=Nat.le_trans s1 d1.size
   have xbB : BB ≤ xb:=Nat.le_trans BR.out lxb
   rw [← eV,← exb]
   clear eV exb d1 k1 z1 t1 b1 E1 O1 s1 w1
   have d0 : decide ((n : Int) < 0) = false:=decide_eq_false (by omega)
   go_upto_region 9 with fail
   refine wp_region_held_drew (S:=fun W => ∀ o,W.cell? ⟨xb,o,none⟩ = (#[.slice a1 3 c1,.int .i64 q1,.slice a2 3 c2,.int .i64 tt1,.slice a3 3 c3] : Array Value)[o]?) (by kernel_rfl) (fun o => blk_cell (blk_drew xV) o) (fun hHeld => ?_)
   obtain ⟨e0,ed⟩ : ∃ v,v = V.drew:=⟨_,rfl⟩
   have dd : Below V.heap.size V e0:=(by rw [ed];exact (Below.refl _ _).drew)
   have ke0:=blk_below dd kV
   have ze0:=blk_below dd zV
   have te0:=blk_below dd tV
   have xe0:=blk_below dd xV
   have be0:=bt bV dd
   have Ee0:=Lib.hid (EV.out.below dd)
   have Oe0:=Lib.hid (owns_belowS OV.out dd)
   have se0 : BB ≤ e0.heap.size:=Nat.le_trans sV dd.size
   rw [← ed] at hHeld ⊢
   clear ed dd kV zV tV xV bV EV OV sV
   refine jK (v:=?_) 0 ?_ ?_
   rotate_left;(focus intro W h;(try dsimp only at h);go_simp;(try with_reducible rfl));(try simp only[Act.put,jA,jB,jC,jD,jE,jF])
   refine jK (v:=?_) 1 ?_ ?_
   rotate_left;(focus intro W h;(try dsimp only at h);go_simp;(try with_reducible rfl));(try simp only[Act.put,jA,jB,jC,jD,jE,jF])
   refine jK (v:=?_) 2 ?_ ?_
   rotate_left;(focus intro W h;(try dsimp only at h);go_simp;(try with_reducible rfl));(try simp only[Act.put,jA,jB,jC,jD,jE,jF])
   refine jK (v:=?_) 3 ?_ ?_
   rotate_left;(focus intro W h;(try dsimp only at h);go_simp;(try with_reducible rfl));(try simp only[Act.put,jA,jB,jC,jD,jE,jF])
   refine jK (v:=?_) 6 ?_ ?_
   rotate_left;(focus intro W h;(try dsimp only at h);go_simp;(try with_reducible rfl));(try simp only[Act.put,jA,jB,jC,jD,jE,jF])
   refine jR 4 (fun K hK => ?_)
   go_simp
   obtain ⟨E,eE⟩ : ∃ v,v = e0.alloc (.cells #[.int .i64 (n : Int)] 3):=⟨_,rfl⟩
   obtain ⟨nb,enb⟩ : ∃ v,v = e0.heap.size:=⟨_,rfl⟩
   have dE : Below e0.heap.size e0 E:=(by rw [eE];exact (Below.refl _ _).alloc (Nat.le_refl _) _)
   have nE : blk E nb = some #[.int .i64 (n : Int)]:=(by rw [eE];exact blk_alloc_new _ _ _ enb)
   have kE:=blk_below dE ke0
   have zE:=blk_below dE ze0
   have tE:=blk_below dE te0
   have xE:=blk_below dE xe0
   have bE:=bt be0 dE
   have EE:=Lib.hid (Ee0.out.below dE)
   have OE:=Lib.hid (owns_belowS Oe0.out dE)
   have sE : BB ≤ E.heap.size:=Nat.le_trans se0 dE.size
   rw [← eE,← enb]
   clear eE enb dE
   refine hK.out _ _ (fun o => blk_cell xE o) (fun _ => ?_)
   clear hK K
   (try simp only[Act.put,jA,jB,jC,jD,jE,jF])
   refine jR 5 (fun K hK => ?_)
   refine wp_append_fresh (.tmp 46) (.tmp 48) 22 rfl BB 3 i0 (.int .i64 0) 1 8 Tryd.underlying22 Hi.out Hz0.out Hz1.out Hz2.out rfl (by decide) (.slice ao L.length co) L.length (rowC ic L) rfl OE.out ⟨nb,0,none⟩ 1 1 [.int .i64 (n : Int)] rfl rfl (fun jj u hj => (by rw [Addr.add_mid,Nat.zero_add,blk_cell nE];simpa using hj)) (ic_one (n : Int)) (by decide) (by unfold maxLen;omega) (by omega) sE ?_
   intro v' P ho hg hf
   have ho2 : P.ownsRow BB 3 1 v' (L ++ [(n : Int)]).length (rowC ic (L ++ [(n : Int)])):=(by rw [L5.out,rowC_append,rowC_one];exact ho)
   obtain ⟨a9,c9,hv9,_⟩:=srow_of_owns ic_len ho2
   rw [L5.out] at hv9
   subst hv9
   have OP:=Lib.hid ho2
   have OL : ∀ b,(Value.slice ao L.length co).ownBlock = some b → BB ≤ b ∧ b < wr.heap.size:=OLW.out
   have kP : blk P w.heap.size = some #[.slice aw2 3 cw2,.int .i64 q2,.slice ad2 3 cd2,.int .i64 t2,.slice ap2 3 cp2]:=(blk_kept (hg.block _ (blk_lt kE) (fun e => by have:=(OL _ e.symm).1;have:=LT.out;omega))).trans kE
   have zP : blk P (w.heap.size + 1) = some #[.slice none 0 0,.int .i64 0,.slice none 0 0,.int .i64 0,.slice none 0 0]:=(blk_kept (hg.block _ (blk_lt zE) (fun e => by have:=(OL _ e.symm).1;have:=LT.out;omega))).trans zE
   have tP : blk P tb = some (cellB tk):=(blk_kept (hg.block _ (blk_lt tE) (fun e => by have:=(OL _ e.symm).1;have:=LT.out;omega))).trans tE
   have xP : blk P xb = some #[.slice a1 3 c1,.int .i64 q1,.slice a2 3 c2,.int .i64 tt1,.slice a3 3 c3]:=(blk_kept (hg.block _ (blk_lt xE) (fun e => by have:=(OL _ e.symm).2;omega))).trans xE
   have bP : Below w.heap.size w P:=bE.grown hg bE.size (fun k e => by have:=(OL _ e).1;have:=LT.out;omega)
   have sP : BB ≤ P.heap.size:=Nat.le_trans sE hg.size
   have EP : Hid (ExitS (avO (sgA w tb S) (.slice a9 (L.length + 1) c9)) P #[.slice a1 3 c1,.int .i64 q1,.slice a2 3 c2,.int .i64 tt1,.slice a3 3 c3] y.dr y.ps):=Lib.hid (exit_kept EE.out hg (fun b h => by rcases h with h|h;exact .inl (sg_lt h LT.out BR.out);rcases hf with e|e;rw [e] at h;exact .inl (OL b h).2;rw [e] at h;cases h;exact .inr (Nat.le_refl _)) (fun k e => (OL k e).2))
   clear ho ho2 hg hf OL kE zE tE xE bE EE OE sE nE
   refine hK.out _ _ (fun o => blk_cell xP o) (fun _ => ?_)
   clear hK K
   (try simp only[Act.put,jA,jB,jC,jD,jE,jF])
   refine jK (v:=?_) 7 ?_ ?_
   rotate_left;(focus intro W h;(try dsimp only at h);go_simp;(try with_reducible rfl));(try simp only[Act.put,jA,jB,jC,jD,jE,jF])
   refine jR 8 (fun K hK => ?_)
   refine wp_store_midB 28 (.tmp 5) (.tmp 50) w.heap.size 0 #[.slice aw2 3 cw2,.int .i64 q2,.slice ad2 3 cd2,.int .i64 t2,.slice ap2 3 cp2] #[.slice a1 3 c1,.int .i64 q1,.slice a2 3 c2,.int .i64 tt1,.slice a3 3 c3] #[.slice a1 3 c1,.int .i64 q1,.slice a2 3 c2,.int .i64 tt1,.slice a3 3 c3] kP rfl rfl rfl (by simp) (by kernel_rfl) (by kernel_rfl) (by kernel_rfl) ?_
   intro T kT sT BT zT9
   have bT:=BT _ _ (Nat.le_refl _) bP
   have zT:=blk_same zP (show w.heap.size + 1 ≠ w.heap.size from Nat.ne_of_gt (Nat.lt_succ_self _)) sT
   have tT:=blk_same tP (show tb ≠ w.heap.size from Nat.ne_of_gt (Nat.lt_of_succ_lt LT.out.1)) sT
   have xT:=blk_same xP (show xb ≠ w.heap.size by have:=LT.out;omega) sT
   have ET:=Lib.hid (EP.out.sameB sT (.inl (sg_0 _ _ _)))
   have OT:=Lib.hid (owns_sameB OP.out sT (Nat.lt_trans (Nat.lt_of_succ_lt LT.out.1) LT.out.2))
   have hsT : BB ≤ T.heap.size:=Nat.le_trans sP sT.1
   clear BT zT9 sT kP zP tP xP bP EP OP sP
   refine hK.out _ _ (fun o => blk_cell xT o) (fun _ => ?_)
   clear hK K
   (try simp only[Act.put,jA,jB,jC,jD,jE,jF])
   refine jK (v:=?_) 9 ?_ ?_
   rotate_left;(focus intro W h;(try dsimp only at h);go_simp;(try with_reducible rfl));(try simp only[Act.put,jA,jB,jC,jD,jE,jF])
   refine jR 10 (fun K hK => ?_)
   have ctn : T.cell? ⟨tb,n,none⟩ = some (.bool (tk.getD n false)):=(by rw [blk_cell tT,cellB_at (by rw [HTL.out];exact hnl),List.getD_eq_getElem?_getD,List.getElem?_eq_getElem (by rw [HTL.out];exact hnl)];rfl)
   have ftn:=blk_frozen tT n
   go_simp
   obtain ⟨F,eF⟩ : ∃ v,v = T.setCell ⟨tb,n,none⟩ (.bool true):=⟨_,rfl⟩
   have hF : SameB tb T F:=(by rw [eF];exact (SameB.refl _ _).set _ _)
   have kF:=blk_same kT (show w.heap.size ≠ tb from Nat.ne_of_lt (Nat.lt_of_succ_lt LT.out.1)) hF
   have zF:=blk_same zT (show w.heap.size + 1 ≠ tb from Nat.ne_of_lt LT.out.1) hF
   have xF:=blk_same xT (show xb ≠ tb by have:=LT.out;omega) hF
   have tF : blk F tb = some (cellB (tk.set n true)):=(by rw [eF,← cellB_set];exact blk_set tT)
   have bF : Below w.heap.size w F:=(by rw [eF];exact bT.setCell (show w.heap.size ≤ tb from Nat.le_of_lt (Nat.lt_of_succ_lt LT.out.1)) _)
   have EF:=Lib.hid (ET.out.sameB hF (.inl (sg_2 _ _ _)))
   have OF:=Lib.hid (owns_sameB OT.out hF LT.out.2)
   have sF : BB ≤ F.heap.size:=Nat.le_trans hsT hF.1
   rw [← eF]
   clear eF hF kT zT tT xT bT ET OT hsT ctn ftn
   refine hK.out _ _ (fun o => blk_cell xF o) (fun _ => ?_)
   clear hK K
   (try simp only[Act.put,jA,jB,jC,jD,jE,jF])
   refine wpAnyH_done (by kernel_rfl) ?_ _
   have hr9:=range_below LBL.out HRY.out bF
   have hlF : bl < F.heap.size:=Nat.lt_of_lt_of_le LBL.out bF.size
   clear xF
   go_upto_region 10 with fail
   refine wp_region_held_drew (S:=fun W => W.rangeAt bl (ol + n * 9) [.int .i64 yb.no,.int .u64 yb.sq,.int .i64 yb.of,.int .i64 yb.de,.int .i64 yb.pr,.int .i64 yb.bo,.int .i64 yb.li,.int .i64 yb.to,.string yb.da]) (by kernel_rfl) hr9 (fun hHeld => ?_)
   obtain ⟨d1,ed⟩ : ∃ v,v = F.drew:=⟨_,rfl⟩
   have dd : Below F.heap.size F d1:=(by rw [ed];exact (Below.refl _ _).drew)
   have rd1 : d1.rangeAt bl (ol + n * 9) [.int .i64 yb.no,.int .u64 yb.sq,.int .i64 yb.of,.int .i64 yb.de,.int .i64 yb.pr,.int .i64 yb.bo,.int .i64 yb.li,.int .i64 yb.to,.string yb.da]:=(by rw [ed];exact hr9)
   have ld1 : bl < d1.heap.size:=(by rw [ed];exact hlF)
   have kd1:=blk_below dd kF
   have zd1:=blk_below dd zF
   have td1:=blk_below dd tF
   have bd1:=bt bF dd
   have Ed1:=Lib.hid (EF.out.below dd)
   have Od1:=Lib.hid (owns_belowS OF.out dd)
   have sd1 : BB ≤ d1.heap.size:=Nat.le_trans sF dd.size
   rw [← ed] at hHeld ⊢
   clear ed dd hr9 hlF kF zF tF bF EF OF sF
   refine jK (v:=?_) 0 ?_ ?_
   rotate_left;(focus intro W h;(try dsimp only at h);go_simp;(try with_reducible rfl));(try simp only[Act.put,jA,jB,jC,jD,jE,jF])
   refine jK (v:=?_) 1 ?_ ?_
   rotate_left;(focus intro W h;(try dsimp only at h);go_simp;(try with_reducible rfl));(try simp only[Act.put,jA,jB,jC,jD,jE,jF])
   refine jK (v:=?_) 2 ?_ ?_
   rotate_left;(focus intro W h;(try dsimp only at h);go_simp;(try with_reducible rfl));(try simp only[Act.put,jA,jB,jC,jD,jE,jF])
   refine jK (v:=?_) 3 ?_ ?_
   rotate_left;(focus intro W h;(try dsimp only at h);go_simp;(try with_reducible rfl));(try simp only[Act.put,jA,jB,jC,jD,jE,jF])
   refine jK (v:=.agg #[.int .i64 yb.no,.int .u64 yb.sq,.int .i64 yb.of,.int .i64 yb.de,.int .i64 yb.pr,.int .i64 yb.bo,.int .i64 yb.li,.int .i64 yb.to,.string yb.da]) 4 ?_ ?_
   focus (intro W hSw;exact load_runW 38 (.tmp 55) bl (ol + n * 9) [.int .i64 yb.no,.int .u64 yb.sq,.int .i64 yb.of,.int .i64 yb.de,.int .i64 yb.pr,.int .i64 yb.bo,.int .i64 yb.li,.int .i64 yb.to,.string yb.da] _ rfl rfl W hSw Tryd.underlying38 rfl (by kernel_rfl))
   (try simp only[Act.put,jA,jB,jC,jD,jE,jF])
   refine jK (v:=?_) 7 ?_ ?_
   rotate_left;(focus intro W h;(try dsimp only at h);go_simp;(try with_reducible rfl));(try simp only[Act.put,jA,jB,jC,jD,jE,jF])
   refine jK (v:=?_) 8 ?_ ?_
   rotate_left;(focus intro W h;(try dsimp only at h);go_simp;(try with_reducible rfl));(try simp only[Act.put,jA,jB,jC,jD,jE,jF])
   refine jK (v:=?_) 9 ?_ ?_
   rotate_left;(focus intro W h;(try dsimp only at h);go_simp;(try with_reducible rfl));(try simp only[Act.put,jA,jB,jC,jD,jE,jF])
   refine jK (v:=?_) 10 ?_ ?_
   rotate_left;(focus intro W h;(try dsimp only at h);go_simp;(try with_reducible rfl));(try simp only[Act.put,jA,jB,jC,jD,jE,jF])
   refine jK (v:=.agg #[.int .i64 yb.no,.int .u64 yb.sq,.int .i64 yb.of,.int .i64 yb.de,.int .i64 yb.pr,.int .i64 yb.bo,.int .i64 yb.li,.int .i64 yb.to,.string yb.da]) 11 ?_ ?_
   focus (intro W hSw;exact load_runW 38 (.tmp 62) bl (ol + n * 9) [.int .i64 yb.no,.int .u64 yb.sq,.int .i64 yb.of,.int .i64 yb.de,.int .i64 yb.pr,.int .i64 yb.bo,.int .i64 yb.li,.int .i64 yb.to,.string yb.da] _ rfl rfl W hSw Tryd.underlying38 rfl (by kernel_rfl))
   (try simp only[Act.put,jA,jB,jC,jD,jE,jF])
   refine jR 5 (fun K hK => ?_)
   go_simp
   go_at_call 59
   (with_reducible refine (GS.out _).mono ?_)
   rintro e u7 ⟨rfl,hB9⟩
   (try go_wp2_with fail)
   have ru7:=range_below ld1 rd1 hB9
   have lu7 : bl < u7.heap.size:=Nat.lt_of_lt_of_le ld1 hB9.size
   have ku7:=blk_below hB9 kd1
   have zu7:=blk_below hB9 zd1
   have tu7:=blk_below hB9 td1
   have bu7:=bt bd1 hB9
   have Eu7:=Lib.hid (Ed1.out.below hB9)
   have Ou7:=Lib.hid (owns_belowS Od1.out hB9)
   have su7 : BB ≤ u7.heap.size:=Nat.le_trans sd1 hB9.size
   clear hB9 rd1 ld1 kd1 zd1 td1 bd1 Ed1 Od1 sd1
   refine hK.out _ _ ru7 (fun _ => ?_)
   clear hK K
   (try simp only[Act.put,jA,jB,jC,jD,jE,jF])
   refine jK (v:=?_) 6 ?_ ?_
   rotate_left;(focus intro W h;(try dsimp only at h);go_simp;(try with_reducible rfl));(try simp only[Act.put,jA,jB,jC,jD,jE,jF])
   refine jR 12 (fun K hK => ?_)
   go_simp
   go_at_call 59
   (with_reducible refine (GS.out _).mono ?_)
   rintro e u8 ⟨rfl,hB9⟩
   (try go_wp2_with fail)
   have ru8:=range_below lu7 ru7 hB9
   have lu8 : bl < u8.heap.size:=Nat.lt_of_lt_of_le lu7 hB9.size
   have ku8:=blk_below hB9 ku7
   have zu8:=blk_below hB9 zu7
   have tu8:=blk_below hB9 tu7
   have bu8:=bt bu7 hB9
   have Eu8:=Lib.hid (Eu7.out.below hB9)
   have Ou8:=Lib.hid (owns_belowS Ou7.out hB9)
   have su8 : BB ≤ u8.heap.size:=Nat.le_trans su7 hB9.size
   clear hB9 ru7 lu7 ku7 zu7 tu7 bu7 Eu7 Ou7 su7
   refine hK.out _ _ ru8 (fun _ => ?_)
   clear hK K
   (try simp only[Act.put,jA,jB,jC,jD,jE,jF])
   refine jK (v:=?_) 13 ?_ ?_
   rotate_left;(focus intro W h;(try dsimp only at h);go_simp;(try with_reducible rfl));(try simp only[Act.put,jA,jB,jC,jD,jE,jF])
   refine jK (v:=?_) 14 ?_ ?_
   rotate_left;(focus intro W h;(try dsimp only at h);go_simp;(try with_reducible rfl));(try simp only[Act.put,jA,jB,jC,jD,jE,jF])
   refine jK (v:=?_) 15 ?_ ?_
   rotate_left;(focus intro W h;(try dsimp only at h);go_simp;(try with_reducible rfl));(try simp only[Act.put,jA,jB,jC,jD,jE,jF])
   refine jK (v:=?_) 16 ?_ ?_
   rotate_left;(focus intro W h;(try dsimp only at h);go_simp;(try with_reducible rfl));(try simp only[Act.put,jA,jB,jC,jD,jE,jF])
   refine wpAnyH_done (by kernel_rfl) ?_ _
   go_wp2
   go_roundw
   case rel => exact ⟨y.dr,y.ps,tk.set n true,us2 - s,bu2 - s,#[.slice a1 3 c1,.int .i64 q1,.slice a2 3 c2,.int .i64 tt1,.slice a3 3 c3],L ++ [(n : Int)],m9 + 1 - 1,by first|rfl|(rw [v1]),by first|rfl|(rw [v3]),by rw [L5.out];have:=NCN.out;omega,bu8,su8,by rw [L5.out];rfl,NXT.out _ _ _ _ _ _ _ _ ku8 zu8 tu8 Eu8.out Ou8.out⟩
   case measure => simp [lenV];omega
  ·have gh:=ghn hz
   obtain ⟨q2,hq2⟩ : ∃ v,v = r2.q:=⟨_,rfl⟩
   obtain ⟨t2,ht2⟩ : ∃ v,v = r2.t:=⟨_,rfl⟩
   rw [← hq2,← ht2,← HNL.out] at gh
   rw [← hq2,← ht2] at kr
   have GH:=Lib.hid gh
   have HL : Hid (LR = L ∧ r2 = DR ∧ ps2 = PR):=Lib.hid (by
    rw [allS_zero hz] at hL1 hL2 hL3
    exact ⟨by rw [← hL1];simp,hL2,hL3⟩)
   rw [← hq2,← ht2] at ER
   have nr:=kn kr
   clear gh0 ghn gh gy htl hb hm hL1 hL2 hL3 hz hq2 ht2
   go_upto_region 7 with (go_at_call 58;(with_reducible refine (GH.out).mono ?_);rintro e u1 ⟨rfl,h1⟩)
   have b1:=bt hB h1
   have k1:=blk_below h1 kr
   have z1:=blk_below h1 zr
   have E1:=Lib.hid (ER.out.below h1)
   have R1:=Ro.below h1
   clear h1 GH nr kr zr tr
   obtain ⟨V,eV⟩ : ∃ v,v = u1.alloc (.cells #[.slice aw2 3 cw2,.int .i64 q2,.slice ad2 3 cd2,.int .i64 t2,.slice ap2 3 cp2] 28):=⟨_,rfl⟩
   have d1 : Below u1.heap.size u1 V:=(by rw [eV];exact (Below.refl _ _).alloc (Nat.le_refl _) _)
   have kV:=blk_below d1 k1
   have zV:=blk_below d1 z1
   have bV:=bt b1 d1
   have EV:=Lib.hid (E1.out.below d1)
   have RV:=R1.below d1
   rw [← eV]
   clear eV d1 k1 z1 b1 E1 R1
   have d0 : decide ((-1 : Int) < 0) = true:=rfl
   go_upto_region 8 with fail
   refine wp_region_held_drew (S:=fun W => ∀ o,W.cell? ⟨w.heap.size,o,none⟩ = (#[.slice aw2 3 cw2,.int .i64 q2,.slice ad2 3 cd2,.int .i64 t2,.slice ap2 3 cp2] : Array Value)[o]?) (by kernel_rfl) (fun o => blk_cell (blk_drew kV) o) (fun hHeld => ?_)
   obtain ⟨d0,ed⟩ : ∃ v,v = V.drew:=⟨_,rfl⟩
   have kd0 : blk d0 w.heap.size = some #[.slice aw2 3 cw2,.int .i64 q2,.slice ad2 3 cd2,.int .i64 t2,.slice ap2 3 cp2]:=(by rw [ed];exact blk_drew kV)
   have zd0 : blk d0 (w.heap.size + 1) = some #[.slice none 0 0,.int .i64 0,.slice none 0 0,.int .i64 0,.slice none 0 0]:=(by rw [ed];exact blk_drew zV)
   have bd0 : Below w.heap.size w d0:=(by rw [ed];exact bV.drew)
   have Ed0 : Hid (ExitS (avO (sgA w tb S) (.slice ao L.length co)) d0 #[.slice aw2 3 cw2,.int .i64 q2,.slice ad2 3 cd2,.int .i64 t2,.slice ap2 3 cp2] r2 ps2):=Lib.hid (by rw [ed];exact EV.out.below (Below.refl _ _).drew)
   have Rd0 : SRow ic 1 d0 ao co L:=(by rw [ed];exact RV.below (Below.refl _ _).drew)
   rw [← ed] at hHeld ⊢
   clear ed kV zV bV EV RV
   refine jK (v:=?_) 0 ?_ ?_
   rotate_left;(focus intro W h;(try dsimp only at h);go_simp;(try with_reducible rfl));(try simp only[Act.put,jA,jB,jC,jD,jE,jF])
   refine jK (v:=?_) 1 ?_ ?_
   rotate_left;(focus intro W h;(try dsimp only at h);go_simp;(try with_reducible rfl));(try simp only[Act.put,jA,jB,jC,jD,jE,jF])
   refine jK (v:=?_) 2 ?_ ?_
   rotate_left;(focus intro W h;(try dsimp only at h);go_simp;(try with_reducible rfl));(try simp only[Act.put,jA,jB,jC,jD,jE,jF])
   refine jR 3 (fun K hK => ?_)
   refine wp_store_midB 28 (.tmp 11) (.tmp 43) (w.heap.size + 1) 0 #[.slice none 0 0,.int .i64 0,.slice none 0 0,.int .i64 0,.slice none 0 0] #[.slice aw2 3 cw2,.int .i64 q2,.slice ad2 3 cd2,.int .i64 t2,.slice ap2 3 cp2] #[.slice aw2 3 cw2,.int .i64 q2,.slice ad2 3 cd2,.int .i64 t2,.slice ap2 3 cp2] zd0 rfl rfl rfl (by simp) (by kernel_rfl) (by kernel_rfl) (by kernel_rfl) ?_
   intro T kT sT BT zT
   have bT:=BT _ _ (Nat.le_succ w.heap.size) bd0
   have kkT:=blk_same kd0 (show w.heap.size ≠ w.heap.size + 1 from Nat.ne_of_lt (Nat.lt_succ_self _)) sT
   have ET:=(Ed0.out.sameB sT (.inl (sg_1 _ _ _))).mono (T:=S) (fun b h => .inl (sg_S _ _ _ b h))
   clear BT zT
   refine hK.out _ _ (fun o => blk_cell kkT o) (fun _ => ?_)
   clear hK K
   (try simp only[Act.put,jA,jB,jC,jD,jE,jF])
   refine jK (v:=?_) 4 ?_ ?_
   rotate_left;(focus intro W h;(try dsimp only at h);go_simp;(try with_reducible rfl));(try simp only[Act.put,jA,jB,jC,jD,jE,jF])
   refine wpAnyH_done (by kernel_rfl) ?_ _
   go_wp2
   refine ret_blk (b:=w.heap.size + 1) (c:=#[.slice aw2 3 cw2,.int .i64 q2,.slice ad2 3 cd2,.int .i64 t2,.slice ap2 3 cp2]) (v:=.tuple #[.slice ao L.length co,.agg #[.slice aw2 3 cw2,.int .i64 q2,.slice ad2 3 cd2,.int .i64 t2,.slice ap2 3 cp2],.int .i64 0]) kT (fun W' hc => by simp [results,Tryd.results36,go_sem,hc]) rfl ?_
   exact FIN.out T ao co L _ HL.out.1 (Rd0.sameB sT (uo.neA (show w.heap.size + 1 < BB from Nat.lt_trans LT.out.1 LT.out.2) _)) (by rw [← HL.out.2.1,← HL.out.2.2];exact ET) bT (uo.mono (Nat.le_of_lt (Nat.lt_trans (Nat.lt_of_succ_lt LT.out.1) LT.out.2)))
def zRr : Rr:=⟨[],[],0,0⟩
def canF (r : Rr) (ps : List Int) (l : List Bn) (us bu by' : Int) : List Int:=if asksE r ps l bu by' ≠ 0 then [] else candsS (opnW r ps l us bu by')
def choF (r : Rr) (ps : List Int) (l : List Bn) (us bu by' : Int) : Int × Rr × List Int × Int :=
  if asksE r ps l bu by' ≠ 0 then (0,zRr,[],asksE r ps l bu by') else if (chooseS (opnW r ps l us bu by')).2.2 ≠ 0 then (0,zRr,[],(chooseS (opnW r ps l us bu by')).2.2) else
    ((chooseS (opnW r ps l us bu by')).1,(chooseS (opnW r ps l us bu by')).2.1.dr,(chooseS (opnW r ps l us bu by')).2.1.ps,0)
def allF (r : Rr) (ps : List Int) (l : List Bn) (us bu by' : Int) : List Int × Rr × List Int :=
  if asksE r ps l bu by' ≠ 0 then ([],zRr,[]) else ((allS 21 (opnW r ps l us bu by')).1,(allS 21 (opnW r ps l us bu by')).2.dr,(allS 21 (opnW r ps l us bu by')).2.ps)
structure OkA (l : List Bn) (us bu : Int) : Prop where
  len : l.length ≤ 20
  da : ∀ x ∈ l,x.da.size ≤ maxLen
  sq : ∀ x ∈ l,0 ≤ x.sq
  us0 : 0 ≤ us ∧ us ≤ 18446744073709551615
  bu0 : bu ≤ 9223372036854775807
theorem opn_of {r : Rr} {ps : List Int} {l : List Bn} {us bu by' : Int} (h : OkA l us bu) (hz : asksE r ps l bu by' = 0) : OpnG r ps l us bu by':=by
  unfold asksE at hz
  split at hz
  · rename_i h1;exact absurd hz h1
  · rename_i h1
    split at hz
    · rename_i h2;exact absurd hz h2
    · rename_i h2
      split at hz
      · cases hz
      · rename_i h3
        have h4:=h.bu0
        exact ⟨h.len,by simpa using h1,by simpa using h2,h.sq,h.us0,by omega,by omega⟩
theorem all_len : ∀ (n : Nat) (w : Wy),GdW w → cntW w < n → (allS n w).1.length ≤ cntW w
  | 0,w,_,hc => absurd hc (by omega)
  | n + 1,w,h,hc => by
    by_cases hn : (chooseS w).2.2 = 0
    · obtain ⟨p,st⟩:=step_some h hn
      have hcs:=cnt_step st
      have ih:=all_len n (stepW w) st.gd (by omega)
      rw [allS_succ hn,List.length_cons]
      omega
    · rw [allS_zero hn];exact Nat.zero_le _
theorem forms_len {r : Rr} {ps : List Int} {l : List Bn} {us bu : Int} (by' : Int) (h : OkA l us bu) : (canF r ps l us bu by').length ≤ 3 ∧
    ((choF r ps l us bu by').2.1.w.length ≤ 3 ∧ (choF r ps l us bu by').2.1.d.length ≤ 3 ∧ (choF r ps l us bu by').2.2.1.length ≤ 3) ∧
    (allF r ps l us bu by').1.length ≤ 20 ∧ ((allF r ps l us bu by').2.1.w.length ≤ 3 ∧ (allF r ps l us bu by').2.1.d.length ≤ 3 ∧ (allF r ps l us bu by').2.2.length ≤ 3):=by
  unfold canF choF allF
  by_cases hz : asksE r ps l bu by' = 0
  · have og:=opn_of h hz
    obtain ⟨g,gc⟩:=opnW_gda og
    have hc : cntW (opnW r ps l us bu by') < 21:=by have:=h.len;omega
    have ha:=all_spec 21 _ g.gd hc
    have e1 : ¬ (asksE r ps l bu by' ≠ 0):=by simpa using hz
    simp only [if_neg e1]
    refine ⟨by simp [candsS],?_,?_,?_⟩
    · by_cases hn : (chooseS (opnW r ps l us bu by')).2.2 = 0
      · obtain ⟨p,st⟩:=step_some g.gd hn
        have h1:=st.gd.dr
        have h2:=st.gd.ps3
        rw [if_neg (by simpa using hn)]
        exact ⟨Nat.le_of_eq h1.1,Nat.le_of_eq h1.2.1,Nat.le_of_eq h2⟩
      · rw [if_pos hn];simp [zRr]
    · have:=all_len 21 _ g.gd hc
      have:=h.len
      show (allS 21 _).1.length ≤ 20
      omega
    · exact ⟨Nat.le_of_eq ha.gd.dr.1,Nat.le_of_eq ha.gd.dr.2.1,Nat.le_of_eq ha.gd.ps3⟩
  · rw [if_pos hz,if_pos hz,if_pos hz];simp [zRr]
def ExitH (S : Nat → Prop) (W : World) (c : Array Value) (r : Rr) (ps : List Int) : Prop:=∃ aw cw ad cd ap cp,c = #[.slice aw r.w.length cw,.int .i64 r.q,.slice ad r.d.length cd,.int .i64 r.t,.slice ap ps.length cp] ∧ SRow ic 1 W aw cw r.w ∧ SRow ic 1 W ad cd r.d ∧ SRow ic 1 W ap cp ps ∧ neS S aw r.w ∧ neS S ad r.d ∧ neS S ap ps
theorem ExitH.below {S : Nat → Prop} {W W' : World} {c : Array Value} {r : Rr} {ps : List Int} (h : ExitH S W c r ps) (hb : Below W.heap.size W W') : ExitH S W' c r ps:=by
  obtain ⟨aw,cw,ad,cd,ap,cp,e,h1,h2,h3,n⟩:=h
  exact ⟨aw,cw,ad,cd,ap,cp,e,h1.below hb,h2.below hb,h3.below hb,n⟩
theorem ExitH.sameB {S : Nat → Prop} {W W' : World} {g : Nat} {c : Array Value} {r : Rr} {ps : List Int} (h : ExitH S W c r ps) (hs : SameB g W W') (hg : S g) : ExitH S W' c r ps:=by
  obtain ⟨aw,cw,ad,cd,ap,cp,e,h1,h2,h3,n1,n2,n3⟩:=h
  exact ⟨aw,cw,ad,cd,ap,cp,e,h1.sameB hs (n1.neA hg),h2.sameB hs (n2.neA hg),h3.sameB hs (n3.neA hg),n1,n2,n3⟩
theorem ExitH.g {S : Nat → Prop} {W : World} {c : Array Value} {r : Rr} {ps : List Int} (h : ExitH S W c r ps) : ExitG W c r ps:=by
  obtain ⟨aw,cw,ad,cd,ap,cp,e,h1,h2,h3,n⟩:=h
  exact ⟨aw,cw,ad,cd,ap,cp,e,h1,h2,h3⟩
theorem exitH_of {S : Nat → Prop} {W : World} {c : Array Value} {r : Rr} {ps : List Int} (h : ExitS S W c r ps) (h1 : r.w.length = 3) (h2 : r.d.length = 3) (h3 : ps.length = 3) : ExitH S W c r ps:=by
  obtain ⟨aw,cw,ad,cd,ap,cp,e,k1,k2,k3,n⟩:=h
  exact ⟨aw,cw,ad,cd,ap,cp,by rw [e,h1,h2,h3],k1,k2,k3,n⟩
theorem exitH_z (S : Nat → Prop) (W : World) : ExitH S W #[.slice none 0 0,.int .i64 0,.slice none 0 0,.int .i64 0,.slice none 0 0] zRr [] :=
  ⟨none,0,none,0,none,0,rfl,srow_nil W,srow_nil W,srow_nil W,(fun h => by cases h),(fun h => by cases h),(fun h => by cases h)⟩
def RetCN (CL : List Int) (E : Int) (w : World) (e : Ending) (w' : World) : Prop:=∃ a1 c1,e = .returned (.tuple #[.slice a1 CL.length c1,.int .i64 E]) ∧ SRow ic 1 w' a1 c1 CL ∧ Below w.heap.size w w'
def RetCHF (f : Int × Rr × List Int × Int) (w : World) (e : Ending) (w' : World) : Prop:=∃ c,e = .returned (.tuple #[.int .i64 f.1,.agg c,.int .i64 f.2.2.2]) ∧ ExitH (fun _ => False) w' c f.2.1 f.2.2.1 ∧ Below w.heap.size w w'
def RetALF (S : Nat → Prop) (f : List Int × Rr × List Int) (E : Int) (w : World) (e : Ending) (w' : World) : Prop:=∃ a1 c1 c,e = .returned (.tuple #[.slice a1 f.1.length c1,.agg c,.int .i64 E]) ∧ SRow ic 1 w' a1 c1 f.1 ∧ ExitH S w' c f.2.1 f.2.2 ∧ Below w.heap.size w w' ∧ neS S a1 f.1
theorem open_exitS {r : Rr} {ps : List Int} {l : List Bn} {us bu by' : Int} {aw ad ap : Option Addr} {cw cd cp : Nat} {w : World} (og : OpnG r ps l us bu by') (hw : SRow ic 1 w aw cw r.w) (hd : SRow ic 1 w ad cd r.d) (hp : SRow ic 1 w ap cp ps) (S : Nat → Prop) (n1 : neS S aw r.w) (n2 : neS S ad r.d) (n3 : neS S ap ps) : ExitS S w #[.slice aw r.w.length cw,.int .i64 r.q,.slice ad r.d.length cd,.int .i64 r.t,.slice ap ps.length cp] r ps:=by
  obtain ⟨⟨k1,k2,_⟩,k3,_⟩:=chkX_zero og.chk
  exact ⟨aw,cw,ad,cd,ap,cp,by rw [k1,k2,k3],hw,hd,hp,n1,n2,n3⟩
theorem pcandF (aw : Option Addr) (cw : Nat) (ad : Option Addr) (cd : Nat) (ap : Option Addr) (cp : Nat) (r : Rr) (ps : List Int) (al : Option Addr) (cl : Nat) (l : List Bn) (us bu by' : Int) (h : OkA l us bu) (w : World) (hw : SRow ic 1 w aw cw r.w) (hd : SRow ic 1 w ad cd r.d) (hp : SRow ic 1 w ap cp ps) (hrow : SRow bn 9 w al cl l) (hT : HTab w) : Calls Tryd.prog 29 #[.agg #[.slice aw r.w.length cw,.int .i64 r.q,.slice ad r.d.length cd,.int .i64 r.t,.slice ap ps.length cp],.slice al l.length cl,.int .u64 us,.int .i64 bu,.int .i64 by'] w fun e w' => RetCN (canF r ps l us bu by') (asksE r ps l bu by') w e w':=by
  by_cases hz : asksE r ps l bu by' = 0
  · have og:=opn_of h hz
    refine (cands_any og _ al cl w hT (open_exitS og hw hd hp _ (fun _ _ _ _ h => h) (fun _ _ _ _ h => h) (fun _ _ _ _ h => h)) hrow).mono ?_
    rintro e w' ⟨a1,c1,h1,h2,h3⟩
    unfold RetCN canF
    rw [if_neg (by simpa using hz),hz]
    exact ⟨a1,c1,h1,h2,h3⟩
  · refine (candsX_bad aw cw ad cd ap cp r ps al cl l us bu by' h.da w hw hd hp hrow hz).mono ?_
    rintro e w' ⟨h1,h2⟩
    unfold RetCN canF
    rw [if_pos hz]
    exact ⟨none,0,h1,srow_nil _,h2⟩
theorem rcandF (aw : Option Addr) (cw : Nat) (ad : Option Addr) (cd : Nat) (ap : Option Addr) (cp : Nat) (r : Rr) (ps : List Int) (al : Option Addr) (cl : Nat) (l : List Bn) (us bu by' : Int) (h : OkA l us bu) (w : World) (hw : SRow ic 1 w aw cw r.w) (hd : SRow ic 1 w ad cd r.d) (hp : SRow ic 1 w ap cp ps) (hrow : SRow bn 9 w al cl l) : Calls Tryd.prog 34 #[.agg #[.slice aw r.w.length cw,.int .i64 r.q,.slice ad r.d.length cd,.int .i64 r.t,.slice ap ps.length cp],.slice al l.length cl,.int .u64 us,.int .i64 bu,.int .i64 by'] w fun e w' => RetCN (canF r ps l us bu by') (asksE r ps l bu by') w e w':=by
  by_cases hz : asksE r ps l bu by' = 0
  · have og:=opn_of h hz
    refine (rcandsX_ok og _ al cl w (open_exitS og hw hd hp _ (fun _ _ _ _ h => h) (fun _ _ _ _ h => h) (fun _ _ _ _ h => h)) hrow).mono ?_
    rintro e w' ⟨a1,c1,h1,h2,h3⟩
    unfold RetCN canF
    rw [if_neg (by simpa using hz),hz]
    exact ⟨a1,c1,h1,h2,h3⟩
  · refine (rcandsX_bad aw cw ad cd ap cp r ps al cl l us bu by' h.da w hw hd hp hrow hz).mono ?_
    rintro e w' ⟨h1,h2⟩
    unfold RetCN canF
    rw [if_pos hz]
    exact ⟨none,0,h1,srow_nil _,h2⟩
theorem choF_of (r : Rr) (ps : List Int) (l : List Bn) (us bu by' : Int) (h : OkA l us bu) {e : Ending} {w w' : World} (hz : asksE r ps l bu by' = 0) (hR : RetCh (fun _ => False) (opnW r ps l us bu by') w e w') : RetCHF (choF r ps l us bu by') w e w':=by
  have og:=opn_of h hz
  obtain ⟨g,_⟩:=opnW_gda og
  unfold RetCHF choF
  rw [if_neg (by simpa using hz)]
  obtain ⟨h1,⟨h2,h3⟩|⟨h2,c,h3,h4⟩⟩:=hR
  · rw [if_pos h2]
    exact ⟨_,h3,exitH_z _ _,h1⟩
  · rw [if_neg (by simpa using h2)]
    obtain ⟨p,st⟩:=step_some g.gd h2
    have k1:=st.gd.dr
    have k2:=st.gd.ps3
    exact ⟨c,h3,exitH_of h4 k1.1 k1.2.1 k2,h1⟩
theorem pchoF (aw : Option Addr) (cw : Nat) (ad : Option Addr) (cd : Nat) (ap : Option Addr) (cp : Nat) (r : Rr) (ps : List Int) (al : Option Addr) (cl : Nat) (l : List Bn) (us bu by' : Int) (h : OkA l us bu) (w : World) (hw : SRow ic 1 w aw cw r.w) (hd : SRow ic 1 w ad cd r.d) (hp : SRow ic 1 w ap cp ps) (hrow : SRow bn 9 w al cl l) (hT : HTab w) : Calls Tryd.prog 30 #[.agg #[.slice aw r.w.length cw,.int .i64 r.q,.slice ad r.d.length cd,.int .i64 r.t,.slice ap ps.length cp],.slice al l.length cl,.int .u64 us,.int .i64 bu,.int .i64 by'] w fun e w' => RetCHF (choF r ps l us bu by') w e w':=by
  by_cases hz : asksE r ps l bu by' = 0
  · have og:=opn_of h hz
    exact (chooseX_any og _ al cl w hT (fun _ => False) (fun _ h => h.elim) (open_exitS og hw hd hp _ (fun _ _ _ _ h => h) (fun _ _ _ _ h => h) (fun _ _ _ _ h => h)) hrow (fun _ _ _ _ h => h)).mono fun e w' hR => choF_of r ps l us bu by' h hz hR
  · refine (chooseX_bad aw cw ad cd ap cp r ps al cl l us bu by' h.da w hw hd hp hrow hz).mono ?_
    rintro e w' ⟨h1,h2⟩
    unfold RetCHF choF
    rw [if_pos hz]
    exact ⟨_,h1,exitH_z _ _,h2⟩
theorem rchoF (aw : Option Addr) (cw : Nat) (ad : Option Addr) (cd : Nat) (ap : Option Addr) (cp : Nat) (r : Rr) (ps : List Int) (al : Option Addr) (cl : Nat) (l : List Bn) (us bu by' : Int) (h : OkA l us bu) (w : World) (hw : SRow ic 1 w aw cw r.w) (hd : SRow ic 1 w ad cd r.d) (hp : SRow ic 1 w ap cp ps) (hrow : SRow bn 9 w al cl l) : Calls Tryd.prog 35 #[.agg #[.slice aw r.w.length cw,.int .i64 r.q,.slice ad r.d.length cd,.int .i64 r.t,.slice ap ps.length cp],.slice al l.length cl,.int .u64 us,.int .i64 bu,.int .i64 by'] w fun e w' => RetCHF (choF r ps l us bu by') w e w':=by
  by_cases hz : asksE r ps l bu by' = 0
  · have og:=opn_of h hz
    exact (rchooseX_ok og _ al cl w (fun _ => False) (fun _ h => h.elim) (open_exitS og hw hd hp _ (fun _ _ _ _ h => h) (fun _ _ _ _ h => h) (fun _ _ _ _ h => h)) hrow).mono fun e w' hR => choF_of r ps l us bu by' h hz hR
  · refine (rchooseX_bad aw cw ad cd ap cp r ps al cl l us bu by' h.da w hw hd hp hrow hz).mono ?_
    rintro e w' ⟨h1,h2⟩
    unfold RetCHF choF
    rw [if_pos hz]
    exact ⟨_,h1,exitH_z _ _,h2⟩
theorem allF_of (r : Rr) (ps : List Int) (l : List Bn) (us bu by' : Int) (h : OkA l us bu) {S : Nat → Prop} {e : Ending} {w w' : World} (hS : ∀ b,S b → b < w.heap.size) (hz : asksE r ps l bu by' = 0) (hR : RetAl S (allS 21 (opnW r ps l us bu by')).1 (allS 21 (opnW r ps l us bu by')).2 w e w') : RetALF S (allF r ps l us bu by') (asksE r ps l bu by') w e w':=by
  have og:=opn_of h hz
  obtain ⟨g,gc⟩:=opnW_gda og
  have ha:=all_spec 21 _ g.gd (by have:=h.len;omega)
  unfold RetALF allF
  rw [if_neg (by simpa using hz),hz]
  obtain ⟨a1,c1,c,h1,h2,h3,h4,h5⟩:=hR
  exact ⟨a1,c1,c,h1,h2,exitH_of h3 ha.gd.dr.1 ha.gd.dr.2.1 ha.gd.ps3,h4,h5.neS hS _⟩
theorem pallF (aw : Option Addr) (cw : Nat) (ad : Option Addr) (cd : Nat) (ap : Option Addr) (cp : Nat) (r : Rr) (ps : List Int) (al : Option Addr) (cl : Nat) (l : List Bn) (us bu by' : Int) (h : OkA l us bu) (w : World) (hw : SRow ic 1 w aw cw r.w) (hd : SRow ic 1 w ad cd r.d) (hp : SRow ic 1 w ap cp ps) (hrow : SRow bn 9 w al cl l) (hT : HTab w) (S : Nat → Prop) (hS : ∀ b,S b → b < w.heap.size) (n1 : neS S aw r.w) (n2 : neS S ad r.d) (n3 : neS S ap ps) (n4 : neS S al l) : Calls Tryd.prog 11 #[.agg #[.slice aw r.w.length cw,.int .i64 r.q,.slice ad r.d.length cd,.int .i64 r.t,.slice ap ps.length cp],.slice al l.length cl,.int .u64 us,.int .i64 bu,.int .i64 by'] w fun e w' => RetALF S (allF r ps l us bu by') (asksE r ps l bu by') w e w':=by
  by_cases hz : asksE r ps l bu by' = 0
  · have og:=opn_of h hz
    exact (allX_any og 21 (by have:=h.len;omega) _ al cl w hT S hS (open_exitS og hw hd hp _ n1 n2 n3) hrow n4).mono fun e w' hR => allF_of r ps l us bu by' h hS hz hR
  · refine (allX_bad aw cw ad cd ap cp r ps al cl l us bu by' h.da w hw hd hp hrow hz).mono ?_
    rintro e w' ⟨h1,h2⟩
    unfold RetALF allF
    rw [if_pos hz]
    exact ⟨none,0,_,h1,srow_nil _,exitH_z _ _,h2,(fun h => by cases h)⟩
theorem rallF (aw : Option Addr) (cw : Nat) (ad : Option Addr) (cd : Nat) (ap : Option Addr) (cp : Nat) (r : Rr) (ps : List Int) (al : Option Addr) (cl : Nat) (l : List Bn) (us bu by' : Int) (h : OkA l us bu) (w : World) (hw : SRow ic 1 w aw cw r.w) (hd : SRow ic 1 w ad cd r.d) (hp : SRow ic 1 w ap cp ps) (hrow : SRow bn 9 w al cl l) (S : Nat → Prop) (hS : ∀ b,S b → b < w.heap.size) (n1 : neS S aw r.w) (n2 : neS S ad r.d) (n3 : neS S ap ps) : Calls Tryd.prog 36 #[.agg #[.slice aw r.w.length cw,.int .i64 r.q,.slice ad r.d.length cd,.int .i64 r.t,.slice ap ps.length cp],.slice al l.length cl,.int .u64 us,.int .i64 bu,.int .i64 by'] w fun e w' => RetALF S (allF r ps l us bu by') (asksE r ps l bu by') w e w':=by
  by_cases hz : asksE r ps l bu by' = 0
  · have og:=opn_of h hz
    exact (rallX_ok og _ al cl w 21 (by have:=h.len;omega) S hS (open_exitS og hw hd hp _ n1 n2 n3) hrow).mono fun e w' hR => allF_of r ps l us bu by' h hS hz hR
  · refine (rallX_bad aw cw ad cd ap cp r ps al cl l us bu by' h.da w hw hd hp hrow hz).mono ?_
    rintro e w' ⟨h1,h2⟩
    unfold RetALF allF
    rw [if_pos hz]
    exact ⟨none,0,_,h1,srow_nil _,exitH_z _ _,h2,(fun h => by cases h)⟩
end Go.Proofs.YtkaehoihpgelnaaDoor
