/- Parts of a proof, printed by a program of mine out of my texts: FrChkBad. -/
import Derived.Deep.Cut
import Derived.Test.YtaiofjffoboicaaDoorCEq
set_option linter.unusedSimpArgs false
set_option linter.unusedVariables false
namespace Go.Proofs.YtaiofjffoboicaaDoor
open Go.RowKit
set_option maxRecDepth 100000 in
set_option maxHeartbeats 6400000 in
theorem check_b1 (f : Fr) (ua ub ud ui : Bool) (lo hi : Int) (w : World) (gu : ∀ w,Calls Tryd.prog 25 #[.int .i64 f.k] w fun e w' => e = .returned (.tuple #[.agg #[.bool ua,.bool ub,.bool ud,.bool ui],.bool true]) ∧ Below w.heap.size w w')
    (gl : ∀ w,Calls Tryd.prog 40 #[.agg #[.int .i64 f.k,.int .i64 f.fr,.int .i64 f.to_,.int .u64 f.mi,.int .u64 f.yo,.int .u64 f.a,.int .u64 f.b,.int .i64 f.ino,.int .u64 f.isq,.int .i64 f.iof,.int .i64 f.bno,.int .u64 f.bsq,.int .i64 f.bof,.int .i64 f.bde,.int .i64 f.bpr,.int .i64 f.bbo,.int .i64 f.bli,.int .i64 f.bto,.string f.da]] w fun e w' => e = .returned (.tuple #[.int .u64 lo,.int .u64 hi]) ∧ Below w.heap.size w w')
    (hb : f.fr < 1) : Calls Tryd.prog 17 #[frv f] w fun e w' => e = .returned (.int .i64 2) ∧ Below w.heap.size w w':=by
  have t1 : decide (f.fr < 1) = true:=decide_eq_true hb
  clear hb
  replace gu:=Lib.hid gu;replace gl:=Lib.hid gl
  have hun : undef = Value.tuple #[]:=rfl
  go_enter Tryd.func17,Tryd.ntmps17
  go_upto_region 4 with (go_at_call 25;(with_reducible refine (gu.out _).mono ?_);rintro e w1 ⟨rfl,h1⟩;have k1 : blk w1 w.heap.size = some #[.int .i64 f.k,.int .i64 f.fr,.int .i64 f.to_,.int .u64 f.mi,.int .u64 f.yo,.int .u64 f.a,.int .u64 f.b,.int .i64 f.ino,.int .u64 f.isq,.int .i64 f.iof,.int .i64 f.bno,.int .u64 f.bsq,.int .i64 f.bof,.int .i64 f.bde,.int .i64 f.bpr,.int .i64 f.bbo,.int .i64 f.bli,.int .i64 f.bto,.string f.da]:=(by (apply jt;(focus repeat(first|(with_reducible first|assumption|apply jd|apply js)|((with_reducible apply jo);first|focus(dsimp only;assumption)|focus(simp;done)|focus(dsimp only;omega))|((with_reducible apply jn);first|with_reducible rfl|focus(simp;done)|focus(simp;omega))|(with_reducible apply ja)|((with_reducible apply jb);with_reducible assumption)));rfl));have n1:=kn k1)
  refine wp_region_in0 ?_
  intro W0 hE hN
  have bW0 : Below w.heap.size w W0:=(by rw [hE.out];(repeat(first|(with_reducible first|assumption|exact Below.refl _ _|refine je ?_|refine jl ?_)|((with_reducible refine jp ?_ ?_);first|focus(dsimp only;assumption)|focus(simp;done)|focus(dsimp only;omega))|(with_reducible refine bt ?_ (by assumption)))))
  have kf0 : blk W0 w.heap.size = some #[.int .i64 f.k,.int .i64 f.fr,.int .i64 f.to_,.int .u64 f.mi,.int .u64 f.yo,.int .u64 f.a,.int .u64 f.b,.int .i64 f.ino,.int .u64 f.isq,.int .i64 f.iof,.int .i64 f.bno,.int .u64 f.bsq,.int .i64 f.bof,.int .i64 f.bde,.int .i64 f.bpr,.int .i64 f.bbo,.int .i64 f.bli,.int .i64 f.bto,.string f.da]:=(by rw [hE.out];(apply jt;(focus repeat(first|(with_reducible first|assumption|apply jd|apply js)|((with_reducible apply jo);first|focus(dsimp only;assumption)|focus(simp;done)|focus(dsimp only;omega))|((with_reducible apply jn);first|with_reducible rfl|focus(simp;done)|focus(simp;omega))|(with_reducible apply ja)|((with_reducible apply jb);with_reducible assumption)));rfl))
  have ku0 : blk W0 w1.heap.size = some #[.bool ua,.bool ub,.bool ud,.bool ui]:=(by rw [hE.out];(apply jt;(focus repeat(first|(with_reducible first|assumption|apply jd|apply js)|((with_reducible apply jo);first|focus(dsimp only;assumption)|focus(simp;done)|focus(dsimp only;omega))|((with_reducible apply jn);first|with_reducible rfl|focus(simp;done)|focus(simp;omega))|(with_reducible apply ja)|((with_reducible apply jb);with_reducible assumption)));rfl))
  have nf:=calm_kn kf0;have nu:=calm_kn ku0
  clear hE
  refine wpQuiet_load_blk 29 (.tmp 1) w.heap.size #[.int .i64 f.k,.int .i64 f.fr,.int .i64 f.to_,.int .u64 f.mi,.int .u64 f.yo,.int .u64 f.a,.int .u64 f.b,.int .i64 f.ino,.int .u64 f.isq,.int .i64 f.iof,.int .i64 f.bno,.int .u64 f.bsq,.int .i64 f.bof,.int .i64 f.bde,.int .i64 f.bpr,.int .i64 f.bbo,.int .i64 f.bli,.int .i64 f.bto,.string f.da] (fun W hW => by obtain ⟨x,rfl⟩:=hW;exact blk_below x.ok kf0) _ rfl rfl rfl Tryd.underlying29 rfl (by kernel_rfl) ?_
  conv => arg 6;simp [Act.put]
  repeat (go_big_quiet_step ((go_at_call 40;(with_reducible refine Class.go _ (gl.out _)))))
  refine wpQuiet_nil ?_
  rintro _ ⟨x,rfl⟩
  have b4 : Below w.heap.size w x.wd:=bt bW0 x.ok
  have k4 : blk x.wd w.heap.size = some #[.int .i64 f.k,.int .i64 f.fr,.int .i64 f.to_,.int .u64 f.mi,.int .u64 f.yo,.int .u64 f.a,.int .u64 f.b,.int .i64 f.ino,.int .u64 f.isq,.int .i64 f.iof,.int .i64 f.bno,.int .u64 f.bsq,.int .i64 f.bof,.int .i64 f.bde,.int .i64 f.bpr,.int .i64 f.bbo,.int .i64 f.bli,.int .i64 f.bto,.string f.da]:=blk_below x.ok kf0
  have u4 : blk x.wd w1.heap.size = some #[.bool ua,.bool ub,.bool ud,.bool ui]:=blk_below x.ok ku0
  clear nf nu kf0 ku0 bW0 hN n1 k1 h1
  generalize x.wd = w4 at *
  have n4:=kn k4;have q4:=kn u4
  go_wp2
  go_ret
  exact ⟨rfl,b4⟩
set_option maxRecDepth 100000 in
set_option maxHeartbeats 6400000 in
theorem check_b2 (f : Fr) (ua ub ud ui : Bool) (lo hi : Int) (w : World) (gu : ∀ w,Calls Tryd.prog 25 #[.int .i64 f.k] w fun e w' => e = .returned (.tuple #[.agg #[.bool ua,.bool ub,.bool ud,.bool ui],.bool true]) ∧ Below w.heap.size w w')
    (gl : ∀ w,Calls Tryd.prog 40 #[.agg #[.int .i64 f.k,.int .i64 f.fr,.int .i64 f.to_,.int .u64 f.mi,.int .u64 f.yo,.int .u64 f.a,.int .u64 f.b,.int .i64 f.ino,.int .u64 f.isq,.int .i64 f.iof,.int .i64 f.bno,.int .u64 f.bsq,.int .i64 f.bof,.int .i64 f.bde,.int .i64 f.bpr,.int .i64 f.bbo,.int .i64 f.bli,.int .i64 f.bto,.string f.da]] w fun e w' => e = .returned (.tuple #[.int .u64 lo,.int .u64 hi]) ∧ Below w.heap.size w w')
    (n1 : ¬ f.fr < 1)
    (hb : 16 < f.fr) : Calls Tryd.prog 17 #[frv f] w fun e w' => e = .returned (.int .i64 2) ∧ Below w.heap.size w w':=by
  have t1 : decide (f.fr < 1) = false:=decide_eq_false n1
  have t2 : decide (16 < f.fr) = true:=decide_eq_true hb
  clear hb n1
  replace gu:=Lib.hid gu;replace gl:=Lib.hid gl
  have hun : undef = Value.tuple #[]:=rfl
  go_enter Tryd.func17,Tryd.ntmps17
  go_upto_region 4 with (go_at_call 25;(with_reducible refine (gu.out _).mono ?_);rintro e w1 ⟨rfl,h1⟩;have k1 : blk w1 w.heap.size = some #[.int .i64 f.k,.int .i64 f.fr,.int .i64 f.to_,.int .u64 f.mi,.int .u64 f.yo,.int .u64 f.a,.int .u64 f.b,.int .i64 f.ino,.int .u64 f.isq,.int .i64 f.iof,.int .i64 f.bno,.int .u64 f.bsq,.int .i64 f.bof,.int .i64 f.bde,.int .i64 f.bpr,.int .i64 f.bbo,.int .i64 f.bli,.int .i64 f.bto,.string f.da]:=(by (apply jt;(focus repeat(first|(with_reducible first|assumption|apply jd|apply js)|((with_reducible apply jo);first|focus(dsimp only;assumption)|focus(simp;done)|focus(dsimp only;omega))|((with_reducible apply jn);first|with_reducible rfl|focus(simp;done)|focus(simp;omega))|(with_reducible apply ja)|((with_reducible apply jb);with_reducible assumption)));rfl));have n1:=kn k1)
  refine wp_region_in0 ?_
  intro W0 hE hN
  have bW0 : Below w.heap.size w W0:=(by rw [hE.out];(repeat(first|(with_reducible first|assumption|exact Below.refl _ _|refine je ?_|refine jl ?_)|((with_reducible refine jp ?_ ?_);first|focus(dsimp only;assumption)|focus(simp;done)|focus(dsimp only;omega))|(with_reducible refine bt ?_ (by assumption)))))
  have kf0 : blk W0 w.heap.size = some #[.int .i64 f.k,.int .i64 f.fr,.int .i64 f.to_,.int .u64 f.mi,.int .u64 f.yo,.int .u64 f.a,.int .u64 f.b,.int .i64 f.ino,.int .u64 f.isq,.int .i64 f.iof,.int .i64 f.bno,.int .u64 f.bsq,.int .i64 f.bof,.int .i64 f.bde,.int .i64 f.bpr,.int .i64 f.bbo,.int .i64 f.bli,.int .i64 f.bto,.string f.da]:=(by rw [hE.out];(apply jt;(focus repeat(first|(with_reducible first|assumption|apply jd|apply js)|((with_reducible apply jo);first|focus(dsimp only;assumption)|focus(simp;done)|focus(dsimp only;omega))|((with_reducible apply jn);first|with_reducible rfl|focus(simp;done)|focus(simp;omega))|(with_reducible apply ja)|((with_reducible apply jb);with_reducible assumption)));rfl))
  have ku0 : blk W0 w1.heap.size = some #[.bool ua,.bool ub,.bool ud,.bool ui]:=(by rw [hE.out];(apply jt;(focus repeat(first|(with_reducible first|assumption|apply jd|apply js)|((with_reducible apply jo);first|focus(dsimp only;assumption)|focus(simp;done)|focus(dsimp only;omega))|((with_reducible apply jn);first|with_reducible rfl|focus(simp;done)|focus(simp;omega))|(with_reducible apply ja)|((with_reducible apply jb);with_reducible assumption)));rfl))
  have nf:=calm_kn kf0;have nu:=calm_kn ku0
  clear hE
  refine wpQuiet_load_blk 29 (.tmp 1) w.heap.size #[.int .i64 f.k,.int .i64 f.fr,.int .i64 f.to_,.int .u64 f.mi,.int .u64 f.yo,.int .u64 f.a,.int .u64 f.b,.int .i64 f.ino,.int .u64 f.isq,.int .i64 f.iof,.int .i64 f.bno,.int .u64 f.bsq,.int .i64 f.bof,.int .i64 f.bde,.int .i64 f.bpr,.int .i64 f.bbo,.int .i64 f.bli,.int .i64 f.bto,.string f.da] (fun W hW => by obtain ⟨x,rfl⟩:=hW;exact blk_below x.ok kf0) _ rfl rfl rfl Tryd.underlying29 rfl (by kernel_rfl) ?_
  conv => arg 6;simp [Act.put]
  repeat (go_big_quiet_step ((go_at_call 40;(with_reducible refine Class.go _ (gl.out _)))))
  refine wpQuiet_nil ?_
  rintro _ ⟨x,rfl⟩
  have b4 : Below w.heap.size w x.wd:=bt bW0 x.ok
  have k4 : blk x.wd w.heap.size = some #[.int .i64 f.k,.int .i64 f.fr,.int .i64 f.to_,.int .u64 f.mi,.int .u64 f.yo,.int .u64 f.a,.int .u64 f.b,.int .i64 f.ino,.int .u64 f.isq,.int .i64 f.iof,.int .i64 f.bno,.int .u64 f.bsq,.int .i64 f.bof,.int .i64 f.bde,.int .i64 f.bpr,.int .i64 f.bbo,.int .i64 f.bli,.int .i64 f.bto,.string f.da]:=blk_below x.ok kf0
  have u4 : blk x.wd w1.heap.size = some #[.bool ua,.bool ub,.bool ud,.bool ui]:=blk_below x.ok ku0
  clear nf nu kf0 ku0 bW0 hN n1 k1 h1
  generalize x.wd = w4 at *
  have n4:=kn k4;have q4:=kn u4
  go_wp2
  go_ret
  exact ⟨rfl,b4⟩
set_option maxRecDepth 100000 in
set_option maxHeartbeats 6400000 in
theorem check_b3 (f : Fr) (ua ub ud ui : Bool) (lo hi : Int) (w : World) (gu : ∀ w,Calls Tryd.prog 25 #[.int .i64 f.k] w fun e w' => e = .returned (.tuple #[.agg #[.bool ua,.bool ub,.bool ud,.bool ui],.bool true]) ∧ Below w.heap.size w w')
    (gl : ∀ w,Calls Tryd.prog 40 #[.agg #[.int .i64 f.k,.int .i64 f.fr,.int .i64 f.to_,.int .u64 f.mi,.int .u64 f.yo,.int .u64 f.a,.int .u64 f.b,.int .i64 f.ino,.int .u64 f.isq,.int .i64 f.iof,.int .i64 f.bno,.int .u64 f.bsq,.int .i64 f.bof,.int .i64 f.bde,.int .i64 f.bpr,.int .i64 f.bbo,.int .i64 f.bli,.int .i64 f.bto,.string f.da]] w fun e w' => e = .returned (.tuple #[.int .u64 lo,.int .u64 hi]) ∧ Below w.heap.size w w')
    (n1 : ¬ f.fr < 1)
    (n2 : ¬ 16 < f.fr)
    (hb : f.to_ < 1) : Calls Tryd.prog 17 #[frv f] w fun e w' => e = .returned (.int .i64 2) ∧ Below w.heap.size w w':=by
  have t1 : decide (f.fr < 1) = false:=decide_eq_false n1
  have t2 : decide (16 < f.fr) = false:=decide_eq_false n2
  have t3 : decide (f.to_ < 1) = true:=decide_eq_true hb
  clear hb n1 n2
  replace gu:=Lib.hid gu;replace gl:=Lib.hid gl
  have hun : undef = Value.tuple #[]:=rfl
  go_enter Tryd.func17,Tryd.ntmps17
  go_upto_region 4 with (go_at_call 25;(with_reducible refine (gu.out _).mono ?_);rintro e w1 ⟨rfl,h1⟩;have k1 : blk w1 w.heap.size = some #[.int .i64 f.k,.int .i64 f.fr,.int .i64 f.to_,.int .u64 f.mi,.int .u64 f.yo,.int .u64 f.a,.int .u64 f.b,.int .i64 f.ino,.int .u64 f.isq,.int .i64 f.iof,.int .i64 f.bno,.int .u64 f.bsq,.int .i64 f.bof,.int .i64 f.bde,.int .i64 f.bpr,.int .i64 f.bbo,.int .i64 f.bli,.int .i64 f.bto,.string f.da]:=(by (apply jt;(focus repeat(first|(with_reducible first|assumption|apply jd|apply js)|((with_reducible apply jo);first|focus(dsimp only;assumption)|focus(simp;done)|focus(dsimp only;omega))|((with_reducible apply jn);first|with_reducible rfl|focus(simp;done)|focus(simp;omega))|(with_reducible apply ja)|((with_reducible apply jb);with_reducible assumption)));rfl));have n1:=kn k1)
  refine wp_region_in0 ?_
  intro W0 hE hN
  have bW0 : Below w.heap.size w W0:=(by rw [hE.out];(repeat(first|(with_reducible first|assumption|exact Below.refl _ _|refine je ?_|refine jl ?_)|((with_reducible refine jp ?_ ?_);first|focus(dsimp only;assumption)|focus(simp;done)|focus(dsimp only;omega))|(with_reducible refine bt ?_ (by assumption)))))
  have kf0 : blk W0 w.heap.size = some #[.int .i64 f.k,.int .i64 f.fr,.int .i64 f.to_,.int .u64 f.mi,.int .u64 f.yo,.int .u64 f.a,.int .u64 f.b,.int .i64 f.ino,.int .u64 f.isq,.int .i64 f.iof,.int .i64 f.bno,.int .u64 f.bsq,.int .i64 f.bof,.int .i64 f.bde,.int .i64 f.bpr,.int .i64 f.bbo,.int .i64 f.bli,.int .i64 f.bto,.string f.da]:=(by rw [hE.out];(apply jt;(focus repeat(first|(with_reducible first|assumption|apply jd|apply js)|((with_reducible apply jo);first|focus(dsimp only;assumption)|focus(simp;done)|focus(dsimp only;omega))|((with_reducible apply jn);first|with_reducible rfl|focus(simp;done)|focus(simp;omega))|(with_reducible apply ja)|((with_reducible apply jb);with_reducible assumption)));rfl))
  have ku0 : blk W0 w1.heap.size = some #[.bool ua,.bool ub,.bool ud,.bool ui]:=(by rw [hE.out];(apply jt;(focus repeat(first|(with_reducible first|assumption|apply jd|apply js)|((with_reducible apply jo);first|focus(dsimp only;assumption)|focus(simp;done)|focus(dsimp only;omega))|((with_reducible apply jn);first|with_reducible rfl|focus(simp;done)|focus(simp;omega))|(with_reducible apply ja)|((with_reducible apply jb);with_reducible assumption)));rfl))
  have nf:=calm_kn kf0;have nu:=calm_kn ku0
  clear hE
  refine wpQuiet_load_blk 29 (.tmp 1) w.heap.size #[.int .i64 f.k,.int .i64 f.fr,.int .i64 f.to_,.int .u64 f.mi,.int .u64 f.yo,.int .u64 f.a,.int .u64 f.b,.int .i64 f.ino,.int .u64 f.isq,.int .i64 f.iof,.int .i64 f.bno,.int .u64 f.bsq,.int .i64 f.bof,.int .i64 f.bde,.int .i64 f.bpr,.int .i64 f.bbo,.int .i64 f.bli,.int .i64 f.bto,.string f.da] (fun W hW => by obtain ⟨x,rfl⟩:=hW;exact blk_below x.ok kf0) _ rfl rfl rfl Tryd.underlying29 rfl (by kernel_rfl) ?_
  conv => arg 6;simp [Act.put]
  repeat (go_big_quiet_step ((go_at_call 40;(with_reducible refine Class.go _ (gl.out _)))))
  refine wpQuiet_nil ?_
  rintro _ ⟨x,rfl⟩
  have b4 : Below w.heap.size w x.wd:=bt bW0 x.ok
  have k4 : blk x.wd w.heap.size = some #[.int .i64 f.k,.int .i64 f.fr,.int .i64 f.to_,.int .u64 f.mi,.int .u64 f.yo,.int .u64 f.a,.int .u64 f.b,.int .i64 f.ino,.int .u64 f.isq,.int .i64 f.iof,.int .i64 f.bno,.int .u64 f.bsq,.int .i64 f.bof,.int .i64 f.bde,.int .i64 f.bpr,.int .i64 f.bbo,.int .i64 f.bli,.int .i64 f.bto,.string f.da]:=blk_below x.ok kf0
  have u4 : blk x.wd w1.heap.size = some #[.bool ua,.bool ub,.bool ud,.bool ui]:=blk_below x.ok ku0
  clear nf nu kf0 ku0 bW0 hN n1 k1 h1
  generalize x.wd = w4 at *
  have n4:=kn k4;have q4:=kn u4
  go_wp2
  go_ret
  exact ⟨rfl,b4⟩
set_option maxRecDepth 100000 in
set_option maxHeartbeats 6400000 in
theorem check_b4 (f : Fr) (ua ub ud ui : Bool) (lo hi : Int) (w : World) (gu : ∀ w,Calls Tryd.prog 25 #[.int .i64 f.k] w fun e w' => e = .returned (.tuple #[.agg #[.bool ua,.bool ub,.bool ud,.bool ui],.bool true]) ∧ Below w.heap.size w w')
    (gl : ∀ w,Calls Tryd.prog 40 #[.agg #[.int .i64 f.k,.int .i64 f.fr,.int .i64 f.to_,.int .u64 f.mi,.int .u64 f.yo,.int .u64 f.a,.int .u64 f.b,.int .i64 f.ino,.int .u64 f.isq,.int .i64 f.iof,.int .i64 f.bno,.int .u64 f.bsq,.int .i64 f.bof,.int .i64 f.bde,.int .i64 f.bpr,.int .i64 f.bbo,.int .i64 f.bli,.int .i64 f.bto,.string f.da]] w fun e w' => e = .returned (.tuple #[.int .u64 lo,.int .u64 hi]) ∧ Below w.heap.size w w')
    (n1 : ¬ f.fr < 1)
    (n2 : ¬ 16 < f.fr)
    (n3 : ¬ f.to_ < 1)
    (hb : 16 < f.to_) : Calls Tryd.prog 17 #[frv f] w fun e w' => e = .returned (.int .i64 2) ∧ Below w.heap.size w w':=by
  have t1 : decide (f.fr < 1) = false:=decide_eq_false n1
  have t2 : decide (16 < f.fr) = false:=decide_eq_false n2
  have t3 : decide (f.to_ < 1) = false:=decide_eq_false n3
  have t4 : decide (16 < f.to_) = true:=decide_eq_true hb
  clear hb n1 n2 n3
  replace gu:=Lib.hid gu;replace gl:=Lib.hid gl
  have hun : undef = Value.tuple #[]:=rfl
  go_enter Tryd.func17,Tryd.ntmps17
  go_upto_region 4 with (go_at_call 25;(with_reducible refine (gu.out _).mono ?_);rintro e w1 ⟨rfl,h1⟩;have k1 : blk w1 w.heap.size = some #[.int .i64 f.k,.int .i64 f.fr,.int .i64 f.to_,.int .u64 f.mi,.int .u64 f.yo,.int .u64 f.a,.int .u64 f.b,.int .i64 f.ino,.int .u64 f.isq,.int .i64 f.iof,.int .i64 f.bno,.int .u64 f.bsq,.int .i64 f.bof,.int .i64 f.bde,.int .i64 f.bpr,.int .i64 f.bbo,.int .i64 f.bli,.int .i64 f.bto,.string f.da]:=(by (apply jt;(focus repeat(first|(with_reducible first|assumption|apply jd|apply js)|((with_reducible apply jo);first|focus(dsimp only;assumption)|focus(simp;done)|focus(dsimp only;omega))|((with_reducible apply jn);first|with_reducible rfl|focus(simp;done)|focus(simp;omega))|(with_reducible apply ja)|((with_reducible apply jb);with_reducible assumption)));rfl));have n1:=kn k1)
  refine wp_region_in0 ?_
  intro W0 hE hN
  have bW0 : Below w.heap.size w W0:=(by rw [hE.out];(repeat(first|(with_reducible first|assumption|exact Below.refl _ _|refine je ?_|refine jl ?_)|((with_reducible refine jp ?_ ?_);first|focus(dsimp only;assumption)|focus(simp;done)|focus(dsimp only;omega))|(with_reducible refine bt ?_ (by assumption)))))
  have kf0 : blk W0 w.heap.size = some #[.int .i64 f.k,.int .i64 f.fr,.int .i64 f.to_,.int .u64 f.mi,.int .u64 f.yo,.int .u64 f.a,.int .u64 f.b,.int .i64 f.ino,.int .u64 f.isq,.int .i64 f.iof,.int .i64 f.bno,.int .u64 f.bsq,.int .i64 f.bof,.int .i64 f.bde,.int .i64 f.bpr,.int .i64 f.bbo,.int .i64 f.bli,.int .i64 f.bto,.string f.da]:=(by rw [hE.out];(apply jt;(focus repeat(first|(with_reducible first|assumption|apply jd|apply js)|((with_reducible apply jo);first|focus(dsimp only;assumption)|focus(simp;done)|focus(dsimp only;omega))|((with_reducible apply jn);first|with_reducible rfl|focus(simp;done)|focus(simp;omega))|(with_reducible apply ja)|((with_reducible apply jb);with_reducible assumption)));rfl))
  have ku0 : blk W0 w1.heap.size = some #[.bool ua,.bool ub,.bool ud,.bool ui]:=(by rw [hE.out];(apply jt;(focus repeat(first|(with_reducible first|assumption|apply jd|apply js)|((with_reducible apply jo);first|focus(dsimp only;assumption)|focus(simp;done)|focus(dsimp only;omega))|((with_reducible apply jn);first|with_reducible rfl|focus(simp;done)|focus(simp;omega))|(with_reducible apply ja)|((with_reducible apply jb);with_reducible assumption)));rfl))
  have nf:=calm_kn kf0;have nu:=calm_kn ku0
  clear hE
  refine wpQuiet_load_blk 29 (.tmp 1) w.heap.size #[.int .i64 f.k,.int .i64 f.fr,.int .i64 f.to_,.int .u64 f.mi,.int .u64 f.yo,.int .u64 f.a,.int .u64 f.b,.int .i64 f.ino,.int .u64 f.isq,.int .i64 f.iof,.int .i64 f.bno,.int .u64 f.bsq,.int .i64 f.bof,.int .i64 f.bde,.int .i64 f.bpr,.int .i64 f.bbo,.int .i64 f.bli,.int .i64 f.bto,.string f.da] (fun W hW => by obtain ⟨x,rfl⟩:=hW;exact blk_below x.ok kf0) _ rfl rfl rfl Tryd.underlying29 rfl (by kernel_rfl) ?_
  conv => arg 6;simp [Act.put]
  repeat (go_big_quiet_step ((go_at_call 40;(with_reducible refine Class.go _ (gl.out _)))))
  refine wpQuiet_nil ?_
  rintro _ ⟨x,rfl⟩
  have b4 : Below w.heap.size w x.wd:=bt bW0 x.ok
  have k4 : blk x.wd w.heap.size = some #[.int .i64 f.k,.int .i64 f.fr,.int .i64 f.to_,.int .u64 f.mi,.int .u64 f.yo,.int .u64 f.a,.int .u64 f.b,.int .i64 f.ino,.int .u64 f.isq,.int .i64 f.iof,.int .i64 f.bno,.int .u64 f.bsq,.int .i64 f.bof,.int .i64 f.bde,.int .i64 f.bpr,.int .i64 f.bbo,.int .i64 f.bli,.int .i64 f.bto,.string f.da]:=blk_below x.ok kf0
  have u4 : blk x.wd w1.heap.size = some #[.bool ua,.bool ub,.bool ud,.bool ui]:=blk_below x.ok ku0
  clear nf nu kf0 ku0 bW0 hN n1 k1 h1
  generalize x.wd = w4 at *
  have n4:=kn k4;have q4:=kn u4
  go_wp2
  go_ret
  exact ⟨rfl,b4⟩
set_option maxRecDepth 100000 in
set_option maxHeartbeats 6400000 in
theorem check_b5 (f : Fr) (ua ub ud ui : Bool) (lo hi : Int) (w : World) (gu : ∀ w,Calls Tryd.prog 25 #[.int .i64 f.k] w fun e w' => e = .returned (.tuple #[.agg #[.bool ua,.bool ub,.bool ud,.bool ui],.bool true]) ∧ Below w.heap.size w w')
    (gl : ∀ w,Calls Tryd.prog 40 #[.agg #[.int .i64 f.k,.int .i64 f.fr,.int .i64 f.to_,.int .u64 f.mi,.int .u64 f.yo,.int .u64 f.a,.int .u64 f.b,.int .i64 f.ino,.int .u64 f.isq,.int .i64 f.iof,.int .i64 f.bno,.int .u64 f.bsq,.int .i64 f.bof,.int .i64 f.bde,.int .i64 f.bpr,.int .i64 f.bbo,.int .i64 f.bli,.int .i64 f.bto,.string f.da]] w fun e w' => e = .returned (.tuple #[.int .u64 lo,.int .u64 hi]) ∧ Below w.heap.size w w')
    (n1 : ¬ f.fr < 1)
    (n2 : ¬ 16 < f.fr)
    (n3 : ¬ f.to_ < 1)
    (n4 : ¬ 16 < f.to_)
    (hb : f.to_ = f.fr) : Calls Tryd.prog 17 #[frv f] w fun e w' => e = .returned (.int .i64 2) ∧ Below w.heap.size w w':=by
  have t1 : decide (f.fr < 1) = false:=decide_eq_false n1
  have t2 : decide (16 < f.fr) = false:=decide_eq_false n2
  have t3 : decide (f.to_ < 1) = false:=decide_eq_false n3
  have t4 : decide (16 < f.to_) = false:=decide_eq_false n4
  have t5 : (f.to_ == f.fr) = true:=by simp [hb]
  clear hb n1 n2 n3 n4
  replace gu:=Lib.hid gu;replace gl:=Lib.hid gl
  have hun : undef = Value.tuple #[]:=rfl
  go_enter Tryd.func17,Tryd.ntmps17
  go_upto_region 4 with (go_at_call 25;(with_reducible refine (gu.out _).mono ?_);rintro e w1 ⟨rfl,h1⟩;have k1 : blk w1 w.heap.size = some #[.int .i64 f.k,.int .i64 f.fr,.int .i64 f.to_,.int .u64 f.mi,.int .u64 f.yo,.int .u64 f.a,.int .u64 f.b,.int .i64 f.ino,.int .u64 f.isq,.int .i64 f.iof,.int .i64 f.bno,.int .u64 f.bsq,.int .i64 f.bof,.int .i64 f.bde,.int .i64 f.bpr,.int .i64 f.bbo,.int .i64 f.bli,.int .i64 f.bto,.string f.da]:=(by (apply jt;(focus repeat(first|(with_reducible first|assumption|apply jd|apply js)|((with_reducible apply jo);first|focus(dsimp only;assumption)|focus(simp;done)|focus(dsimp only;omega))|((with_reducible apply jn);first|with_reducible rfl|focus(simp;done)|focus(simp;omega))|(with_reducible apply ja)|((with_reducible apply jb);with_reducible assumption)));rfl));have n1:=kn k1)
  refine wp_region_in0 ?_
  intro W0 hE hN
  have bW0 : Below w.heap.size w W0:=(by rw [hE.out];(repeat(first|(with_reducible first|assumption|exact Below.refl _ _|refine je ?_|refine jl ?_)|((with_reducible refine jp ?_ ?_);first|focus(dsimp only;assumption)|focus(simp;done)|focus(dsimp only;omega))|(with_reducible refine bt ?_ (by assumption)))))
  have kf0 : blk W0 w.heap.size = some #[.int .i64 f.k,.int .i64 f.fr,.int .i64 f.to_,.int .u64 f.mi,.int .u64 f.yo,.int .u64 f.a,.int .u64 f.b,.int .i64 f.ino,.int .u64 f.isq,.int .i64 f.iof,.int .i64 f.bno,.int .u64 f.bsq,.int .i64 f.bof,.int .i64 f.bde,.int .i64 f.bpr,.int .i64 f.bbo,.int .i64 f.bli,.int .i64 f.bto,.string f.da]:=(by rw [hE.out];(apply jt;(focus repeat(first|(with_reducible first|assumption|apply jd|apply js)|((with_reducible apply jo);first|focus(dsimp only;assumption)|focus(simp;done)|focus(dsimp only;omega))|((with_reducible apply jn);first|with_reducible rfl|focus(simp;done)|focus(simp;omega))|(with_reducible apply ja)|((with_reducible apply jb);with_reducible assumption)));rfl))
  have ku0 : blk W0 w1.heap.size = some #[.bool ua,.bool ub,.bool ud,.bool ui]:=(by rw [hE.out];(apply jt;(focus repeat(first|(with_reducible first|assumption|apply jd|apply js)|((with_reducible apply jo);first|focus(dsimp only;assumption)|focus(simp;done)|focus(dsimp only;omega))|((with_reducible apply jn);first|with_reducible rfl|focus(simp;done)|focus(simp;omega))|(with_reducible apply ja)|((with_reducible apply jb);with_reducible assumption)));rfl))
  have nf:=calm_kn kf0;have nu:=calm_kn ku0
  clear hE
  refine wpQuiet_load_blk 29 (.tmp 1) w.heap.size #[.int .i64 f.k,.int .i64 f.fr,.int .i64 f.to_,.int .u64 f.mi,.int .u64 f.yo,.int .u64 f.a,.int .u64 f.b,.int .i64 f.ino,.int .u64 f.isq,.int .i64 f.iof,.int .i64 f.bno,.int .u64 f.bsq,.int .i64 f.bof,.int .i64 f.bde,.int .i64 f.bpr,.int .i64 f.bbo,.int .i64 f.bli,.int .i64 f.bto,.string f.da] (fun W hW => by obtain ⟨x,rfl⟩:=hW;exact blk_below x.ok kf0) _ rfl rfl rfl Tryd.underlying29 rfl (by kernel_rfl) ?_
  conv => arg 6;simp [Act.put]
  repeat (go_big_quiet_step ((go_at_call 40;(with_reducible refine Class.go _ (gl.out _)))))
  refine wpQuiet_nil ?_
  rintro _ ⟨x,rfl⟩
  have b4 : Below w.heap.size w x.wd:=bt bW0 x.ok
  have k4 : blk x.wd w.heap.size = some #[.int .i64 f.k,.int .i64 f.fr,.int .i64 f.to_,.int .u64 f.mi,.int .u64 f.yo,.int .u64 f.a,.int .u64 f.b,.int .i64 f.ino,.int .u64 f.isq,.int .i64 f.iof,.int .i64 f.bno,.int .u64 f.bsq,.int .i64 f.bof,.int .i64 f.bde,.int .i64 f.bpr,.int .i64 f.bbo,.int .i64 f.bli,.int .i64 f.bto,.string f.da]:=blk_below x.ok kf0
  have u4 : blk x.wd w1.heap.size = some #[.bool ua,.bool ub,.bool ud,.bool ui]:=blk_below x.ok ku0
  clear nf nu kf0 ku0 bW0 hN n1 k1 h1
  generalize x.wd = w4 at *
  have n4:=kn k4;have q4:=kn u4
  go_wp2
  go_ret
  exact ⟨rfl,b4⟩
set_option maxRecDepth 100000 in
set_option maxHeartbeats 6400000 in
theorem check_b6 (f : Fr) (ua ub ud ui : Bool) (lo hi : Int) (w : World) (gu : ∀ w,Calls Tryd.prog 25 #[.int .i64 f.k] w fun e w' => e = .returned (.tuple #[.agg #[.bool ua,.bool ub,.bool ud,.bool ui],.bool true]) ∧ Below w.heap.size w w')
    (gl : ∀ w,Calls Tryd.prog 40 #[.agg #[.int .i64 f.k,.int .i64 f.fr,.int .i64 f.to_,.int .u64 f.mi,.int .u64 f.yo,.int .u64 f.a,.int .u64 f.b,.int .i64 f.ino,.int .u64 f.isq,.int .i64 f.iof,.int .i64 f.bno,.int .u64 f.bsq,.int .i64 f.bof,.int .i64 f.bde,.int .i64 f.bpr,.int .i64 f.bbo,.int .i64 f.bli,.int .i64 f.bto,.string f.da]] w fun e w' => e = .returned (.tuple #[.int .u64 lo,.int .u64 hi]) ∧ Below w.heap.size w w')
    (n1 : ¬ f.fr < 1)
    (n2 : ¬ 16 < f.fr)
    (n3 : ¬ f.to_ < 1)
    (n4 : ¬ 16 < f.to_)
    (n5 : ¬ f.to_ = f.fr)
    (hb : f.mi < 1) : Calls Tryd.prog 17 #[frv f] w fun e w' => e = .returned (.int .i64 2) ∧ Below w.heap.size w w':=by
  have t1 : decide (f.fr < 1) = false:=decide_eq_false n1
  have t2 : decide (16 < f.fr) = false:=decide_eq_false n2
  have t3 : decide (f.to_ < 1) = false:=decide_eq_false n3
  have t4 : decide (16 < f.to_) = false:=decide_eq_false n4
  have t5 : (f.to_ == f.fr) = false:=by simp [n5]
  have t6 : decide (f.mi < 1) = true:=decide_eq_true hb
  clear hb n1 n2 n3 n4 n5
  replace gu:=Lib.hid gu;replace gl:=Lib.hid gl
  have hun : undef = Value.tuple #[]:=rfl
  go_enter Tryd.func17,Tryd.ntmps17
  go_upto_region 4 with (go_at_call 25;(with_reducible refine (gu.out _).mono ?_);rintro e w1 ⟨rfl,h1⟩;have k1 : blk w1 w.heap.size = some #[.int .i64 f.k,.int .i64 f.fr,.int .i64 f.to_,.int .u64 f.mi,.int .u64 f.yo,.int .u64 f.a,.int .u64 f.b,.int .i64 f.ino,.int .u64 f.isq,.int .i64 f.iof,.int .i64 f.bno,.int .u64 f.bsq,.int .i64 f.bof,.int .i64 f.bde,.int .i64 f.bpr,.int .i64 f.bbo,.int .i64 f.bli,.int .i64 f.bto,.string f.da]:=(by (apply jt;(focus repeat(first|(with_reducible first|assumption|apply jd|apply js)|((with_reducible apply jo);first|focus(dsimp only;assumption)|focus(simp;done)|focus(dsimp only;omega))|((with_reducible apply jn);first|with_reducible rfl|focus(simp;done)|focus(simp;omega))|(with_reducible apply ja)|((with_reducible apply jb);with_reducible assumption)));rfl));have n1:=kn k1)
  refine wp_region_in0 ?_
  intro W0 hE hN
  have bW0 : Below w.heap.size w W0:=(by rw [hE.out];(repeat(first|(with_reducible first|assumption|exact Below.refl _ _|refine je ?_|refine jl ?_)|((with_reducible refine jp ?_ ?_);first|focus(dsimp only;assumption)|focus(simp;done)|focus(dsimp only;omega))|(with_reducible refine bt ?_ (by assumption)))))
  have kf0 : blk W0 w.heap.size = some #[.int .i64 f.k,.int .i64 f.fr,.int .i64 f.to_,.int .u64 f.mi,.int .u64 f.yo,.int .u64 f.a,.int .u64 f.b,.int .i64 f.ino,.int .u64 f.isq,.int .i64 f.iof,.int .i64 f.bno,.int .u64 f.bsq,.int .i64 f.bof,.int .i64 f.bde,.int .i64 f.bpr,.int .i64 f.bbo,.int .i64 f.bli,.int .i64 f.bto,.string f.da]:=(by rw [hE.out];(apply jt;(focus repeat(first|(with_reducible first|assumption|apply jd|apply js)|((with_reducible apply jo);first|focus(dsimp only;assumption)|focus(simp;done)|focus(dsimp only;omega))|((with_reducible apply jn);first|with_reducible rfl|focus(simp;done)|focus(simp;omega))|(with_reducible apply ja)|((with_reducible apply jb);with_reducible assumption)));rfl))
  have ku0 : blk W0 w1.heap.size = some #[.bool ua,.bool ub,.bool ud,.bool ui]:=(by rw [hE.out];(apply jt;(focus repeat(first|(with_reducible first|assumption|apply jd|apply js)|((with_reducible apply jo);first|focus(dsimp only;assumption)|focus(simp;done)|focus(dsimp only;omega))|((with_reducible apply jn);first|with_reducible rfl|focus(simp;done)|focus(simp;omega))|(with_reducible apply ja)|((with_reducible apply jb);with_reducible assumption)));rfl))
  have nf:=calm_kn kf0;have nu:=calm_kn ku0
  clear hE
  refine wpQuiet_load_blk 29 (.tmp 1) w.heap.size #[.int .i64 f.k,.int .i64 f.fr,.int .i64 f.to_,.int .u64 f.mi,.int .u64 f.yo,.int .u64 f.a,.int .u64 f.b,.int .i64 f.ino,.int .u64 f.isq,.int .i64 f.iof,.int .i64 f.bno,.int .u64 f.bsq,.int .i64 f.bof,.int .i64 f.bde,.int .i64 f.bpr,.int .i64 f.bbo,.int .i64 f.bli,.int .i64 f.bto,.string f.da] (fun W hW => by obtain ⟨x,rfl⟩:=hW;exact blk_below x.ok kf0) _ rfl rfl rfl Tryd.underlying29 rfl (by kernel_rfl) ?_
  conv => arg 6;simp [Act.put]
  repeat (go_big_quiet_step ((go_at_call 40;(with_reducible refine Class.go _ (gl.out _)))))
  refine wpQuiet_nil ?_
  rintro _ ⟨x,rfl⟩
  have b4 : Below w.heap.size w x.wd:=bt bW0 x.ok
  have k4 : blk x.wd w.heap.size = some #[.int .i64 f.k,.int .i64 f.fr,.int .i64 f.to_,.int .u64 f.mi,.int .u64 f.yo,.int .u64 f.a,.int .u64 f.b,.int .i64 f.ino,.int .u64 f.isq,.int .i64 f.iof,.int .i64 f.bno,.int .u64 f.bsq,.int .i64 f.bof,.int .i64 f.bde,.int .i64 f.bpr,.int .i64 f.bbo,.int .i64 f.bli,.int .i64 f.bto,.string f.da]:=blk_below x.ok kf0
  have u4 : blk x.wd w1.heap.size = some #[.bool ua,.bool ub,.bool ud,.bool ui]:=blk_below x.ok ku0
  clear nf nu kf0 ku0 bW0 hN n1 k1 h1
  generalize x.wd = w4 at *
  have n4:=kn k4;have q4:=kn u4
  go_wp2
  go_ret
  exact ⟨rfl,b4⟩
set_option maxRecDepth 100000 in
set_option maxHeartbeats 6400000 in
theorem check_b7 (f : Fr) (ua ub ud ui : Bool) (lo hi : Int) (w : World) (gu : ∀ w,Calls Tryd.prog 25 #[.int .i64 f.k] w fun e w' => e = .returned (.tuple #[.agg #[.bool ua,.bool ub,.bool ud,.bool ui],.bool true]) ∧ Below w.heap.size w w')
    (gl : ∀ w,Calls Tryd.prog 40 #[.agg #[.int .i64 f.k,.int .i64 f.fr,.int .i64 f.to_,.int .u64 f.mi,.int .u64 f.yo,.int .u64 f.a,.int .u64 f.b,.int .i64 f.ino,.int .u64 f.isq,.int .i64 f.iof,.int .i64 f.bno,.int .u64 f.bsq,.int .i64 f.bof,.int .i64 f.bde,.int .i64 f.bpr,.int .i64 f.bbo,.int .i64 f.bli,.int .i64 f.bto,.string f.da]] w fun e w' => e = .returned (.tuple #[.int .u64 lo,.int .u64 hi]) ∧ Below w.heap.size w w')
    (n1 : ¬ f.fr < 1)
    (n2 : ¬ 16 < f.fr)
    (n3 : ¬ f.to_ < 1)
    (n4 : ¬ 16 < f.to_)
    (n5 : ¬ f.to_ = f.fr)
    (n6 : ¬ f.mi < 1)
    (hb : 1099511627776 < f.mi) : Calls Tryd.prog 17 #[frv f] w fun e w' => e = .returned (.int .i64 2) ∧ Below w.heap.size w w':=by
  have t1 : decide (f.fr < 1) = false:=decide_eq_false n1
  have t2 : decide (16 < f.fr) = false:=decide_eq_false n2
  have t3 : decide (f.to_ < 1) = false:=decide_eq_false n3
  have t4 : decide (16 < f.to_) = false:=decide_eq_false n4
  have t5 : (f.to_ == f.fr) = false:=by simp [n5]
  have t6 : decide (f.mi < 1) = false:=decide_eq_false n6
  have t7 : decide (1099511627776 < f.mi) = true:=decide_eq_true hb
  clear hb n1 n2 n3 n4 n5 n6
  replace gu:=Lib.hid gu;replace gl:=Lib.hid gl
  have hun : undef = Value.tuple #[]:=rfl
  go_enter Tryd.func17,Tryd.ntmps17
  go_upto_region 4 with (go_at_call 25;(with_reducible refine (gu.out _).mono ?_);rintro e w1 ⟨rfl,h1⟩;have k1 : blk w1 w.heap.size = some #[.int .i64 f.k,.int .i64 f.fr,.int .i64 f.to_,.int .u64 f.mi,.int .u64 f.yo,.int .u64 f.a,.int .u64 f.b,.int .i64 f.ino,.int .u64 f.isq,.int .i64 f.iof,.int .i64 f.bno,.int .u64 f.bsq,.int .i64 f.bof,.int .i64 f.bde,.int .i64 f.bpr,.int .i64 f.bbo,.int .i64 f.bli,.int .i64 f.bto,.string f.da]:=(by (apply jt;(focus repeat(first|(with_reducible first|assumption|apply jd|apply js)|((with_reducible apply jo);first|focus(dsimp only;assumption)|focus(simp;done)|focus(dsimp only;omega))|((with_reducible apply jn);first|with_reducible rfl|focus(simp;done)|focus(simp;omega))|(with_reducible apply ja)|((with_reducible apply jb);with_reducible assumption)));rfl));have n1:=kn k1)
  refine wp_region_in0 ?_
  intro W0 hE hN
  have bW0 : Below w.heap.size w W0:=(by rw [hE.out];(repeat(first|(with_reducible first|assumption|exact Below.refl _ _|refine je ?_|refine jl ?_)|((with_reducible refine jp ?_ ?_);first|focus(dsimp only;assumption)|focus(simp;done)|focus(dsimp only;omega))|(with_reducible refine bt ?_ (by assumption)))))
  have kf0 : blk W0 w.heap.size = some #[.int .i64 f.k,.int .i64 f.fr,.int .i64 f.to_,.int .u64 f.mi,.int .u64 f.yo,.int .u64 f.a,.int .u64 f.b,.int .i64 f.ino,.int .u64 f.isq,.int .i64 f.iof,.int .i64 f.bno,.int .u64 f.bsq,.int .i64 f.bof,.int .i64 f.bde,.int .i64 f.bpr,.int .i64 f.bbo,.int .i64 f.bli,.int .i64 f.bto,.string f.da]:=(by rw [hE.out];(apply jt;(focus repeat(first|(with_reducible first|assumption|apply jd|apply js)|((with_reducible apply jo);first|focus(dsimp only;assumption)|focus(simp;done)|focus(dsimp only;omega))|((with_reducible apply jn);first|with_reducible rfl|focus(simp;done)|focus(simp;omega))|(with_reducible apply ja)|((with_reducible apply jb);with_reducible assumption)));rfl))
  have ku0 : blk W0 w1.heap.size = some #[.bool ua,.bool ub,.bool ud,.bool ui]:=(by rw [hE.out];(apply jt;(focus repeat(first|(with_reducible first|assumption|apply jd|apply js)|((with_reducible apply jo);first|focus(dsimp only;assumption)|focus(simp;done)|focus(dsimp only;omega))|((with_reducible apply jn);first|with_reducible rfl|focus(simp;done)|focus(simp;omega))|(with_reducible apply ja)|((with_reducible apply jb);with_reducible assumption)));rfl))
  have nf:=calm_kn kf0;have nu:=calm_kn ku0
  clear hE
  refine wpQuiet_load_blk 29 (.tmp 1) w.heap.size #[.int .i64 f.k,.int .i64 f.fr,.int .i64 f.to_,.int .u64 f.mi,.int .u64 f.yo,.int .u64 f.a,.int .u64 f.b,.int .i64 f.ino,.int .u64 f.isq,.int .i64 f.iof,.int .i64 f.bno,.int .u64 f.bsq,.int .i64 f.bof,.int .i64 f.bde,.int .i64 f.bpr,.int .i64 f.bbo,.int .i64 f.bli,.int .i64 f.bto,.string f.da] (fun W hW => by obtain ⟨x,rfl⟩:=hW;exact blk_below x.ok kf0) _ rfl rfl rfl Tryd.underlying29 rfl (by kernel_rfl) ?_
  conv => arg 6;simp [Act.put]
  repeat (go_big_quiet_step ((go_at_call 40;(with_reducible refine Class.go _ (gl.out _)))))
  refine wpQuiet_nil ?_
  rintro _ ⟨x,rfl⟩
  have b4 : Below w.heap.size w x.wd:=bt bW0 x.ok
  have k4 : blk x.wd w.heap.size = some #[.int .i64 f.k,.int .i64 f.fr,.int .i64 f.to_,.int .u64 f.mi,.int .u64 f.yo,.int .u64 f.a,.int .u64 f.b,.int .i64 f.ino,.int .u64 f.isq,.int .i64 f.iof,.int .i64 f.bno,.int .u64 f.bsq,.int .i64 f.bof,.int .i64 f.bde,.int .i64 f.bpr,.int .i64 f.bbo,.int .i64 f.bli,.int .i64 f.bto,.string f.da]:=blk_below x.ok kf0
  have u4 : blk x.wd w1.heap.size = some #[.bool ua,.bool ub,.bool ud,.bool ui]:=blk_below x.ok ku0
  clear nf nu kf0 ku0 bW0 hN n1 k1 h1
  generalize x.wd = w4 at *
  have n4:=kn k4;have q4:=kn u4
  go_wp2
  go_ret
  exact ⟨rfl,b4⟩
set_option maxRecDepth 100000 in
set_option maxHeartbeats 6400000 in
theorem check_b8 (f : Fr) (ua ub ud ui : Bool) (lo hi : Int) (w : World) (gu : ∀ w,Calls Tryd.prog 25 #[.int .i64 f.k] w fun e w' => e = .returned (.tuple #[.agg #[.bool ua,.bool ub,.bool ud,.bool ui],.bool true]) ∧ Below w.heap.size w w')
    (gl : ∀ w,Calls Tryd.prog 40 #[.agg #[.int .i64 f.k,.int .i64 f.fr,.int .i64 f.to_,.int .u64 f.mi,.int .u64 f.yo,.int .u64 f.a,.int .u64 f.b,.int .i64 f.ino,.int .u64 f.isq,.int .i64 f.iof,.int .i64 f.bno,.int .u64 f.bsq,.int .i64 f.bof,.int .i64 f.bde,.int .i64 f.bpr,.int .i64 f.bbo,.int .i64 f.bli,.int .i64 f.bto,.string f.da]] w fun e w' => e = .returned (.tuple #[.int .u64 lo,.int .u64 hi]) ∧ Below w.heap.size w w')
    (n1 : ¬ f.fr < 1)
    (n2 : ¬ 16 < f.fr)
    (n3 : ¬ f.to_ < 1)
    (n4 : ¬ 16 < f.to_)
    (n5 : ¬ f.to_ = f.fr)
    (n6 : ¬ f.mi < 1)
    (n7 : ¬ 1099511627776 < f.mi)
    (hb : 1099511627776 < f.yo) : Calls Tryd.prog 17 #[frv f] w fun e w' => e = .returned (.int .i64 2) ∧ Below w.heap.size w w':=by
  have t1 : decide (f.fr < 1) = false:=decide_eq_false n1
  have t2 : decide (16 < f.fr) = false:=decide_eq_false n2
  have t3 : decide (f.to_ < 1) = false:=decide_eq_false n3
  have t4 : decide (16 < f.to_) = false:=decide_eq_false n4
  have t5 : (f.to_ == f.fr) = false:=by simp [n5]
  have t6 : decide (f.mi < 1) = false:=decide_eq_false n6
  have t7 : decide (1099511627776 < f.mi) = false:=decide_eq_false n7
  have t8 : decide (1099511627776 < f.yo) = true:=decide_eq_true hb
  clear hb n1 n2 n3 n4 n5 n6 n7
  replace gu:=Lib.hid gu;replace gl:=Lib.hid gl
  have hun : undef = Value.tuple #[]:=rfl
  go_enter Tryd.func17,Tryd.ntmps17
  go_upto_region 4 with (go_at_call 25;(with_reducible refine (gu.out _).mono ?_);rintro e w1 ⟨rfl,h1⟩;have k1 : blk w1 w.heap.size = some #[.int .i64 f.k,.int .i64 f.fr,.int .i64 f.to_,.int .u64 f.mi,.int .u64 f.yo,.int .u64 f.a,.int .u64 f.b,.int .i64 f.ino,.int .u64 f.isq,.int .i64 f.iof,.int .i64 f.bno,.int .u64 f.bsq,.int .i64 f.bof,.int .i64 f.bde,.int .i64 f.bpr,.int .i64 f.bbo,.int .i64 f.bli,.int .i64 f.bto,.string f.da]:=(by (apply jt;(focus repeat(first|(with_reducible first|assumption|apply jd|apply js)|((with_reducible apply jo);first|focus(dsimp only;assumption)|focus(simp;done)|focus(dsimp only;omega))|((with_reducible apply jn);first|with_reducible rfl|focus(simp;done)|focus(simp;omega))|(with_reducible apply ja)|((with_reducible apply jb);with_reducible assumption)));rfl));have n1:=kn k1)
  refine wp_region_in0 ?_
  intro W0 hE hN
  have bW0 : Below w.heap.size w W0:=(by rw [hE.out];(repeat(first|(with_reducible first|assumption|exact Below.refl _ _|refine je ?_|refine jl ?_)|((with_reducible refine jp ?_ ?_);first|focus(dsimp only;assumption)|focus(simp;done)|focus(dsimp only;omega))|(with_reducible refine bt ?_ (by assumption)))))
  have kf0 : blk W0 w.heap.size = some #[.int .i64 f.k,.int .i64 f.fr,.int .i64 f.to_,.int .u64 f.mi,.int .u64 f.yo,.int .u64 f.a,.int .u64 f.b,.int .i64 f.ino,.int .u64 f.isq,.int .i64 f.iof,.int .i64 f.bno,.int .u64 f.bsq,.int .i64 f.bof,.int .i64 f.bde,.int .i64 f.bpr,.int .i64 f.bbo,.int .i64 f.bli,.int .i64 f.bto,.string f.da]:=(by rw [hE.out];(apply jt;(focus repeat(first|(with_reducible first|assumption|apply jd|apply js)|((with_reducible apply jo);first|focus(dsimp only;assumption)|focus(simp;done)|focus(dsimp only;omega))|((with_reducible apply jn);first|with_reducible rfl|focus(simp;done)|focus(simp;omega))|(with_reducible apply ja)|((with_reducible apply jb);with_reducible assumption)));rfl))
  have ku0 : blk W0 w1.heap.size = some #[.bool ua,.bool ub,.bool ud,.bool ui]:=(by rw [hE.out];(apply jt;(focus repeat(first|(with_reducible first|assumption|apply jd|apply js)|((with_reducible apply jo);first|focus(dsimp only;assumption)|focus(simp;done)|focus(dsimp only;omega))|((with_reducible apply jn);first|with_reducible rfl|focus(simp;done)|focus(simp;omega))|(with_reducible apply ja)|((with_reducible apply jb);with_reducible assumption)));rfl))
  have nf:=calm_kn kf0;have nu:=calm_kn ku0
  clear hE
  refine wpQuiet_load_blk 29 (.tmp 1) w.heap.size #[.int .i64 f.k,.int .i64 f.fr,.int .i64 f.to_,.int .u64 f.mi,.int .u64 f.yo,.int .u64 f.a,.int .u64 f.b,.int .i64 f.ino,.int .u64 f.isq,.int .i64 f.iof,.int .i64 f.bno,.int .u64 f.bsq,.int .i64 f.bof,.int .i64 f.bde,.int .i64 f.bpr,.int .i64 f.bbo,.int .i64 f.bli,.int .i64 f.bto,.string f.da] (fun W hW => by obtain ⟨x,rfl⟩:=hW;exact blk_below x.ok kf0) _ rfl rfl rfl Tryd.underlying29 rfl (by kernel_rfl) ?_
  conv => arg 6;simp [Act.put]
  repeat (go_big_quiet_step ((go_at_call 40;(with_reducible refine Class.go _ (gl.out _)))))
  refine wpQuiet_nil ?_
  rintro _ ⟨x,rfl⟩
  have b4 : Below w.heap.size w x.wd:=bt bW0 x.ok
  have k4 : blk x.wd w.heap.size = some #[.int .i64 f.k,.int .i64 f.fr,.int .i64 f.to_,.int .u64 f.mi,.int .u64 f.yo,.int .u64 f.a,.int .u64 f.b,.int .i64 f.ino,.int .u64 f.isq,.int .i64 f.iof,.int .i64 f.bno,.int .u64 f.bsq,.int .i64 f.bof,.int .i64 f.bde,.int .i64 f.bpr,.int .i64 f.bbo,.int .i64 f.bli,.int .i64 f.bto,.string f.da]:=blk_below x.ok kf0
  have u4 : blk x.wd w1.heap.size = some #[.bool ua,.bool ub,.bool ud,.bool ui]:=blk_below x.ok ku0
  clear nf nu kf0 ku0 bW0 hN n1 k1 h1
  generalize x.wd = w4 at *
  have n4:=kn k4;have q4:=kn u4
  go_wp2
  go_ret
  exact ⟨rfl,b4⟩
set_option maxRecDepth 100000 in
set_option maxHeartbeats 6400000 in
theorem check_b9 (f : Fr) (ub ud ui : Bool) (lo hi : Int) (w : World) (gu : ∀ w,Calls Tryd.prog 25 #[.int .i64 f.k] w fun e w' => e = .returned (.tuple #[.agg #[.bool true,.bool ub,.bool ud,.bool ui],.bool true]) ∧ Below w.heap.size w w')
    (gl : ∀ w,Calls Tryd.prog 40 #[.agg #[.int .i64 f.k,.int .i64 f.fr,.int .i64 f.to_,.int .u64 f.mi,.int .u64 f.yo,.int .u64 f.a,.int .u64 f.b,.int .i64 f.ino,.int .u64 f.isq,.int .i64 f.iof,.int .i64 f.bno,.int .u64 f.bsq,.int .i64 f.bof,.int .i64 f.bde,.int .i64 f.bpr,.int .i64 f.bbo,.int .i64 f.bli,.int .i64 f.bto,.string f.da]] w fun e w' => e = .returned (.tuple #[.int .u64 lo,.int .u64 hi]) ∧ Below w.heap.size w w')
    (n1 : ¬ f.fr < 1)
    (n2 : ¬ 16 < f.fr)
    (n3 : ¬ f.to_ < 1)
    (n4 : ¬ 16 < f.to_)
    (n5 : ¬ f.to_ = f.fr)
    (n6 : ¬ f.mi < 1)
    (n7 : ¬ 1099511627776 < f.mi)
    (n8 : ¬ 1099511627776 < f.yo)
    (hb : 1125899906842624 < f.a) : Calls Tryd.prog 17 #[frv f] w fun e w' => e = .returned (.int .i64 2) ∧ Below w.heap.size w w':=by
  have t1 : decide (f.fr < 1) = false:=decide_eq_false n1
  have t2 : decide (16 < f.fr) = false:=decide_eq_false n2
  have t3 : decide (f.to_ < 1) = false:=decide_eq_false n3
  have t4 : decide (16 < f.to_) = false:=decide_eq_false n4
  have t5 : (f.to_ == f.fr) = false:=by simp [n5]
  have t6 : decide (f.mi < 1) = false:=decide_eq_false n6
  have t7 : decide (1099511627776 < f.mi) = false:=decide_eq_false n7
  have t8 : decide (1099511627776 < f.yo) = false:=decide_eq_false n8
  have t9 : decide (1125899906842624 < f.a) = true:=decide_eq_true hb
  clear hb n1 n2 n3 n4 n5 n6 n7 n8
  replace gu:=Lib.hid gu;replace gl:=Lib.hid gl
  have hun : undef = Value.tuple #[]:=rfl
  go_enter Tryd.func17,Tryd.ntmps17
  go_upto_region 4 with (go_at_call 25;(with_reducible refine (gu.out _).mono ?_);rintro e w1 ⟨rfl,h1⟩;have k1 : blk w1 w.heap.size = some #[.int .i64 f.k,.int .i64 f.fr,.int .i64 f.to_,.int .u64 f.mi,.int .u64 f.yo,.int .u64 f.a,.int .u64 f.b,.int .i64 f.ino,.int .u64 f.isq,.int .i64 f.iof,.int .i64 f.bno,.int .u64 f.bsq,.int .i64 f.bof,.int .i64 f.bde,.int .i64 f.bpr,.int .i64 f.bbo,.int .i64 f.bli,.int .i64 f.bto,.string f.da]:=(by (apply jt;(focus repeat(first|(with_reducible first|assumption|apply jd|apply js)|((with_reducible apply jo);first|focus(dsimp only;assumption)|focus(simp;done)|focus(dsimp only;omega))|((with_reducible apply jn);first|with_reducible rfl|focus(simp;done)|focus(simp;omega))|(with_reducible apply ja)|((with_reducible apply jb);with_reducible assumption)));rfl));have n1:=kn k1)
  refine wp_region_in0 ?_
  intro W0 hE hN
  have bW0 : Below w.heap.size w W0:=(by rw [hE.out];(repeat(first|(with_reducible first|assumption|exact Below.refl _ _|refine je ?_|refine jl ?_)|((with_reducible refine jp ?_ ?_);first|focus(dsimp only;assumption)|focus(simp;done)|focus(dsimp only;omega))|(with_reducible refine bt ?_ (by assumption)))))
  have kf0 : blk W0 w.heap.size = some #[.int .i64 f.k,.int .i64 f.fr,.int .i64 f.to_,.int .u64 f.mi,.int .u64 f.yo,.int .u64 f.a,.int .u64 f.b,.int .i64 f.ino,.int .u64 f.isq,.int .i64 f.iof,.int .i64 f.bno,.int .u64 f.bsq,.int .i64 f.bof,.int .i64 f.bde,.int .i64 f.bpr,.int .i64 f.bbo,.int .i64 f.bli,.int .i64 f.bto,.string f.da]:=(by rw [hE.out];(apply jt;(focus repeat(first|(with_reducible first|assumption|apply jd|apply js)|((with_reducible apply jo);first|focus(dsimp only;assumption)|focus(simp;done)|focus(dsimp only;omega))|((with_reducible apply jn);first|with_reducible rfl|focus(simp;done)|focus(simp;omega))|(with_reducible apply ja)|((with_reducible apply jb);with_reducible assumption)));rfl))
  have ku0 : blk W0 w1.heap.size = some #[.bool true,.bool ub,.bool ud,.bool ui]:=(by rw [hE.out];(apply jt;(focus repeat(first|(with_reducible first|assumption|apply jd|apply js)|((with_reducible apply jo);first|focus(dsimp only;assumption)|focus(simp;done)|focus(dsimp only;omega))|((with_reducible apply jn);first|with_reducible rfl|focus(simp;done)|focus(simp;omega))|(with_reducible apply ja)|((with_reducible apply jb);with_reducible assumption)));rfl))
  have nf:=calm_kn kf0;have nu:=calm_kn ku0
  clear hE
  refine wpQuiet_load_blk 29 (.tmp 1) w.heap.size #[.int .i64 f.k,.int .i64 f.fr,.int .i64 f.to_,.int .u64 f.mi,.int .u64 f.yo,.int .u64 f.a,.int .u64 f.b,.int .i64 f.ino,.int .u64 f.isq,.int .i64 f.iof,.int .i64 f.bno,.int .u64 f.bsq,.int .i64 f.bof,.int .i64 f.bde,.int .i64 f.bpr,.int .i64 f.bbo,.int .i64 f.bli,.int .i64 f.bto,.string f.da] (fun W hW => by obtain ⟨x,rfl⟩:=hW;exact blk_below x.ok kf0) _ rfl rfl rfl Tryd.underlying29 rfl (by kernel_rfl) ?_
  conv => arg 6;simp [Act.put]
  repeat (go_big_quiet_step ((go_at_call 40;(with_reducible refine Class.go _ (gl.out _)))))
  refine wpQuiet_nil ?_
  rintro _ ⟨x,rfl⟩
  have b4 : Below w.heap.size w x.wd:=bt bW0 x.ok
  have k4 : blk x.wd w.heap.size = some #[.int .i64 f.k,.int .i64 f.fr,.int .i64 f.to_,.int .u64 f.mi,.int .u64 f.yo,.int .u64 f.a,.int .u64 f.b,.int .i64 f.ino,.int .u64 f.isq,.int .i64 f.iof,.int .i64 f.bno,.int .u64 f.bsq,.int .i64 f.bof,.int .i64 f.bde,.int .i64 f.bpr,.int .i64 f.bbo,.int .i64 f.bli,.int .i64 f.bto,.string f.da]:=blk_below x.ok kf0
  have u4 : blk x.wd w1.heap.size = some #[.bool true,.bool ub,.bool ud,.bool ui]:=blk_below x.ok ku0
  clear nf nu kf0 ku0 bW0 hN n1 k1 h1
  generalize x.wd = w4 at *
  have n4:=kn k4;have q4:=kn u4
  go_wp2
  go_ret
  exact ⟨rfl,b4⟩
set_option maxRecDepth 100000 in
set_option maxHeartbeats 6400000 in
theorem check_b10 (f : Fr) (ud ui : Bool) (lo hi : Int) (w : World) (gu : ∀ w,Calls Tryd.prog 25 #[.int .i64 f.k] w fun e w' => e = .returned (.tuple #[.agg #[.bool true,.bool true,.bool ud,.bool ui],.bool true]) ∧ Below w.heap.size w w')
    (gl : ∀ w,Calls Tryd.prog 40 #[.agg #[.int .i64 f.k,.int .i64 f.fr,.int .i64 f.to_,.int .u64 f.mi,.int .u64 f.yo,.int .u64 f.a,.int .u64 f.b,.int .i64 f.ino,.int .u64 f.isq,.int .i64 f.iof,.int .i64 f.bno,.int .u64 f.bsq,.int .i64 f.bof,.int .i64 f.bde,.int .i64 f.bpr,.int .i64 f.bbo,.int .i64 f.bli,.int .i64 f.bto,.string f.da]] w fun e w' => e = .returned (.tuple #[.int .u64 lo,.int .u64 hi]) ∧ Below w.heap.size w w')
    (n1 : ¬ f.fr < 1)
    (n2 : ¬ 16 < f.fr)
    (n3 : ¬ f.to_ < 1)
    (n4 : ¬ 16 < f.to_)
    (n5 : ¬ f.to_ = f.fr)
    (n6 : ¬ f.mi < 1)
    (n7 : ¬ 1099511627776 < f.mi)
    (n8 : ¬ 1099511627776 < f.yo)
    (n9 : ¬ 1125899906842624 < f.a)
    (hb : f.b < lo) : Calls Tryd.prog 17 #[frv f] w fun e w' => e = .returned (.int .i64 2) ∧ Below w.heap.size w w':=by
  have t1 : decide (f.fr < 1) = false:=decide_eq_false n1
  have t2 : decide (16 < f.fr) = false:=decide_eq_false n2
  have t3 : decide (f.to_ < 1) = false:=decide_eq_false n3
  have t4 : decide (16 < f.to_) = false:=decide_eq_false n4
  have t5 : (f.to_ == f.fr) = false:=by simp [n5]
  have t6 : decide (f.mi < 1) = false:=decide_eq_false n6
  have t7 : decide (1099511627776 < f.mi) = false:=decide_eq_false n7
  have t8 : decide (1099511627776 < f.yo) = false:=decide_eq_false n8
  have t9 : decide (1125899906842624 < f.a) = false:=decide_eq_false n9
  have t10 : decide (f.b < lo) = true:=decide_eq_true hb
  clear hb n1 n2 n3 n4 n5 n6 n7 n8 n9
  replace gu:=Lib.hid gu;replace gl:=Lib.hid gl
  have hun : undef = Value.tuple #[]:=rfl
  go_enter Tryd.func17,Tryd.ntmps17
  go_upto_region 4 with (go_at_call 25;(with_reducible refine (gu.out _).mono ?_);rintro e w1 ⟨rfl,h1⟩;have k1 : blk w1 w.heap.size = some #[.int .i64 f.k,.int .i64 f.fr,.int .i64 f.to_,.int .u64 f.mi,.int .u64 f.yo,.int .u64 f.a,.int .u64 f.b,.int .i64 f.ino,.int .u64 f.isq,.int .i64 f.iof,.int .i64 f.bno,.int .u64 f.bsq,.int .i64 f.bof,.int .i64 f.bde,.int .i64 f.bpr,.int .i64 f.bbo,.int .i64 f.bli,.int .i64 f.bto,.string f.da]:=(by (apply jt;(focus repeat(first|(with_reducible first|assumption|apply jd|apply js)|((with_reducible apply jo);first|focus(dsimp only;assumption)|focus(simp;done)|focus(dsimp only;omega))|((with_reducible apply jn);first|with_reducible rfl|focus(simp;done)|focus(simp;omega))|(with_reducible apply ja)|((with_reducible apply jb);with_reducible assumption)));rfl));have n1:=kn k1)
  refine wp_region_in0 ?_
  intro W0 hE hN
  have bW0 : Below w.heap.size w W0:=(by rw [hE.out];(repeat(first|(with_reducible first|assumption|exact Below.refl _ _|refine je ?_|refine jl ?_)|((with_reducible refine jp ?_ ?_);first|focus(dsimp only;assumption)|focus(simp;done)|focus(dsimp only;omega))|(with_reducible refine bt ?_ (by assumption)))))
  have kf0 : blk W0 w.heap.size = some #[.int .i64 f.k,.int .i64 f.fr,.int .i64 f.to_,.int .u64 f.mi,.int .u64 f.yo,.int .u64 f.a,.int .u64 f.b,.int .i64 f.ino,.int .u64 f.isq,.int .i64 f.iof,.int .i64 f.bno,.int .u64 f.bsq,.int .i64 f.bof,.int .i64 f.bde,.int .i64 f.bpr,.int .i64 f.bbo,.int .i64 f.bli,.int .i64 f.bto,.string f.da]:=(by rw [hE.out];(apply jt;(focus repeat(first|(with_reducible first|assumption|apply jd|apply js)|((with_reducible apply jo);first|focus(dsimp only;assumption)|focus(simp;done)|focus(dsimp only;omega))|((with_reducible apply jn);first|with_reducible rfl|focus(simp;done)|focus(simp;omega))|(with_reducible apply ja)|((with_reducible apply jb);with_reducible assumption)));rfl))
  have ku0 : blk W0 w1.heap.size = some #[.bool true,.bool true,.bool ud,.bool ui]:=(by rw [hE.out];(apply jt;(focus repeat(first|(with_reducible first|assumption|apply jd|apply js)|((with_reducible apply jo);first|focus(dsimp only;assumption)|focus(simp;done)|focus(dsimp only;omega))|((with_reducible apply jn);first|with_reducible rfl|focus(simp;done)|focus(simp;omega))|(with_reducible apply ja)|((with_reducible apply jb);with_reducible assumption)));rfl))
  have nf:=calm_kn kf0;have nu:=calm_kn ku0
  clear hE
  refine wpQuiet_load_blk 29 (.tmp 1) w.heap.size #[.int .i64 f.k,.int .i64 f.fr,.int .i64 f.to_,.int .u64 f.mi,.int .u64 f.yo,.int .u64 f.a,.int .u64 f.b,.int .i64 f.ino,.int .u64 f.isq,.int .i64 f.iof,.int .i64 f.bno,.int .u64 f.bsq,.int .i64 f.bof,.int .i64 f.bde,.int .i64 f.bpr,.int .i64 f.bbo,.int .i64 f.bli,.int .i64 f.bto,.string f.da] (fun W hW => by obtain ⟨x,rfl⟩:=hW;exact blk_below x.ok kf0) _ rfl rfl rfl Tryd.underlying29 rfl (by kernel_rfl) ?_
  conv => arg 6;simp [Act.put]
  repeat (go_big_quiet_step ((go_at_call 40;(with_reducible refine Class.go _ (gl.out _)))))
  refine wpQuiet_nil ?_
  rintro _ ⟨x,rfl⟩
  have b4 : Below w.heap.size w x.wd:=bt bW0 x.ok
  have k4 : blk x.wd w.heap.size = some #[.int .i64 f.k,.int .i64 f.fr,.int .i64 f.to_,.int .u64 f.mi,.int .u64 f.yo,.int .u64 f.a,.int .u64 f.b,.int .i64 f.ino,.int .u64 f.isq,.int .i64 f.iof,.int .i64 f.bno,.int .u64 f.bsq,.int .i64 f.bof,.int .i64 f.bde,.int .i64 f.bpr,.int .i64 f.bbo,.int .i64 f.bli,.int .i64 f.bto,.string f.da]:=blk_below x.ok kf0
  have u4 : blk x.wd w1.heap.size = some #[.bool true,.bool true,.bool ud,.bool ui]:=blk_below x.ok ku0
  clear nf nu kf0 ku0 bW0 hN n1 k1 h1
  generalize x.wd = w4 at *
  have n4:=kn k4;have q4:=kn u4
  go_wp2
  go_ret
  exact ⟨rfl,b4⟩
set_option maxRecDepth 100000 in
set_option maxHeartbeats 6400000 in
theorem check_b11 (f : Fr) (ud ui : Bool) (lo hi : Int) (w : World) (gu : ∀ w,Calls Tryd.prog 25 #[.int .i64 f.k] w fun e w' => e = .returned (.tuple #[.agg #[.bool true,.bool true,.bool ud,.bool ui],.bool true]) ∧ Below w.heap.size w w')
    (gl : ∀ w,Calls Tryd.prog 40 #[.agg #[.int .i64 f.k,.int .i64 f.fr,.int .i64 f.to_,.int .u64 f.mi,.int .u64 f.yo,.int .u64 f.a,.int .u64 f.b,.int .i64 f.ino,.int .u64 f.isq,.int .i64 f.iof,.int .i64 f.bno,.int .u64 f.bsq,.int .i64 f.bof,.int .i64 f.bde,.int .i64 f.bpr,.int .i64 f.bbo,.int .i64 f.bli,.int .i64 f.bto,.string f.da]] w fun e w' => e = .returned (.tuple #[.int .u64 lo,.int .u64 hi]) ∧ Below w.heap.size w w')
    (n1 : ¬ f.fr < 1)
    (n2 : ¬ 16 < f.fr)
    (n3 : ¬ f.to_ < 1)
    (n4 : ¬ 16 < f.to_)
    (n5 : ¬ f.to_ = f.fr)
    (n6 : ¬ f.mi < 1)
    (n7 : ¬ 1099511627776 < f.mi)
    (n8 : ¬ 1099511627776 < f.yo)
    (n9 : ¬ 1125899906842624 < f.a)
    (n10 : ¬ f.b < lo)
    (hb : hi < f.b) : Calls Tryd.prog 17 #[frv f] w fun e w' => e = .returned (.int .i64 2) ∧ Below w.heap.size w w':=by
  have t1 : decide (f.fr < 1) = false:=decide_eq_false n1
  have t2 : decide (16 < f.fr) = false:=decide_eq_false n2
  have t3 : decide (f.to_ < 1) = false:=decide_eq_false n3
  have t4 : decide (16 < f.to_) = false:=decide_eq_false n4
  have t5 : (f.to_ == f.fr) = false:=by simp [n5]
  have t6 : decide (f.mi < 1) = false:=decide_eq_false n6
  have t7 : decide (1099511627776 < f.mi) = false:=decide_eq_false n7
  have t8 : decide (1099511627776 < f.yo) = false:=decide_eq_false n8
  have t9 : decide (1125899906842624 < f.a) = false:=decide_eq_false n9
  have t10 : decide (f.b < lo) = false:=decide_eq_false n10
  have t11 : decide (hi < f.b) = true:=decide_eq_true hb
  clear hb n1 n2 n3 n4 n5 n6 n7 n8 n9 n10
  replace gu:=Lib.hid gu;replace gl:=Lib.hid gl
  have hun : undef = Value.tuple #[]:=rfl
  go_enter Tryd.func17,Tryd.ntmps17
  go_upto_region 4 with (go_at_call 25;(with_reducible refine (gu.out _).mono ?_);rintro e w1 ⟨rfl,h1⟩;have k1 : blk w1 w.heap.size = some #[.int .i64 f.k,.int .i64 f.fr,.int .i64 f.to_,.int .u64 f.mi,.int .u64 f.yo,.int .u64 f.a,.int .u64 f.b,.int .i64 f.ino,.int .u64 f.isq,.int .i64 f.iof,.int .i64 f.bno,.int .u64 f.bsq,.int .i64 f.bof,.int .i64 f.bde,.int .i64 f.bpr,.int .i64 f.bbo,.int .i64 f.bli,.int .i64 f.bto,.string f.da]:=(by (apply jt;(focus repeat(first|(with_reducible first|assumption|apply jd|apply js)|((with_reducible apply jo);first|focus(dsimp only;assumption)|focus(simp;done)|focus(dsimp only;omega))|((with_reducible apply jn);first|with_reducible rfl|focus(simp;done)|focus(simp;omega))|(with_reducible apply ja)|((with_reducible apply jb);with_reducible assumption)));rfl));have n1:=kn k1)
  refine wp_region_in0 ?_
  intro W0 hE hN
  have bW0 : Below w.heap.size w W0:=(by rw [hE.out];(repeat(first|(with_reducible first|assumption|exact Below.refl _ _|refine je ?_|refine jl ?_)|((with_reducible refine jp ?_ ?_);first|focus(dsimp only;assumption)|focus(simp;done)|focus(dsimp only;omega))|(with_reducible refine bt ?_ (by assumption)))))
  have kf0 : blk W0 w.heap.size = some #[.int .i64 f.k,.int .i64 f.fr,.int .i64 f.to_,.int .u64 f.mi,.int .u64 f.yo,.int .u64 f.a,.int .u64 f.b,.int .i64 f.ino,.int .u64 f.isq,.int .i64 f.iof,.int .i64 f.bno,.int .u64 f.bsq,.int .i64 f.bof,.int .i64 f.bde,.int .i64 f.bpr,.int .i64 f.bbo,.int .i64 f.bli,.int .i64 f.bto,.string f.da]:=(by rw [hE.out];(apply jt;(focus repeat(first|(with_reducible first|assumption|apply jd|apply js)|((with_reducible apply jo);first|focus(dsimp only;assumption)|focus(simp;done)|focus(dsimp only;omega))|((with_reducible apply jn);first|with_reducible rfl|focus(simp;done)|focus(simp;omega))|(with_reducible apply ja)|((with_reducible apply jb);with_reducible assumption)));rfl))
  have ku0 : blk W0 w1.heap.size = some #[.bool true,.bool true,.bool ud,.bool ui]:=(by rw [hE.out];(apply jt;(focus repeat(first|(with_reducible first|assumption|apply jd|apply js)|((with_reducible apply jo);first|focus(dsimp only;assumption)|focus(simp;done)|focus(dsimp only;omega))|((with_reducible apply jn);first|with_reducible rfl|focus(simp;done)|focus(simp;omega))|(with_reducible apply ja)|((with_reducible apply jb);with_reducible assumption)));rfl))
  have nf:=calm_kn kf0;have nu:=calm_kn ku0
  clear hE
  refine wpQuiet_load_blk 29 (.tmp 1) w.heap.size #[.int .i64 f.k,.int .i64 f.fr,.int .i64 f.to_,.int .u64 f.mi,.int .u64 f.yo,.int .u64 f.a,.int .u64 f.b,.int .i64 f.ino,.int .u64 f.isq,.int .i64 f.iof,.int .i64 f.bno,.int .u64 f.bsq,.int .i64 f.bof,.int .i64 f.bde,.int .i64 f.bpr,.int .i64 f.bbo,.int .i64 f.bli,.int .i64 f.bto,.string f.da] (fun W hW => by obtain ⟨x,rfl⟩:=hW;exact blk_below x.ok kf0) _ rfl rfl rfl Tryd.underlying29 rfl (by kernel_rfl) ?_
  conv => arg 6;simp [Act.put]
  repeat (go_big_quiet_step ((go_at_call 40;(with_reducible refine Class.go _ (gl.out _)))))
  refine wpQuiet_nil ?_
  rintro _ ⟨x,rfl⟩
  have b4 : Below w.heap.size w x.wd:=bt bW0 x.ok
  have k4 : blk x.wd w.heap.size = some #[.int .i64 f.k,.int .i64 f.fr,.int .i64 f.to_,.int .u64 f.mi,.int .u64 f.yo,.int .u64 f.a,.int .u64 f.b,.int .i64 f.ino,.int .u64 f.isq,.int .i64 f.iof,.int .i64 f.bno,.int .u64 f.bsq,.int .i64 f.bof,.int .i64 f.bde,.int .i64 f.bpr,.int .i64 f.bbo,.int .i64 f.bli,.int .i64 f.bto,.string f.da]:=blk_below x.ok kf0
  have u4 : blk x.wd w1.heap.size = some #[.bool true,.bool true,.bool ud,.bool ui]:=blk_below x.ok ku0
  clear nf nu kf0 ku0 bW0 hN n1 k1 h1
  generalize x.wd = w4 at *
  have n4:=kn k4;have q4:=kn u4
  go_wp2
  go_ret
  exact ⟨rfl,b4⟩
end Go.Proofs.YtaiofjffoboicaaDoor
