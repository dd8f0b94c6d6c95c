/- Parts of a proof, printed by a program of mine out of my texts: FrRChkBad. -/
import Derived.Deep.Cut
import Derived.Test.YtaiofjffoboicaaGreatDoorCUsed
set_option linter.unusedSimpArgs false
set_option linter.unusedVariables false
namespace Go.Proofs.YtaiofjffoboicaaGreatDoor
open Go.RowKit
set_option maxRecDepth 100000 in
set_option maxHeartbeats 1600000 in
theorem rcheck_klo (f : Fr) (h : f.k < 1) (w : World) : Calls Tryz.prog 12 #[frv f] w fun e w' => e = .returned (.int .i64 7) ∧ Below w.heap.size w w':=by
  have kk1 : decide (f.k < 1) = true:=decide_eq_true h
  clear h
  have hun : undef = Value.tuple #[]:=rfl
  go_enter Tryz.func12,Tryz.ntmps12
  go_wp2
  go_ret
  exact ⟨rfl,by (repeat(first|(with_reducible first|assumption|exact Below.refl _ _|refine je ?_|refine jl ?_)|((with_reducible refine jp ?_ ?_);first|focus(dsimp only;assumption)|focus(simp;done)|focus(dsimp only;omega))|(with_reducible refine bt ?_ (by assumption))))⟩
set_option maxRecDepth 100000 in
set_option maxHeartbeats 1600000 in
theorem rcheck_khi (f : Fr) (h : 7 < f.k) (w : World) : Calls Tryz.prog 12 #[frv f] w fun e w' => e = .returned (.int .i64 7) ∧ Below w.heap.size w w':=by
  have kk1 : decide (f.k < 1) = false:=decide_eq_false (by omega)
  have kk7 : decide (7 < f.k) = true:=decide_eq_true h
  clear h
  have hun : undef = Value.tuple #[]:=rfl
  go_enter Tryz.func12,Tryz.ntmps12
  go_wp2
  go_ret
  exact ⟨rfl,by (repeat(first|(with_reducible first|assumption|exact Below.refl _ _|refine je ?_|refine jl ?_)|((with_reducible refine jp ?_ ?_);first|focus(dsimp only;assumption)|focus(simp;done)|focus(dsimp only;omega))|(with_reducible refine bt ?_ (by assumption))))⟩
set_option maxRecDepth 100000 in
set_option maxHeartbeats 3200000 in
theorem rcheck_b1 (f : Fr) (hk : 1 ≤ f.k ∧ f.k ≤ 7)  (hb : f.fr < 1) (w : World) : Calls Tryz.prog 12 #[frv f] w fun e w' => e = .returned (.int .i64 2) ∧ Below w.heap.size w w':=by
  have kk1 : decide (f.k < 1) = false:=decide_eq_false (by omega)
  have kk7 : decide (7 < f.k) = false:=decide_eq_false (by omega)
  have t1 : decide (f.fr < 1) = true:=decide_eq_true hb
  clear hb hk
  have hun : undef = Value.tuple #[]:=rfl
  go_enter Tryz.func12,Tryz.ntmps12
  go_upto_region 3 with fail
  refine wp_region_in0 ?_
  intro W0 hE hN
  have bW0 : Below w.heap.size w W0:=(by rw [hE.out];(repeat(first|(with_reducible first|assumption|exact Below.refl _ _|refine je ?_|refine jl ?_)|((with_reducible refine jp ?_ ?_);first|focus(dsimp only;assumption)|focus(simp;done)|focus(dsimp only;omega))|(with_reducible refine bt ?_ (by assumption)))))
  have kf0 : blk W0 w.heap.size = some #[.int .i64 f.k,.int .i64 f.fr,.int .i64 f.to_,.int .u64 f.mi,.int .u64 f.yo,.int .u64 f.a,.int .u64 f.b,.int .i64 f.ino,.int .u64 f.isq,.int .i64 f.iof,.int .i64 f.bno,.int .u64 f.bsq,.int .i64 f.bof,.int .i64 f.bde,.int .i64 f.bpr,.int .i64 f.bbo,.int .i64 f.bli,.int .i64 f.bto,.string f.da]:=(by rw [hE.out];(apply jt;(focus repeat(first|(with_reducible first|assumption|apply jd|apply js)|((with_reducible apply jo);first|focus(dsimp only;assumption)|focus(simp;done)|focus(dsimp only;omega))|((with_reducible apply jn);first|with_reducible rfl|focus(simp;done)|focus(simp;omega))|(with_reducible apply ja)|((with_reducible apply jb);with_reducible assumption)));rfl))
  have nf:=calm_kn kf0
  clear hE
  repeat (go_big_quiet_step (fail))
  refine wpQuiet_nil ?_
  rintro _ ⟨x,rfl⟩
  have bw4 : Below w.heap.size w x.wd:=bt bW0 x.ok
  have kw4 : blk x.wd w.heap.size = some #[.int .i64 f.k,.int .i64 f.fr,.int .i64 f.to_,.int .u64 f.mi,.int .u64 f.yo,.int .u64 f.a,.int .u64 f.b,.int .i64 f.ino,.int .u64 f.isq,.int .i64 f.iof,.int .i64 f.bno,.int .u64 f.bsq,.int .i64 f.bof,.int .i64 f.bde,.int .i64 f.bpr,.int .i64 f.bbo,.int .i64 f.bli,.int .i64 f.bto,.string f.da]:=blk_below x.ok kf0
  clear nf kf0 bW0 hN
  generalize x.wd = w4 at *
  have nw4:=kn kw4
  go_wp2
  go_ret
  exact ⟨rfl,bw4⟩
set_option maxRecDepth 100000 in
set_option maxHeartbeats 3200000 in
theorem rcheck_b2 (f : Fr) (hk : 1 ≤ f.k ∧ f.k ≤ 7) (n1 : ¬ f.fr < 1) (hb : 16 < f.fr) (w : World) : Calls Tryz.prog 12 #[frv f] w fun e w' => e = .returned (.int .i64 2) ∧ Below w.heap.size w w':=by
  have kk1 : decide (f.k < 1) = false:=decide_eq_false (by omega)
  have kk7 : decide (7 < f.k) = false:=decide_eq_false (by omega)
  have t1 : decide (f.fr < 1) = false:=decide_eq_false n1
  have t2 : decide (16 < f.fr) = true:=decide_eq_true hb
  clear hb hk n1
  have hun : undef = Value.tuple #[]:=rfl
  go_enter Tryz.func12,Tryz.ntmps12
  go_upto_region 3 with fail
  refine wp_region_in0 ?_
  intro W0 hE hN
  have bW0 : Below w.heap.size w W0:=(by rw [hE.out];(repeat(first|(with_reducible first|assumption|exact Below.refl _ _|refine je ?_|refine jl ?_)|((with_reducible refine jp ?_ ?_);first|focus(dsimp only;assumption)|focus(simp;done)|focus(dsimp only;omega))|(with_reducible refine bt ?_ (by assumption)))))
  have kf0 : blk W0 w.heap.size = some #[.int .i64 f.k,.int .i64 f.fr,.int .i64 f.to_,.int .u64 f.mi,.int .u64 f.yo,.int .u64 f.a,.int .u64 f.b,.int .i64 f.ino,.int .u64 f.isq,.int .i64 f.iof,.int .i64 f.bno,.int .u64 f.bsq,.int .i64 f.bof,.int .i64 f.bde,.int .i64 f.bpr,.int .i64 f.bbo,.int .i64 f.bli,.int .i64 f.bto,.string f.da]:=(by rw [hE.out];(apply jt;(focus repeat(first|(with_reducible first|assumption|apply jd|apply js)|((with_reducible apply jo);first|focus(dsimp only;assumption)|focus(simp;done)|focus(dsimp only;omega))|((with_reducible apply jn);first|with_reducible rfl|focus(simp;done)|focus(simp;omega))|(with_reducible apply ja)|((with_reducible apply jb);with_reducible assumption)));rfl))
  have nf:=calm_kn kf0
  clear hE
  repeat (go_big_quiet_step (fail))
  refine wpQuiet_nil ?_
  rintro _ ⟨x,rfl⟩
  have bw4 : Below w.heap.size w x.wd:=bt bW0 x.ok
  have kw4 : blk x.wd w.heap.size = some #[.int .i64 f.k,.int .i64 f.fr,.int .i64 f.to_,.int .u64 f.mi,.int .u64 f.yo,.int .u64 f.a,.int .u64 f.b,.int .i64 f.ino,.int .u64 f.isq,.int .i64 f.iof,.int .i64 f.bno,.int .u64 f.bsq,.int .i64 f.bof,.int .i64 f.bde,.int .i64 f.bpr,.int .i64 f.bbo,.int .i64 f.bli,.int .i64 f.bto,.string f.da]:=blk_below x.ok kf0
  clear nf kf0 bW0 hN
  generalize x.wd = w4 at *
  have nw4:=kn kw4
  go_wp2
  go_ret
  exact ⟨rfl,bw4⟩
set_option maxRecDepth 100000 in
set_option maxHeartbeats 3200000 in
theorem rcheck_b3 (f : Fr) (hk : 1 ≤ f.k ∧ f.k ≤ 7) (n1 : ¬ f.fr < 1) (n2 : ¬ 16 < f.fr) (hb : f.to_ < 1) (w : World) : Calls Tryz.prog 12 #[frv f] w fun e w' => e = .returned (.int .i64 2) ∧ Below w.heap.size w w':=by
  have kk1 : decide (f.k < 1) = false:=decide_eq_false (by omega)
  have kk7 : decide (7 < f.k) = false:=decide_eq_false (by omega)
  have t1 : decide (f.fr < 1) = false:=decide_eq_false n1
  have t2 : decide (16 < f.fr) = false:=decide_eq_false n2
  have t3 : decide (f.to_ < 1) = true:=decide_eq_true hb
  clear hb hk n1 n2
  have hun : undef = Value.tuple #[]:=rfl
  go_enter Tryz.func12,Tryz.ntmps12
  go_upto_region 3 with fail
  refine wp_region_in0 ?_
  intro W0 hE hN
  have bW0 : Below w.heap.size w W0:=(by rw [hE.out];(repeat(first|(with_reducible first|assumption|exact Below.refl _ _|refine je ?_|refine jl ?_)|((with_reducible refine jp ?_ ?_);first|focus(dsimp only;assumption)|focus(simp;done)|focus(dsimp only;omega))|(with_reducible refine bt ?_ (by assumption)))))
  have kf0 : blk W0 w.heap.size = some #[.int .i64 f.k,.int .i64 f.fr,.int .i64 f.to_,.int .u64 f.mi,.int .u64 f.yo,.int .u64 f.a,.int .u64 f.b,.int .i64 f.ino,.int .u64 f.isq,.int .i64 f.iof,.int .i64 f.bno,.int .u64 f.bsq,.int .i64 f.bof,.int .i64 f.bde,.int .i64 f.bpr,.int .i64 f.bbo,.int .i64 f.bli,.int .i64 f.bto,.string f.da]:=(by rw [hE.out];(apply jt;(focus repeat(first|(with_reducible first|assumption|apply jd|apply js)|((with_reducible apply jo);first|focus(dsimp only;assumption)|focus(simp;done)|focus(dsimp only;omega))|((with_reducible apply jn);first|with_reducible rfl|focus(simp;done)|focus(simp;omega))|(with_reducible apply ja)|((with_reducible apply jb);with_reducible assumption)));rfl))
  have nf:=calm_kn kf0
  clear hE
  repeat (go_big_quiet_step (fail))
  refine wpQuiet_nil ?_
  rintro _ ⟨x,rfl⟩
  have bw4 : Below w.heap.size w x.wd:=bt bW0 x.ok
  have kw4 : blk x.wd w.heap.size = some #[.int .i64 f.k,.int .i64 f.fr,.int .i64 f.to_,.int .u64 f.mi,.int .u64 f.yo,.int .u64 f.a,.int .u64 f.b,.int .i64 f.ino,.int .u64 f.isq,.int .i64 f.iof,.int .i64 f.bno,.int .u64 f.bsq,.int .i64 f.bof,.int .i64 f.bde,.int .i64 f.bpr,.int .i64 f.bbo,.int .i64 f.bli,.int .i64 f.bto,.string f.da]:=blk_below x.ok kf0
  clear nf kf0 bW0 hN
  generalize x.wd = w4 at *
  have nw4:=kn kw4
  go_wp2
  go_ret
  exact ⟨rfl,bw4⟩
set_option maxRecDepth 100000 in
set_option maxHeartbeats 3200000 in
theorem rcheck_b4 (f : Fr) (hk : 1 ≤ f.k ∧ f.k ≤ 7) (n1 : ¬ f.fr < 1) (n2 : ¬ 16 < f.fr) (n3 : ¬ f.to_ < 1) (hb : 16 < f.to_) (w : World) : Calls Tryz.prog 12 #[frv f] w fun e w' => e = .returned (.int .i64 2) ∧ Below w.heap.size w w':=by
  have kk1 : decide (f.k < 1) = false:=decide_eq_false (by omega)
  have kk7 : decide (7 < f.k) = false:=decide_eq_false (by omega)
  have t1 : decide (f.fr < 1) = false:=decide_eq_false n1
  have t2 : decide (16 < f.fr) = false:=decide_eq_false n2
  have t3 : decide (f.to_ < 1) = false:=decide_eq_false n3
  have t4 : decide (16 < f.to_) = true:=decide_eq_true hb
  clear hb hk n1 n2 n3
  have hun : undef = Value.tuple #[]:=rfl
  go_enter Tryz.func12,Tryz.ntmps12
  go_upto_region 3 with fail
  refine wp_region_in0 ?_
  intro W0 hE hN
  have bW0 : Below w.heap.size w W0:=(by rw [hE.out];(repeat(first|(with_reducible first|assumption|exact Below.refl _ _|refine je ?_|refine jl ?_)|((with_reducible refine jp ?_ ?_);first|focus(dsimp only;assumption)|focus(simp;done)|focus(dsimp only;omega))|(with_reducible refine bt ?_ (by assumption)))))
  have kf0 : blk W0 w.heap.size = some #[.int .i64 f.k,.int .i64 f.fr,.int .i64 f.to_,.int .u64 f.mi,.int .u64 f.yo,.int .u64 f.a,.int .u64 f.b,.int .i64 f.ino,.int .u64 f.isq,.int .i64 f.iof,.int .i64 f.bno,.int .u64 f.bsq,.int .i64 f.bof,.int .i64 f.bde,.int .i64 f.bpr,.int .i64 f.bbo,.int .i64 f.bli,.int .i64 f.bto,.string f.da]:=(by rw [hE.out];(apply jt;(focus repeat(first|(with_reducible first|assumption|apply jd|apply js)|((with_reducible apply jo);first|focus(dsimp only;assumption)|focus(simp;done)|focus(dsimp only;omega))|((with_reducible apply jn);first|with_reducible rfl|focus(simp;done)|focus(simp;omega))|(with_reducible apply ja)|((with_reducible apply jb);with_reducible assumption)));rfl))
  have nf:=calm_kn kf0
  clear hE
  repeat (go_big_quiet_step (fail))
  refine wpQuiet_nil ?_
  rintro _ ⟨x,rfl⟩
  have bw4 : Below w.heap.size w x.wd:=bt bW0 x.ok
  have kw4 : blk x.wd w.heap.size = some #[.int .i64 f.k,.int .i64 f.fr,.int .i64 f.to_,.int .u64 f.mi,.int .u64 f.yo,.int .u64 f.a,.int .u64 f.b,.int .i64 f.ino,.int .u64 f.isq,.int .i64 f.iof,.int .i64 f.bno,.int .u64 f.bsq,.int .i64 f.bof,.int .i64 f.bde,.int .i64 f.bpr,.int .i64 f.bbo,.int .i64 f.bli,.int .i64 f.bto,.string f.da]:=blk_below x.ok kf0
  clear nf kf0 bW0 hN
  generalize x.wd = w4 at *
  have nw4:=kn kw4
  go_wp2
  go_ret
  exact ⟨rfl,bw4⟩
set_option maxRecDepth 100000 in
set_option maxHeartbeats 3200000 in
theorem rcheck_b5 (f : Fr) (hk : 1 ≤ f.k ∧ f.k ≤ 7) (n1 : ¬ f.fr < 1) (n2 : ¬ 16 < f.fr) (n3 : ¬ f.to_ < 1) (n4 : ¬ 16 < f.to_) (hb : f.fr = f.to_) (w : World) : Calls Tryz.prog 12 #[frv f] w fun e w' => e = .returned (.int .i64 2) ∧ Below w.heap.size w w':=by
  have kk1 : decide (f.k < 1) = false:=decide_eq_false (by omega)
  have kk7 : decide (7 < f.k) = false:=decide_eq_false (by omega)
  have t1 : decide (f.fr < 1) = false:=decide_eq_false n1
  have t2 : decide (16 < f.fr) = false:=decide_eq_false n2
  have t3 : decide (f.to_ < 1) = false:=decide_eq_false n3
  have t4 : decide (16 < f.to_) = false:=decide_eq_false n4
  have t5 : (f.fr == f.to_) = true:=by simp [hb]
  clear hb hk n1 n2 n3 n4
  have hun : undef = Value.tuple #[]:=rfl
  go_enter Tryz.func12,Tryz.ntmps12
  go_upto_region 3 with fail
  refine wp_region_in0 ?_
  intro W0 hE hN
  have bW0 : Below w.heap.size w W0:=(by rw [hE.out];(repeat(first|(with_reducible first|assumption|exact Below.refl _ _|refine je ?_|refine jl ?_)|((with_reducible refine jp ?_ ?_);first|focus(dsimp only;assumption)|focus(simp;done)|focus(dsimp only;omega))|(with_reducible refine bt ?_ (by assumption)))))
  have kf0 : blk W0 w.heap.size = some #[.int .i64 f.k,.int .i64 f.fr,.int .i64 f.to_,.int .u64 f.mi,.int .u64 f.yo,.int .u64 f.a,.int .u64 f.b,.int .i64 f.ino,.int .u64 f.isq,.int .i64 f.iof,.int .i64 f.bno,.int .u64 f.bsq,.int .i64 f.bof,.int .i64 f.bde,.int .i64 f.bpr,.int .i64 f.bbo,.int .i64 f.bli,.int .i64 f.bto,.string f.da]:=(by rw [hE.out];(apply jt;(focus repeat(first|(with_reducible first|assumption|apply jd|apply js)|((with_reducible apply jo);first|focus(dsimp only;assumption)|focus(simp;done)|focus(dsimp only;omega))|((with_reducible apply jn);first|with_reducible rfl|focus(simp;done)|focus(simp;omega))|(with_reducible apply ja)|((with_reducible apply jb);with_reducible assumption)));rfl))
  have nf:=calm_kn kf0
  clear hE
  repeat (go_big_quiet_step (fail))
  refine wpQuiet_nil ?_
  rintro _ ⟨x,rfl⟩
  have bw4 : Below w.heap.size w x.wd:=bt bW0 x.ok
  have kw4 : blk x.wd w.heap.size = some #[.int .i64 f.k,.int .i64 f.fr,.int .i64 f.to_,.int .u64 f.mi,.int .u64 f.yo,.int .u64 f.a,.int .u64 f.b,.int .i64 f.ino,.int .u64 f.isq,.int .i64 f.iof,.int .i64 f.bno,.int .u64 f.bsq,.int .i64 f.bof,.int .i64 f.bde,.int .i64 f.bpr,.int .i64 f.bbo,.int .i64 f.bli,.int .i64 f.bto,.string f.da]:=blk_below x.ok kf0
  clear nf kf0 bW0 hN
  generalize x.wd = w4 at *
  have nw4:=kn kw4
  go_wp2
  go_ret
  exact ⟨rfl,bw4⟩
set_option maxRecDepth 100000 in
set_option maxHeartbeats 3200000 in
theorem rcheck_b6 (f : Fr) (hk : 1 ≤ f.k ∧ f.k ≤ 7) (n1 : ¬ f.fr < 1) (n2 : ¬ 16 < f.fr) (n3 : ¬ f.to_ < 1) (n4 : ¬ 16 < f.to_) (n5 : ¬ f.fr = f.to_) (hb : f.mi < 1) (w : World) : Calls Tryz.prog 12 #[frv f] w fun e w' => e = .returned (.int .i64 2) ∧ Below w.heap.size w w':=by
  have kk1 : decide (f.k < 1) = false:=decide_eq_false (by omega)
  have kk7 : decide (7 < f.k) = false:=decide_eq_false (by omega)
  have t1 : decide (f.fr < 1) = false:=decide_eq_false n1
  have t2 : decide (16 < f.fr) = false:=decide_eq_false n2
  have t3 : decide (f.to_ < 1) = false:=decide_eq_false n3
  have t4 : decide (16 < f.to_) = false:=decide_eq_false n4
  have t5 : (f.fr == f.to_) = false:=by simp [n5]
  have t6 : decide (f.mi < 1) = true:=decide_eq_true hb
  clear hb hk n1 n2 n3 n4 n5
  have hun : undef = Value.tuple #[]:=rfl
  go_enter Tryz.func12,Tryz.ntmps12
  go_upto_region 3 with fail
  refine wp_region_in0 ?_
  intro W0 hE hN
  have bW0 : Below w.heap.size w W0:=(by rw [hE.out];(repeat(first|(with_reducible first|assumption|exact Below.refl _ _|refine je ?_|refine jl ?_)|((with_reducible refine jp ?_ ?_);first|focus(dsimp only;assumption)|focus(simp;done)|focus(dsimp only;omega))|(with_reducible refine bt ?_ (by assumption)))))
  have kf0 : blk W0 w.heap.size = some #[.int .i64 f.k,.int .i64 f.fr,.int .i64 f.to_,.int .u64 f.mi,.int .u64 f.yo,.int .u64 f.a,.int .u64 f.b,.int .i64 f.ino,.int .u64 f.isq,.int .i64 f.iof,.int .i64 f.bno,.int .u64 f.bsq,.int .i64 f.bof,.int .i64 f.bde,.int .i64 f.bpr,.int .i64 f.bbo,.int .i64 f.bli,.int .i64 f.bto,.string f.da]:=(by rw [hE.out];(apply jt;(focus repeat(first|(with_reducible first|assumption|apply jd|apply js)|((with_reducible apply jo);first|focus(dsimp only;assumption)|focus(simp;done)|focus(dsimp only;omega))|((with_reducible apply jn);first|with_reducible rfl|focus(simp;done)|focus(simp;omega))|(with_reducible apply ja)|((with_reducible apply jb);with_reducible assumption)));rfl))
  have nf:=calm_kn kf0
  clear hE
  repeat (go_big_quiet_step (fail))
  refine wpQuiet_nil ?_
  rintro _ ⟨x,rfl⟩
  have bw4 : Below w.heap.size w x.wd:=bt bW0 x.ok
  have kw4 : blk x.wd w.heap.size = some #[.int .i64 f.k,.int .i64 f.fr,.int .i64 f.to_,.int .u64 f.mi,.int .u64 f.yo,.int .u64 f.a,.int .u64 f.b,.int .i64 f.ino,.int .u64 f.isq,.int .i64 f.iof,.int .i64 f.bno,.int .u64 f.bsq,.int .i64 f.bof,.int .i64 f.bde,.int .i64 f.bpr,.int .i64 f.bbo,.int .i64 f.bli,.int .i64 f.bto,.string f.da]:=blk_below x.ok kf0
  clear nf kf0 bW0 hN
  generalize x.wd = w4 at *
  have nw4:=kn kw4
  go_wp2
  go_ret
  exact ⟨rfl,bw4⟩
set_option maxRecDepth 100000 in
set_option maxHeartbeats 3200000 in
theorem rcheck_b7 (f : Fr) (hk : 1 ≤ f.k ∧ f.k ≤ 7) (n1 : ¬ f.fr < 1) (n2 : ¬ 16 < f.fr) (n3 : ¬ f.to_ < 1) (n4 : ¬ 16 < f.to_) (n5 : ¬ f.fr = f.to_) (n6 : ¬ f.mi < 1) (hb : 1099511627776 < f.mi) (w : World) : Calls Tryz.prog 12 #[frv f] w fun e w' => e = .returned (.int .i64 2) ∧ Below w.heap.size w w':=by
  have kk1 : decide (f.k < 1) = false:=decide_eq_false (by omega)
  have kk7 : decide (7 < f.k) = false:=decide_eq_false (by omega)
  have t1 : decide (f.fr < 1) = false:=decide_eq_false n1
  have t2 : decide (16 < f.fr) = false:=decide_eq_false n2
  have t3 : decide (f.to_ < 1) = false:=decide_eq_false n3
  have t4 : decide (16 < f.to_) = false:=decide_eq_false n4
  have t5 : (f.fr == f.to_) = false:=by simp [n5]
  have t6 : decide (f.mi < 1) = false:=decide_eq_false n6
  have t7 : decide (1099511627776 < f.mi) = true:=decide_eq_true hb
  clear hb hk n1 n2 n3 n4 n5 n6
  have hun : undef = Value.tuple #[]:=rfl
  go_enter Tryz.func12,Tryz.ntmps12
  go_upto_region 3 with fail
  refine wp_region_in0 ?_
  intro W0 hE hN
  have bW0 : Below w.heap.size w W0:=(by rw [hE.out];(repeat(first|(with_reducible first|assumption|exact Below.refl _ _|refine je ?_|refine jl ?_)|((with_reducible refine jp ?_ ?_);first|focus(dsimp only;assumption)|focus(simp;done)|focus(dsimp only;omega))|(with_reducible refine bt ?_ (by assumption)))))
  have kf0 : blk W0 w.heap.size = some #[.int .i64 f.k,.int .i64 f.fr,.int .i64 f.to_,.int .u64 f.mi,.int .u64 f.yo,.int .u64 f.a,.int .u64 f.b,.int .i64 f.ino,.int .u64 f.isq,.int .i64 f.iof,.int .i64 f.bno,.int .u64 f.bsq,.int .i64 f.bof,.int .i64 f.bde,.int .i64 f.bpr,.int .i64 f.bbo,.int .i64 f.bli,.int .i64 f.bto,.string f.da]:=(by rw [hE.out];(apply jt;(focus repeat(first|(with_reducible first|assumption|apply jd|apply js)|((with_reducible apply jo);first|focus(dsimp only;assumption)|focus(simp;done)|focus(dsimp only;omega))|((with_reducible apply jn);first|with_reducible rfl|focus(simp;done)|focus(simp;omega))|(with_reducible apply ja)|((with_reducible apply jb);with_reducible assumption)));rfl))
  have nf:=calm_kn kf0
  clear hE
  repeat (go_big_quiet_step (fail))
  refine wpQuiet_nil ?_
  rintro _ ⟨x,rfl⟩
  have bw4 : Below w.heap.size w x.wd:=bt bW0 x.ok
  have kw4 : blk x.wd w.heap.size = some #[.int .i64 f.k,.int .i64 f.fr,.int .i64 f.to_,.int .u64 f.mi,.int .u64 f.yo,.int .u64 f.a,.int .u64 f.b,.int .i64 f.ino,.int .u64 f.isq,.int .i64 f.iof,.int .i64 f.bno,.int .u64 f.bsq,.int .i64 f.bof,.int .i64 f.bde,.int .i64 f.bpr,.int .i64 f.bbo,.int .i64 f.bli,.int .i64 f.bto,.string f.da]:=blk_below x.ok kf0
  clear nf kf0 bW0 hN
  generalize x.wd = w4 at *
  have nw4:=kn kw4
  go_wp2
  go_ret
  exact ⟨rfl,bw4⟩
set_option maxRecDepth 100000 in
set_option maxHeartbeats 3200000 in
theorem rcheck_b8 (f : Fr) (hk : 1 ≤ f.k ∧ f.k ≤ 7) (n1 : ¬ f.fr < 1) (n2 : ¬ 16 < f.fr) (n3 : ¬ f.to_ < 1) (n4 : ¬ 16 < f.to_) (n5 : ¬ f.fr = f.to_) (n6 : ¬ f.mi < 1) (n7 : ¬ 1099511627776 < f.mi) (hb : 1099511627776 < f.yo) (w : World) : Calls Tryz.prog 12 #[frv f] w fun e w' => e = .returned (.int .i64 2) ∧ Below w.heap.size w w':=by
  have kk1 : decide (f.k < 1) = false:=decide_eq_false (by omega)
  have kk7 : decide (7 < f.k) = false:=decide_eq_false (by omega)
  have t1 : decide (f.fr < 1) = false:=decide_eq_false n1
  have t2 : decide (16 < f.fr) = false:=decide_eq_false n2
  have t3 : decide (f.to_ < 1) = false:=decide_eq_false n3
  have t4 : decide (16 < f.to_) = false:=decide_eq_false n4
  have t5 : (f.fr == f.to_) = false:=by simp [n5]
  have t6 : decide (f.mi < 1) = false:=decide_eq_false n6
  have t7 : decide (1099511627776 < f.mi) = false:=decide_eq_false n7
  have t8 : decide (1099511627776 < f.yo) = true:=decide_eq_true hb
  clear hb hk n1 n2 n3 n4 n5 n6 n7
  have hun : undef = Value.tuple #[]:=rfl
  go_enter Tryz.func12,Tryz.ntmps12
  go_upto_region 3 with fail
  refine wp_region_in0 ?_
  intro W0 hE hN
  have bW0 : Below w.heap.size w W0:=(by rw [hE.out];(repeat(first|(with_reducible first|assumption|exact Below.refl _ _|refine je ?_|refine jl ?_)|((with_reducible refine jp ?_ ?_);first|focus(dsimp only;assumption)|focus(simp;done)|focus(dsimp only;omega))|(with_reducible refine bt ?_ (by assumption)))))
  have kf0 : blk W0 w.heap.size = some #[.int .i64 f.k,.int .i64 f.fr,.int .i64 f.to_,.int .u64 f.mi,.int .u64 f.yo,.int .u64 f.a,.int .u64 f.b,.int .i64 f.ino,.int .u64 f.isq,.int .i64 f.iof,.int .i64 f.bno,.int .u64 f.bsq,.int .i64 f.bof,.int .i64 f.bde,.int .i64 f.bpr,.int .i64 f.bbo,.int .i64 f.bli,.int .i64 f.bto,.string f.da]:=(by rw [hE.out];(apply jt;(focus repeat(first|(with_reducible first|assumption|apply jd|apply js)|((with_reducible apply jo);first|focus(dsimp only;assumption)|focus(simp;done)|focus(dsimp only;omega))|((with_reducible apply jn);first|with_reducible rfl|focus(simp;done)|focus(simp;omega))|(with_reducible apply ja)|((with_reducible apply jb);with_reducible assumption)));rfl))
  have nf:=calm_kn kf0
  clear hE
  repeat (go_big_quiet_step (fail))
  refine wpQuiet_nil ?_
  rintro _ ⟨x,rfl⟩
  have bw4 : Below w.heap.size w x.wd:=bt bW0 x.ok
  have kw4 : blk x.wd w.heap.size = some #[.int .i64 f.k,.int .i64 f.fr,.int .i64 f.to_,.int .u64 f.mi,.int .u64 f.yo,.int .u64 f.a,.int .u64 f.b,.int .i64 f.ino,.int .u64 f.isq,.int .i64 f.iof,.int .i64 f.bno,.int .u64 f.bsq,.int .i64 f.bof,.int .i64 f.bde,.int .i64 f.bpr,.int .i64 f.bbo,.int .i64 f.bli,.int .i64 f.bto,.string f.da]:=blk_below x.ok kf0
  clear nf kf0 bW0 hN
  generalize x.wd = w4 at *
  have nw4:=kn kw4
  go_wp2
  go_ret
  exact ⟨rfl,bw4⟩
set_option maxRecDepth 100000 in
set_option maxHeartbeats 3200000 in
theorem rcheck_a (f : Fr) (hk : 1 ≤ f.k ∧ f.k ≤ 7) (n1 : ¬ f.fr < 1) (n2 : ¬ 16 < f.fr) (n3 : ¬ f.to_ < 1) (n4 : ¬ 16 < f.to_) (n5 : ¬ f.fr = f.to_) (n6 : ¬ f.mi < 1) (n7 : ¬ 1099511627776 < f.mi) (n8 : ¬ 1099511627776 < f.yo) (ha : f.k ≠ 1) (hb : 1125899906842624 < f.a) (w : World) : Calls Tryz.prog 12 #[frv f] w fun e w' => e = .returned (.int .i64 2) ∧ Below w.heap.size w w':=by
  have kk1 : decide (f.k < 1) = false:=decide_eq_false (by omega)
  have kk7 : decide (7 < f.k) = false:=decide_eq_false (by omega)
  have t1 : decide (f.fr < 1) = false:=decide_eq_false n1
  have t2 : decide (16 < f.fr) = false:=decide_eq_false n2
  have t3 : decide (f.to_ < 1) = false:=decide_eq_false n3
  have t4 : decide (16 < f.to_) = false:=decide_eq_false n4
  have t5 : (f.fr == f.to_) = false:=by simp [n5]
  have t6 : decide (f.mi < 1) = false:=decide_eq_false n6
  have t7 : decide (1099511627776 < f.mi) = false:=decide_eq_false n7
  have t8 : decide (1099511627776 < f.yo) = false:=decide_eq_false n8
  clear n1 n2 n3 n4 n5 n6 n7 n8
  have hun : undef = Value.tuple #[]:=rfl
  have a1 : (f.k != 1) = true:=by simp [ha]
  have a2 : decide (1125899906842624 < f.a) = true:=decide_eq_true hb
  clear ha hb hk
  go_enter Tryz.func12,Tryz.ntmps12
  go_upto_region 3 with fail
  refine wp_region_in0 ?_
  intro W0 hE hN
  have bW0 : Below w.heap.size w W0:=(by rw [hE.out];(repeat(first|(with_reducible first|assumption|exact Below.refl _ _|refine je ?_|refine jl ?_)|((with_reducible refine jp ?_ ?_);first|focus(dsimp only;assumption)|focus(simp;done)|focus(dsimp only;omega))|(with_reducible refine bt ?_ (by assumption)))))
  have kf0 : blk W0 w.heap.size = some #[.int .i64 f.k,.int .i64 f.fr,.int .i64 f.to_,.int .u64 f.mi,.int .u64 f.yo,.int .u64 f.a,.int .u64 f.b,.int .i64 f.ino,.int .u64 f.isq,.int .i64 f.iof,.int .i64 f.bno,.int .u64 f.bsq,.int .i64 f.bof,.int .i64 f.bde,.int .i64 f.bpr,.int .i64 f.bbo,.int .i64 f.bli,.int .i64 f.bto,.string f.da]:=(by rw [hE.out];(apply jt;(focus repeat(first|(with_reducible first|assumption|apply jd|apply js)|((with_reducible apply jo);first|focus(dsimp only;assumption)|focus(simp;done)|focus(dsimp only;omega))|((with_reducible apply jn);first|with_reducible rfl|focus(simp;done)|focus(simp;omega))|(with_reducible apply ja)|((with_reducible apply jb);with_reducible assumption)));rfl))
  have nf:=calm_kn kf0
  clear hE
  repeat (go_big_quiet_step (fail))
  refine wpQuiet_nil ?_
  rintro _ ⟨x,rfl⟩
  have bw4 : Below w.heap.size w x.wd:=bt bW0 x.ok
  have kw4 : blk x.wd w.heap.size = some #[.int .i64 f.k,.int .i64 f.fr,.int .i64 f.to_,.int .u64 f.mi,.int .u64 f.yo,.int .u64 f.a,.int .u64 f.b,.int .i64 f.ino,.int .u64 f.isq,.int .i64 f.iof,.int .i64 f.bno,.int .u64 f.bsq,.int .i64 f.bof,.int .i64 f.bde,.int .i64 f.bpr,.int .i64 f.bbo,.int .i64 f.bli,.int .i64 f.bto,.string f.da]:=blk_below x.ok kf0
  clear nf kf0 bW0 hN
  generalize x.wd = w4 at *
  have nw4:=kn kw4
  go_upto_region 5 with fail
  refine wp_region_tail0 9 ?_
  intro W0 hE hN
  have bW0 : Below w.heap.size w W0:=(by rw [hE.out];(repeat(first|(with_reducible first|assumption|exact Below.refl _ _|refine je ?_|refine jl ?_)|((with_reducible refine jp ?_ ?_);first|focus(dsimp only;assumption)|focus(simp;done)|focus(dsimp only;omega))|(with_reducible refine bt ?_ (by assumption)))))
  have kf0 : blk W0 w.heap.size = some #[.int .i64 f.k,.int .i64 f.fr,.int .i64 f.to_,.int .u64 f.mi,.int .u64 f.yo,.int .u64 f.a,.int .u64 f.b,.int .i64 f.ino,.int .u64 f.isq,.int .i64 f.iof,.int .i64 f.bno,.int .u64 f.bsq,.int .i64 f.bof,.int .i64 f.bde,.int .i64 f.bpr,.int .i64 f.bbo,.int .i64 f.bli,.int .i64 f.bto,.string f.da]:=(by rw [hE.out];(apply jt;(focus repeat(first|(with_reducible first|assumption|apply jd|apply js)|((with_reducible apply jo);first|focus(dsimp only;assumption)|focus(simp;done)|focus(dsimp only;omega))|((with_reducible apply jn);first|with_reducible rfl|focus(simp;done)|focus(simp;omega))|(with_reducible apply ja)|((with_reducible apply jb);with_reducible assumption)));rfl))
  have nf:=calm_kn kf0
  clear hE
  simp only [List.take_succ_cons,List.take_zero,List.drop_succ_cons,List.drop_zero]
  repeat (go_big_quiet_step (fail))
  refine wpQuiet_nil ?_
  rintro _ ⟨x,rfl⟩
  have bw6 : Below w.heap.size w x.wd:=bt bW0 x.ok
  have kw6 : blk x.wd w.heap.size = some #[.int .i64 f.k,.int .i64 f.fr,.int .i64 f.to_,.int .u64 f.mi,.int .u64 f.yo,.int .u64 f.a,.int .u64 f.b,.int .i64 f.ino,.int .u64 f.isq,.int .i64 f.iof,.int .i64 f.bno,.int .u64 f.bsq,.int .i64 f.bof,.int .i64 f.bde,.int .i64 f.bpr,.int .i64 f.bbo,.int .i64 f.bli,.int .i64 f.bto,.string f.da]:=blk_below x.ok kf0
  clear nf kf0 bW0 hN
  generalize x.wd = w6 at *
  have nw6:=kn kw6
  go_wp2
  go_ret
  exact ⟨rfl,by (repeat(first|(with_reducible first|assumption|exact Below.refl _ _|refine je ?_|refine jl ?_)|((with_reducible refine jp ?_ ?_);first|focus(dsimp only;assumption)|focus(simp;done)|focus(dsimp only;omega))|(with_reducible refine bt ?_ (by assumption))))⟩
set_option maxRecDepth 100000 in
set_option maxHeartbeats 3200000 in
theorem rcheck_b (f : Fr) (hk : 1 ≤ f.k ∧ f.k ≤ 7) (n1 : ¬ f.fr < 1) (n2 : ¬ 16 < f.fr) (n3 : ¬ f.to_ < 1) (n4 : ¬ 16 < f.to_) (n5 : ¬ f.fr = f.to_) (n6 : ¬ f.mi < 1) (n7 : ¬ 1099511627776 < f.mi) (n8 : ¬ 1099511627776 < f.yo) (ha : ¬ (f.k ≠ 1 ∧ 1125899906842624 < f.a)) (hb : wrgB f = true) (w : World) : Calls Tryz.prog 12 #[frv f] w fun e w' => e = .returned (.int .i64 2) ∧ Below w.heap.size w w':=by
  have kk1 : decide (f.k < 1) = false:=decide_eq_false (by omega)
  have kk7 : decide (7 < f.k) = false:=decide_eq_false (by omega)
  have t1 : decide (f.fr < 1) = false:=decide_eq_false n1
  have t2 : decide (16 < f.fr) = false:=decide_eq_false n2
  have t3 : decide (f.to_ < 1) = false:=decide_eq_false n3
  have t4 : decide (16 < f.to_) = false:=decide_eq_false n4
  have t5 : (f.fr == f.to_) = false:=by simp [n5]
  have t6 : decide (f.mi < 1) = false:=decide_eq_false n6
  have t7 : decide (1099511627776 < f.mi) = false:=decide_eq_false n7
  have t8 : decide (1099511627776 < f.yo) = false:=decide_eq_false n8
  clear n1 n2 n3 n4 n5 n6 n7 n8
  have hun : undef = Value.tuple #[]:=rfl
  have gw : ∀ w,Calls Tryz.prog 32 #[.agg #[.int .i64 f.k,.int .i64 f.fr,.int .i64 f.to_,.int .u64 f.mi,.int .u64 f.yo,.int .u64 f.a,.int .u64 f.b,.int .i64 f.ino,.int .u64 f.isq,.int .i64 f.iof,.int .i64 f.bno,.int .u64 f.bsq,.int .i64 f.bof,.int .i64 f.bde,.int .i64 f.bpr,.int .i64 f.bbo,.int .i64 f.bli,.int .i64 f.bto,.string f.da]] w fun e w' => e = .returned (.bool true) ∧ Below w.heap.size w w':=fun w => by have:=refWrongB_any f w;rwa [hb] at this
  replace gw:=Lib.hid gw
  clear hb hk
  by_cases h1 : f.k = 1
  · have a1 : (f.k != 1) = false:=by simp [h1]
    clear ha h1
    go_enter Tryz.func12,Tryz.ntmps12
    go_upto_region 3 with fail
    refine wp_region_in0 ?_
    intro W0 hE hN
    have bW0 : Below w.heap.size w W0:=(by rw [hE.out];(repeat(first|(with_reducible first|assumption|exact Below.refl _ _|refine je ?_|refine jl ?_)|((with_reducible refine jp ?_ ?_);first|focus(dsimp only;assumption)|focus(simp;done)|focus(dsimp only;omega))|(with_reducible refine bt ?_ (by assumption)))))
    have kf0 : blk W0 w.heap.size = some #[.int .i64 f.k,.int .i64 f.fr,.int .i64 f.to_,.int .u64 f.mi,.int .u64 f.yo,.int .u64 f.a,.int .u64 f.b,.int .i64 f.ino,.int .u64 f.isq,.int .i64 f.iof,.int .i64 f.bno,.int .u64 f.bsq,.int .i64 f.bof,.int .i64 f.bde,.int .i64 f.bpr,.int .i64 f.bbo,.int .i64 f.bli,.int .i64 f.bto,.string f.da]:=(by rw [hE.out];(apply jt;(focus repeat(first|(with_reducible first|assumption|apply jd|apply js)|((with_reducible apply jo);first|focus(dsimp only;assumption)|focus(simp;done)|focus(dsimp only;omega))|((with_reducible apply jn);first|with_reducible rfl|focus(simp;done)|focus(simp;omega))|(with_reducible apply ja)|((with_reducible apply jb);with_reducible assumption)));rfl))
    have nf:=calm_kn kf0
    clear hE
    repeat (go_big_quiet_step (fail))
    refine wpQuiet_nil ?_
    rintro _ ⟨x,rfl⟩
    have bw4 : Below w.heap.size w x.wd:=bt bW0 x.ok
    have kw4 : blk x.wd w.heap.size = some #[.int .i64 f.k,.int .i64 f.fr,.int .i64 f.to_,.int .u64 f.mi,.int .u64 f.yo,.int .u64 f.a,.int .u64 f.b,.int .i64 f.ino,.int .u64 f.isq,.int .i64 f.iof,.int .i64 f.bno,.int .u64 f.bsq,.int .i64 f.bof,.int .i64 f.bde,.int .i64 f.bpr,.int .i64 f.bbo,.int .i64 f.bli,.int .i64 f.bto,.string f.da]:=blk_below x.ok kf0
    clear nf kf0 bW0 hN
    generalize x.wd = w4 at *
    have nw4:=kn kw4
    go_upto_region 5 with fail
    refine wp_region_tail0 9 ?_
    intro W0 hE hN
    have bW0 : Below w.heap.size w W0:=(by rw [hE.out];(repeat(first|(with_reducible first|assumption|exact Below.refl _ _|refine je ?_|refine jl ?_)|((with_reducible refine jp ?_ ?_);first|focus(dsimp only;assumption)|focus(simp;done)|focus(dsimp only;omega))|(with_reducible refine bt ?_ (by assumption)))))
    have kf0 : blk W0 w.heap.size = some #[.int .i64 f.k,.int .i64 f.fr,.int .i64 f.to_,.int .u64 f.mi,.int .u64 f.yo,.int .u64 f.a,.int .u64 f.b,.int .i64 f.ino,.int .u64 f.isq,.int .i64 f.iof,.int .i64 f.bno,.int .u64 f.bsq,.int .i64 f.bof,.int .i64 f.bde,.int .i64 f.bpr,.int .i64 f.bbo,.int .i64 f.bli,.int .i64 f.bto,.string f.da]:=(by rw [hE.out];(apply jt;(focus repeat(first|(with_reducible first|assumption|apply jd|apply js)|((with_reducible apply jo);first|focus(dsimp only;assumption)|focus(simp;done)|focus(dsimp only;omega))|((with_reducible apply jn);first|with_reducible rfl|focus(simp;done)|focus(simp;omega))|(with_reducible apply ja)|((with_reducible apply jb);with_reducible assumption)));rfl))
    have nf:=calm_kn kf0
    clear hE
    simp only [List.take_succ_cons,List.take_zero,List.drop_succ_cons,List.drop_zero]
    repeat (go_big_quiet_step (fail))
    refine wpQuiet_nil ?_
    rintro _ ⟨x,rfl⟩
    have bw6 : Below w.heap.size w x.wd:=bt bW0 x.ok
    have kw6 : blk x.wd w.heap.size = some #[.int .i64 f.k,.int .i64 f.fr,.int .i64 f.to_,.int .u64 f.mi,.int .u64 f.yo,.int .u64 f.a,.int .u64 f.b,.int .i64 f.ino,.int .u64 f.isq,.int .i64 f.iof,.int .i64 f.bno,.int .u64 f.bsq,.int .i64 f.bof,.int .i64 f.bde,.int .i64 f.bpr,.int .i64 f.bbo,.int .i64 f.bli,.int .i64 f.bto,.string f.da]:=blk_below x.ok kf0
    clear nf kf0 bW0 hN
    generalize x.wd = w6 at *
    have nw6:=kn kw6
    refine wpList_load_blkG 28 (.tmp 1) w.heap.size #[.int .i64 f.k,.int .i64 f.fr,.int .i64 f.to_,.int .u64 f.mi,.int .u64 f.yo,.int .u64 f.a,.int .u64 f.b,.int .i64 f.ino,.int .u64 f.isq,.int .i64 f.iof,.int .i64 f.bno,.int .u64 f.bsq,.int .i64 f.bof,.int .i64 f.bde,.int .i64 f.bpr,.int .i64 f.bbo,.int .i64 f.bli,.int .i64 f.bto,.string f.da] kw6 _ (by kernel_rfl) rfl rfl Tryz.underlying28 rfl (by kernel_rfl) ?_
    conv => arg 5;simp [Act.put]
    go_wp2_with (go_at_call 32;(with_reducible refine (gw.out _).mono ?_);rintro e w7 ⟨rfl,h7⟩)
    go_ret
    exact ⟨rfl,by (repeat(first|(with_reducible first|assumption|exact Below.refl _ _|refine je ?_|refine jl ?_)|((with_reducible refine jp ?_ ?_);first|focus(dsimp only;assumption)|focus(simp;done)|focus(dsimp only;omega))|(with_reducible refine bt ?_ (by assumption))))⟩
  · have a1 : (f.k != 1) = true:=by simp [h1]
    have a2 : decide (1125899906842624 < f.a) = false:=decide_eq_false (fun h => ha ⟨h1,h⟩)
    clear ha h1
    go_enter Tryz.func12,Tryz.ntmps12
    go_upto_region 3 with fail
    refine wp_region_in0 ?_
    intro W0 hE hN
    have bW0 : Below w.heap.size w W0:=(by rw [hE.out];(repeat(first|(with_reducible first|assumption|exact Below.refl _ _|refine je ?_|refine jl ?_)|((with_reducible refine jp ?_ ?_);first|focus(dsimp only;assumption)|focus(simp;done)|focus(dsimp only;omega))|(with_reducible refine bt ?_ (by assumption)))))
    have kf0 : blk W0 w.heap.size = some #[.int .i64 f.k,.int .i64 f.fr,.int .i64 f.to_,.int .u64 f.mi,.int .u64 f.yo,.int .u64 f.a,.int .u64 f.b,.int .i64 f.ino,.int .u64 f.isq,.int .i64 f.iof,.int .i64 f.bno,.int .u64 f.bsq,.int .i64 f.bof,.int .i64 f.bde,.int .i64 f.bpr,.int .i64 f.bbo,.int .i64 f.bli,.int .i64 f.bto,.string f.da]:=(by rw [hE.out];(apply jt;(focus repeat(first|(with_reducible first|assumption|apply jd|apply js)|((with_reducible apply jo);first|focus(dsimp only;assumption)|focus(simp;done)|focus(dsimp only;omega))|((with_reducible apply jn);first|with_reducible rfl|focus(simp;done)|focus(simp;omega))|(with_reducible apply ja)|((with_reducible apply jb);with_reducible assumption)));rfl))
    have nf:=calm_kn kf0
    clear hE
    repeat (go_big_quiet_step (fail))
    refine wpQuiet_nil ?_
    rintro _ ⟨x,rfl⟩
    have bw4 : Below w.heap.size w x.wd:=bt bW0 x.ok
    have kw4 : blk x.wd w.heap.size = some #[.int .i64 f.k,.int .i64 f.fr,.int .i64 f.to_,.int .u64 f.mi,.int .u64 f.yo,.int .u64 f.a,.int .u64 f.b,.int .i64 f.ino,.int .u64 f.isq,.int .i64 f.iof,.int .i64 f.bno,.int .u64 f.bsq,.int .i64 f.bof,.int .i64 f.bde,.int .i64 f.bpr,.int .i64 f.bbo,.int .i64 f.bli,.int .i64 f.bto,.string f.da]:=blk_below x.ok kf0
    clear nf kf0 bW0 hN
    generalize x.wd = w4 at *
    have nw4:=kn kw4
    go_upto_region 5 with fail
    refine wp_region_tail0 9 ?_
    intro W0 hE hN
    have bW0 : Below w.heap.size w W0:=(by rw [hE.out];(repeat(first|(with_reducible first|assumption|exact Below.refl _ _|refine je ?_|refine jl ?_)|((with_reducible refine jp ?_ ?_);first|focus(dsimp only;assumption)|focus(simp;done)|focus(dsimp only;omega))|(with_reducible refine bt ?_ (by assumption)))))
    have kf0 : blk W0 w.heap.size = some #[.int .i64 f.k,.int .i64 f.fr,.int .i64 f.to_,.int .u64 f.mi,.int .u64 f.yo,.int .u64 f.a,.int .u64 f.b,.int .i64 f.ino,.int .u64 f.isq,.int .i64 f.iof,.int .i64 f.bno,.int .u64 f.bsq,.int .i64 f.bof,.int .i64 f.bde,.int .i64 f.bpr,.int .i64 f.bbo,.int .i64 f.bli,.int .i64 f.bto,.string f.da]:=(by rw [hE.out];(apply jt;(focus repeat(first|(with_reducible first|assumption|apply jd|apply js)|((with_reducible apply jo);first|focus(dsimp only;assumption)|focus(simp;done)|focus(dsimp only;omega))|((with_reducible apply jn);first|with_reducible rfl|focus(simp;done)|focus(simp;omega))|(with_reducible apply ja)|((with_reducible apply jb);with_reducible assumption)));rfl))
    have nf:=calm_kn kf0
    clear hE
    simp only [List.take_succ_cons,List.take_zero,List.drop_succ_cons,List.drop_zero]
    repeat (go_big_quiet_step (fail))
    refine wpQuiet_nil ?_
    rintro _ ⟨x,rfl⟩
    have bw6 : Below w.heap.size w x.wd:=bt bW0 x.ok
    have kw6 : blk x.wd w.heap.size = some #[.int .i64 f.k,.int .i64 f.fr,.int .i64 f.to_,.int .u64 f.mi,.int .u64 f.yo,.int .u64 f.a,.int .u64 f.b,.int .i64 f.ino,.int .u64 f.isq,.int .i64 f.iof,.int .i64 f.bno,.int .u64 f.bsq,.int .i64 f.bof,.int .i64 f.bde,.int .i64 f.bpr,.int .i64 f.bbo,.int .i64 f.bli,.int .i64 f.bto,.string f.da]:=blk_below x.ok kf0
    clear nf kf0 bW0 hN
    generalize x.wd = w6 at *
    have nw6:=kn kw6
    refine wpList_load_blkG 28 (.tmp 1) w.heap.size #[.int .i64 f.k,.int .i64 f.fr,.int .i64 f.to_,.int .u64 f.mi,.int .u64 f.yo,.int .u64 f.a,.int .u64 f.b,.int .i64 f.ino,.int .u64 f.isq,.int .i64 f.iof,.int .i64 f.bno,.int .u64 f.bsq,.int .i64 f.bof,.int .i64 f.bde,.int .i64 f.bpr,.int .i64 f.bbo,.int .i64 f.bli,.int .i64 f.bto,.string f.da] kw6 _ (by kernel_rfl) rfl rfl Tryz.underlying28 rfl (by kernel_rfl) ?_
    conv => arg 5;simp [Act.put]
    go_wp2_with (go_at_call 32;(with_reducible refine (gw.out _).mono ?_);rintro e w7 ⟨rfl,h7⟩)
    go_ret
    exact ⟨rfl,by (repeat(first|(with_reducible first|assumption|exact Below.refl _ _|refine je ?_|refine jl ?_)|((with_reducible refine jp ?_ ?_);first|focus(dsimp only;assumption)|focus(simp;done)|focus(dsimp only;omega))|(with_reducible refine bt ?_ (by assumption))))⟩
end Go.Proofs.YtaiofjffoboicaaGreatDoor
