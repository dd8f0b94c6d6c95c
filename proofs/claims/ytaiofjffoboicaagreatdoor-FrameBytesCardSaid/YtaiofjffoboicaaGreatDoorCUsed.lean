/- Parts of a proof, printed by a program of mine out of my texts: FrUsed, FrGreat, FrAck. -/
import Derived.Deep.Cut
import Derived.Test.YtaiofjffoboicaaGreatDoorCFrRefChk
set_option linter.unusedSimpArgs false
set_option linter.unusedVariables false
namespace Go.Proofs.YtaiofjffoboicaaGreatDoor
open Go.RowKit
theorem ret_row {P : Program} {fn : Func} {R : Ending → World → Prop} {a : Act} {W : World} {b : Nat} {c : Array Value} (p : Tmp) (ty : TypeId) (d : TypeDesc) (hb : blk W b = some c) (hr : fn.results = #[.cell p ty])
    (hp : a.tmps.getD p undef = .pointer (some ⟨b,0,none⟩)) (hu : P.underlying ty = some d) (hd : (match d with|.struct _|.array _ _ => true|_ => false) = true) (hi : (P.info? ty).map (·.size) = some c.size)
    (hdf : a.defers = []) (hR : R (.returned (.agg c)) W) : bodyPost P fn R .ret a W :=
  let ⟨t,hg⟩:=blk_row hb
  bodyPost_ret (v:=.agg c) (results_cell_row hr a.tmps W b t c (0,0) d hp hg hu hd hi) hdf hR
set_option maxRecDepth 100000 in
set_option maxHeartbeats 3200000 in
theorem refUsed_k1 (f : Fr) (hk : f.k = 1) (w : World) : Calls Tryz.prog 35 #[frv f] w fun e w' => e = .returned (.agg #[.int .i64 f.k,.int .i64 f.fr,.int .i64 f.to_,.int .u64 f.mi,.int .u64 f.yo,.int .u64 0,.int .u64 0,.int .i64 0,.int .u64 0,.int .i64 0,.int .i64 0,.int .u64 0,.int .i64 0,.int .i64 0,.int .i64 0,.int .i64 0,.int .i64 0,.int .i64 0,.string ⟨#[]⟩]) ∧ Below w.heap.size w w':=by
  have e1 : (f.k == 1) = true:=by simp [hk]
  have e3 : (f.k != 3) = true:=by simp [hk]
  have g1 : ∀ w,Calls Tryz.prog 27 #[.int .i64 f.k] w fun e w' => e = .returned (.bool false) ∧ w = w':=fun w => by have:=refHasB_any f.k w;rwa [show hasB f.k = false by rw [hk];rfl] at this
  have g2 : ∀ w,Calls Tryz.prog 28 #[.int .i64 f.k] w fun e w' => e = .returned (.bool false) ∧ w = w':=fun w => by have:=refHasID_any f.k w;rwa [show hasI f.k = false by rw [hk];rfl] at this
  replace g1:=Lib.hid g1;replace g2:=Lib.hid g2
  clear hk
  go_enter Tryz.func35,Tryz.ntmps35
  go_upto_region 9 with (first|(go_at_call 27;(with_reducible refine (g1.out _).mono ?_);rintro e wx ⟨rfl,rfl⟩)|(go_at_call 28;(with_reducible refine (g2.out _).mono ?_);rintro e wx ⟨rfl,rfl⟩))
  refine wp_fresh w.heap.size (w.heap.size + 1) #[.int .i64 f.k,.int .i64 f.fr,.int .i64 f.to_,.int .u64 f.mi,.int .u64 f.yo,.int .u64 0,.int .u64 0,.int .i64 0,.int .u64 0,.int .i64 0,.int .i64 0,.int .u64 0,.int .i64 0,.int .i64 0,.int .i64 0,.int .i64 0,.int .i64 0,.int .i64 0,.string ⟨#[]⟩] #[.int .i64 0,.int .i64 0,.int .i64 0,.int .u64 0,.int .u64 0,.int .u64 0,.int .u64 0,.int .i64 0,.int .u64 0,.int .i64 0,.int .i64 0,.int .u64 0,.int .i64 0,.int .i64 0,.int .i64 0,.int .i64 0,.int .i64 0,.int .i64 0,.string ⟨#[]⟩] (by (apply jt;(focus repeat(first|(with_reducible first|assumption|apply jd|apply js)|((with_reducible apply jo);first|focus(dsimp only;assumption)|focus(simp;done)|focus(dsimp only;omega))|((with_reducible apply jn);first|with_reducible rfl|focus(simp;done)|focus(simp;omega))|(with_reducible apply ja)|((with_reducible apply jb);with_reducible assumption)));rfl)) (by (apply jt;(focus repeat(first|(with_reducible first|assumption|apply jd|apply js)|((with_reducible apply jo);first|focus(dsimp only;assumption)|focus(simp;done)|focus(dsimp only;omega))|((with_reducible apply jn);first|with_reducible rfl|focus(simp;done)|focus(simp;omega))|(with_reducible apply ja)|((with_reducible apply jb);with_reducible assumption)));rfl)) (show Below w.heap.size w _ by (repeat(first|(with_reducible first|assumption|exact Below.refl _ _|refine je ?_|refine jl ?_)|((with_reducible refine jp ?_ ?_);first|focus(dsimp only;assumption)|focus(simp;done)|focus(dsimp only;omega))|(with_reducible refine bt ?_ (by assumption))))) ?_
  intro w9 kb kz bw9
  refine wp_region_lit ?_
  refine wpList_load_blk 28 (.tmp 1) w.heap.size #[.int .i64 f.k,.int .i64 f.fr,.int .i64 f.to_,.int .u64 f.mi,.int .u64 f.yo,.int .u64 0,.int .u64 0,.int .i64 0,.int .u64 0,.int .i64 0,.int .i64 0,.int .u64 0,.int .i64 0,.int .i64 0,.int .i64 0,.int .i64 0,.int .i64 0,.int .i64 0,.string ⟨#[]⟩] kb _ rfl rfl rfl Tryz.underlying28 rfl (by kernel_rfl) ?_
  conv => arg 5;simp [Act.put]
  refine wpList_store_blk 28 (.tmp 2) (.tmp 23) (w.heap.size + 1) #[.int .i64 0,.int .i64 0,.int .i64 0,.int .u64 0,.int .u64 0,.int .u64 0,.int .u64 0,.int .i64 0,.int .u64 0,.int .i64 0,.int .i64 0,.int .u64 0,.int .i64 0,.int .i64 0,.int .i64 0,.int .i64 0,.int .i64 0,.int .i64 0,.string ⟨#[]⟩] #[.int .i64 f.k,.int .i64 f.fr,.int .i64 f.to_,.int .u64 f.mi,.int .u64 f.yo,.int .u64 0,.int .u64 0,.int .i64 0,.int .u64 0,.int .i64 0,.int .i64 0,.int .u64 0,.int .i64 0,.int .i64 0,.int .i64 0,.int .i64 0,.int .i64 0,.int .i64 0,.string ⟨#[]⟩] kz rfl rfl rfl rfl (by kernel_rfl) rfl (by kernel_rfl) ?_
  intro w5 kb5 o5 B5 s5
  conv => arg 5;simp [Act.put]
  go_wp2
  exact ret_row 2 28 _ kb5 rfl rfl Tryz.underlying28 rfl (by kernel_rfl) rfl ⟨rfl,B5 _ _ (by omega) bw9⟩
set_option maxRecDepth 100000 in
set_option maxHeartbeats 3200000 in
theorem refUsed_k2 (f : Fr) (hk : f.k = 2) (w : World) : Calls Tryz.prog 35 #[frv f] w fun e w' => e = .returned (.agg #[.int .i64 f.k,.int .i64 f.fr,.int .i64 f.to_,.int .u64 f.mi,.int .u64 f.yo,.int .u64 f.a,.int .u64 0,.int .i64 0,.int .u64 0,.int .i64 0,.int .i64 0,.int .u64 0,.int .i64 0,.int .i64 0,.int .i64 0,.int .i64 0,.int .i64 0,.int .i64 0,.string ⟨#[]⟩]) ∧ Below w.heap.size w w':=by
  have e1 : (f.k == 1) = false:=by simp [hk]
  have e3 : (f.k != 3) = true:=by simp [hk]
  have g1 : ∀ w,Calls Tryz.prog 27 #[.int .i64 f.k] w fun e w' => e = .returned (.bool false) ∧ w = w':=fun w => by have:=refHasB_any f.k w;rwa [show hasB f.k = false by rw [hk];rfl] at this
  have g2 : ∀ w,Calls Tryz.prog 28 #[.int .i64 f.k] w fun e w' => e = .returned (.bool false) ∧ w = w':=fun w => by have:=refHasID_any f.k w;rwa [show hasI f.k = false by rw [hk];rfl] at this
  replace g1:=Lib.hid g1;replace g2:=Lib.hid g2
  clear hk
  go_enter Tryz.func35,Tryz.ntmps35
  go_upto_region 9 with (first|(go_at_call 27;(with_reducible refine (g1.out _).mono ?_);rintro e wx ⟨rfl,rfl⟩)|(go_at_call 28;(with_reducible refine (g2.out _).mono ?_);rintro e wx ⟨rfl,rfl⟩))
  refine wp_fresh w.heap.size (w.heap.size + 1) #[.int .i64 f.k,.int .i64 f.fr,.int .i64 f.to_,.int .u64 f.mi,.int .u64 f.yo,.int .u64 f.a,.int .u64 0,.int .i64 0,.int .u64 0,.int .i64 0,.int .i64 0,.int .u64 0,.int .i64 0,.int .i64 0,.int .i64 0,.int .i64 0,.int .i64 0,.int .i64 0,.string ⟨#[]⟩] #[.int .i64 0,.int .i64 0,.int .i64 0,.int .u64 0,.int .u64 0,.int .u64 0,.int .u64 0,.int .i64 0,.int .u64 0,.int .i64 0,.int .i64 0,.int .u64 0,.int .i64 0,.int .i64 0,.int .i64 0,.int .i64 0,.int .i64 0,.int .i64 0,.string ⟨#[]⟩] (by (apply jt;(focus repeat(first|(with_reducible first|assumption|apply jd|apply js)|((with_reducible apply jo);first|focus(dsimp only;assumption)|focus(simp;done)|focus(dsimp only;omega))|((with_reducible apply jn);first|with_reducible rfl|focus(simp;done)|focus(simp;omega))|(with_reducible apply ja)|((with_reducible apply jb);with_reducible assumption)));rfl)) (by (apply jt;(focus repeat(first|(with_reducible first|assumption|apply jd|apply js)|((with_reducible apply jo);first|focus(dsimp only;assumption)|focus(simp;done)|focus(dsimp only;omega))|((with_reducible apply jn);first|with_reducible rfl|focus(simp;done)|focus(simp;omega))|(with_reducible apply ja)|((with_reducible apply jb);with_reducible assumption)));rfl)) (show Below w.heap.size w _ by (repeat(first|(with_reducible first|assumption|exact Below.refl _ _|refine je ?_|refine jl ?_)|((with_reducible refine jp ?_ ?_);first|focus(dsimp only;assumption)|focus(simp;done)|focus(dsimp only;omega))|(with_reducible refine bt ?_ (by assumption))))) ?_
  intro w9 kb kz bw9
  refine wp_region_lit ?_
  refine wpList_load_blk 28 (.tmp 1) w.heap.size #[.int .i64 f.k,.int .i64 f.fr,.int .i64 f.to_,.int .u64 f.mi,.int .u64 f.yo,.int .u64 f.a,.int .u64 0,.int .i64 0,.int .u64 0,.int .i64 0,.int .i64 0,.int .u64 0,.int .i64 0,.int .i64 0,.int .i64 0,.int .i64 0,.int .i64 0,.int .i64 0,.string ⟨#[]⟩] kb _ rfl rfl rfl Tryz.underlying28 rfl (by kernel_rfl) ?_
  conv => arg 5;simp [Act.put]
  refine wpList_store_blk 28 (.tmp 2) (.tmp 23) (w.heap.size + 1) #[.int .i64 0,.int .i64 0,.int .i64 0,.int .u64 0,.int .u64 0,.int .u64 0,.int .u64 0,.int .i64 0,.int .u64 0,.int .i64 0,.int .i64 0,.int .u64 0,.int .i64 0,.int .i64 0,.int .i64 0,.int .i64 0,.int .i64 0,.int .i64 0,.string ⟨#[]⟩] #[.int .i64 f.k,.int .i64 f.fr,.int .i64 f.to_,.int .u64 f.mi,.int .u64 f.yo,.int .u64 f.a,.int .u64 0,.int .i64 0,.int .u64 0,.int .i64 0,.int .i64 0,.int .u64 0,.int .i64 0,.int .i64 0,.int .i64 0,.int .i64 0,.int .i64 0,.int .i64 0,.string ⟨#[]⟩] kz rfl rfl rfl rfl (by kernel_rfl) rfl (by kernel_rfl) ?_
  intro w5 kb5 o5 B5 s5
  conv => arg 5;simp [Act.put]
  go_wp2
  exact ret_row 2 28 _ kb5 rfl rfl Tryz.underlying28 rfl (by kernel_rfl) rfl ⟨rfl,B5 _ _ (by omega) bw9⟩
set_option maxRecDepth 100000 in
set_option maxHeartbeats 3200000 in
theorem refUsed_k3 (f : Fr) (hk : f.k = 3) (w : World) : Calls Tryz.prog 35 #[frv f] w fun e w' => e = .returned (.agg #[.int .i64 f.k,.int .i64 f.fr,.int .i64 f.to_,.int .u64 f.mi,.int .u64 f.yo,.int .u64 f.a,.int .u64 f.b,.int .i64 0,.int .u64 0,.int .i64 0,.int .i64 f.bno,.int .u64 f.bsq,.int .i64 f.bof,.int .i64 f.bde,.int .i64 f.bpr,.int .i64 f.bbo,.int .i64 f.bli,.int .i64 f.bto,.string f.da]) ∧ Below w.heap.size w w':=by
  have e1 : (f.k == 1) = false:=by simp [hk]
  have e3 : (f.k != 3) = false:=by simp [hk]
  have g1 : ∀ w,Calls Tryz.prog 27 #[.int .i64 f.k] w fun e w' => e = .returned (.bool true) ∧ w = w':=fun w => by have:=refHasB_any f.k w;rwa [show hasB f.k = true by rw [hk];rfl] at this
  have g2 : ∀ w,Calls Tryz.prog 28 #[.int .i64 f.k] w fun e w' => e = .returned (.bool false) ∧ w = w':=fun w => by have:=refHasID_any f.k w;rwa [show hasI f.k = false by rw [hk];rfl] at this
  replace g1:=Lib.hid g1;replace g2:=Lib.hid g2
  clear hk
  go_enter Tryz.func35,Tryz.ntmps35
  go_upto_region 9 with (first|(go_at_call 27;(with_reducible refine (g1.out _).mono ?_);rintro e wx ⟨rfl,rfl⟩)|(go_at_call 28;(with_reducible refine (g2.out _).mono ?_);rintro e wx ⟨rfl,rfl⟩))
  refine wp_fresh w.heap.size (w.heap.size + 1) #[.int .i64 f.k,.int .i64 f.fr,.int .i64 f.to_,.int .u64 f.mi,.int .u64 f.yo,.int .u64 f.a,.int .u64 f.b,.int .i64 0,.int .u64 0,.int .i64 0,.int .i64 f.bno,.int .u64 f.bsq,.int .i64 f.bof,.int .i64 f.bde,.int .i64 f.bpr,.int .i64 f.bbo,.int .i64 f.bli,.int .i64 f.bto,.string f.da] #[.int .i64 0,.int .i64 0,.int .i64 0,.int .u64 0,.int .u64 0,.int .u64 0,.int .u64 0,.int .i64 0,.int .u64 0,.int .i64 0,.int .i64 0,.int .u64 0,.int .i64 0,.int .i64 0,.int .i64 0,.int .i64 0,.int .i64 0,.int .i64 0,.string ⟨#[]⟩] (by (apply jt;(focus repeat(first|(with_reducible first|assumption|apply jd|apply js)|((with_reducible apply jo);first|focus(dsimp only;assumption)|focus(simp;done)|focus(dsimp only;omega))|((with_reducible apply jn);first|with_reducible rfl|focus(simp;done)|focus(simp;omega))|(with_reducible apply ja)|((with_reducible apply jb);with_reducible assumption)));rfl)) (by (apply jt;(focus repeat(first|(with_reducible first|assumption|apply jd|apply js)|((with_reducible apply jo);first|focus(dsimp only;assumption)|focus(simp;done)|focus(dsimp only;omega))|((with_reducible apply jn);first|with_reducible rfl|focus(simp;done)|focus(simp;omega))|(with_reducible apply ja)|((with_reducible apply jb);with_reducible assumption)));rfl)) (show Below w.heap.size w _ by (repeat(first|(with_reducible first|assumption|exact Below.refl _ _|refine je ?_|refine jl ?_)|((with_reducible refine jp ?_ ?_);first|focus(dsimp only;assumption)|focus(simp;done)|focus(dsimp only;omega))|(with_reducible refine bt ?_ (by assumption))))) ?_
  intro w9 kb kz bw9
  refine wp_region_lit ?_
  refine wpList_load_blk 28 (.tmp 1) w.heap.size #[.int .i64 f.k,.int .i64 f.fr,.int .i64 f.to_,.int .u64 f.mi,.int .u64 f.yo,.int .u64 f.a,.int .u64 f.b,.int .i64 0,.int .u64 0,.int .i64 0,.int .i64 f.bno,.int .u64 f.bsq,.int .i64 f.bof,.int .i64 f.bde,.int .i64 f.bpr,.int .i64 f.bbo,.int .i64 f.bli,.int .i64 f.bto,.string f.da] kb _ rfl rfl rfl Tryz.underlying28 rfl (by kernel_rfl) ?_
  conv => arg 5;simp [Act.put]
  refine wpList_store_blk 28 (.tmp 2) (.tmp 23) (w.heap.size + 1) #[.int .i64 0,.int .i64 0,.int .i64 0,.int .u64 0,.int .u64 0,.int .u64 0,.int .u64 0,.int .i64 0,.int .u64 0,.int .i64 0,.int .i64 0,.int .u64 0,.int .i64 0,.int .i64 0,.int .i64 0,.int .i64 0,.int .i64 0,.int .i64 0,.string ⟨#[]⟩] #[.int .i64 f.k,.int .i64 f.fr,.int .i64 f.to_,.int .u64 f.mi,.int .u64 f.yo,.int .u64 f.a,.int .u64 f.b,.int .i64 0,.int .u64 0,.int .i64 0,.int .i64 f.bno,.int .u64 f.bsq,.int .i64 f.bof,.int .i64 f.bde,.int .i64 f.bpr,.int .i64 f.bbo,.int .i64 f.bli,.int .i64 f.bto,.string f.da] kz rfl rfl rfl rfl (by kernel_rfl) rfl (by kernel_rfl) ?_
  intro w5 kb5 o5 B5 s5
  conv => arg 5;simp [Act.put]
  go_wp2
  exact ret_row 2 28 _ kb5 rfl rfl Tryz.underlying28 rfl (by kernel_rfl) rfl ⟨rfl,B5 _ _ (by omega) bw9⟩
set_option maxRecDepth 100000 in
set_option maxHeartbeats 3200000 in
theorem refUsed_k4 (f : Fr) (hk : f.k = 4) (w : World) : Calls Tryz.prog 35 #[frv f] w fun e w' => e = .returned (.agg #[.int .i64 f.k,.int .i64 f.fr,.int .i64 f.to_,.int .u64 f.mi,.int .u64 f.yo,.int .u64 f.a,.int .u64 f.b,.int .i64 0,.int .u64 0,.int .i64 0,.int .i64 0,.int .u64 0,.int .i64 0,.int .i64 0,.int .i64 0,.int .i64 0,.int .i64 0,.int .i64 0,.string ⟨#[]⟩]) ∧ Below w.heap.size w w':=by
  have e1 : (f.k == 1) = false:=by simp [hk]
  have e3 : (f.k != 3) = true:=by simp [hk]
  have g1 : ∀ w,Calls Tryz.prog 27 #[.int .i64 f.k] w fun e w' => e = .returned (.bool true) ∧ w = w':=fun w => by have:=refHasB_any f.k w;rwa [show hasB f.k = true by rw [hk];rfl] at this
  have g2 : ∀ w,Calls Tryz.prog 28 #[.int .i64 f.k] w fun e w' => e = .returned (.bool false) ∧ w = w':=fun w => by have:=refHasID_any f.k w;rwa [show hasI f.k = false by rw [hk];rfl] at this
  replace g1:=Lib.hid g1;replace g2:=Lib.hid g2
  clear hk
  go_enter Tryz.func35,Tryz.ntmps35
  go_upto_region 9 with (first|(go_at_call 27;(with_reducible refine (g1.out _).mono ?_);rintro e wx ⟨rfl,rfl⟩)|(go_at_call 28;(with_reducible refine (g2.out _).mono ?_);rintro e wx ⟨rfl,rfl⟩))
  refine wp_fresh w.heap.size (w.heap.size + 1) #[.int .i64 f.k,.int .i64 f.fr,.int .i64 f.to_,.int .u64 f.mi,.int .u64 f.yo,.int .u64 f.a,.int .u64 f.b,.int .i64 0,.int .u64 0,.int .i64 0,.int .i64 0,.int .u64 0,.int .i64 0,.int .i64 0,.int .i64 0,.int .i64 0,.int .i64 0,.int .i64 0,.string ⟨#[]⟩] #[.int .i64 0,.int .i64 0,.int .i64 0,.int .u64 0,.int .u64 0,.int .u64 0,.int .u64 0,.int .i64 0,.int .u64 0,.int .i64 0,.int .i64 0,.int .u64 0,.int .i64 0,.int .i64 0,.int .i64 0,.int .i64 0,.int .i64 0,.int .i64 0,.string ⟨#[]⟩] (by (apply jt;(focus repeat(first|(with_reducible first|assumption|apply jd|apply js)|((with_reducible apply jo);first|focus(dsimp only;assumption)|focus(simp;done)|focus(dsimp only;omega))|((with_reducible apply jn);first|with_reducible rfl|focus(simp;done)|focus(simp;omega))|(with_reducible apply ja)|((with_reducible apply jb);with_reducible assumption)));rfl)) (by (apply jt;(focus repeat(first|(with_reducible first|assumption|apply jd|apply js)|((with_reducible apply jo);first|focus(dsimp only;assumption)|focus(simp;done)|focus(dsimp only;omega))|((with_reducible apply jn);first|with_reducible rfl|focus(simp;done)|focus(simp;omega))|(with_reducible apply ja)|((with_reducible apply jb);with_reducible assumption)));rfl)) (show Below w.heap.size w _ by (repeat(first|(with_reducible first|assumption|exact Below.refl _ _|refine je ?_|refine jl ?_)|((with_reducible refine jp ?_ ?_);first|focus(dsimp only;assumption)|focus(simp;done)|focus(dsimp only;omega))|(with_reducible refine bt ?_ (by assumption))))) ?_
  intro w9 kb kz bw9
  refine wp_region_lit ?_
  refine wpList_load_blk 28 (.tmp 1) w.heap.size #[.int .i64 f.k,.int .i64 f.fr,.int .i64 f.to_,.int .u64 f.mi,.int .u64 f.yo,.int .u64 f.a,.int .u64 f.b,.int .i64 0,.int .u64 0,.int .i64 0,.int .i64 0,.int .u64 0,.int .i64 0,.int .i64 0,.int .i64 0,.int .i64 0,.int .i64 0,.int .i64 0,.string ⟨#[]⟩] kb _ rfl rfl rfl Tryz.underlying28 rfl (by kernel_rfl) ?_
  conv => arg 5;simp [Act.put]
  refine wpList_store_blk 28 (.tmp 2) (.tmp 23) (w.heap.size + 1) #[.int .i64 0,.int .i64 0,.int .i64 0,.int .u64 0,.int .u64 0,.int .u64 0,.int .u64 0,.int .i64 0,.int .u64 0,.int .i64 0,.int .i64 0,.int .u64 0,.int .i64 0,.int .i64 0,.int .i64 0,.int .i64 0,.int .i64 0,.int .i64 0,.string ⟨#[]⟩] #[.int .i64 f.k,.int .i64 f.fr,.int .i64 f.to_,.int .u64 f.mi,.int .u64 f.yo,.int .u64 f.a,.int .u64 f.b,.int .i64 0,.int .u64 0,.int .i64 0,.int .i64 0,.int .u64 0,.int .i64 0,.int .i64 0,.int .i64 0,.int .i64 0,.int .i64 0,.int .i64 0,.string ⟨#[]⟩] kz rfl rfl rfl rfl (by kernel_rfl) rfl (by kernel_rfl) ?_
  intro w5 kb5 o5 B5 s5
  conv => arg 5;simp [Act.put]
  go_wp2
  exact ret_row 2 28 _ kb5 rfl rfl Tryz.underlying28 rfl (by kernel_rfl) rfl ⟨rfl,B5 _ _ (by omega) bw9⟩
set_option maxRecDepth 100000 in
set_option maxHeartbeats 3200000 in
theorem refUsed_k5 (f : Fr) (hk : f.k = 5) (w : World) : Calls Tryz.prog 35 #[frv f] w fun e w' => e = .returned (.agg #[.int .i64 f.k,.int .i64 f.fr,.int .i64 f.to_,.int .u64 f.mi,.int .u64 f.yo,.int .u64 f.a,.int .u64 0,.int .i64 f.ino,.int .u64 f.isq,.int .i64 f.iof,.int .i64 0,.int .u64 0,.int .i64 0,.int .i64 0,.int .i64 0,.int .i64 0,.int .i64 0,.int .i64 0,.string ⟨#[]⟩]) ∧ Below w.heap.size w w':=by
  have e1 : (f.k == 1) = false:=by simp [hk]
  have e3 : (f.k != 3) = true:=by simp [hk]
  have g1 : ∀ w,Calls Tryz.prog 27 #[.int .i64 f.k] w fun e w' => e = .returned (.bool false) ∧ w = w':=fun w => by have:=refHasB_any f.k w;rwa [show hasB f.k = false by rw [hk];rfl] at this
  have g2 : ∀ w,Calls Tryz.prog 28 #[.int .i64 f.k] w fun e w' => e = .returned (.bool true) ∧ w = w':=fun w => by have:=refHasID_any f.k w;rwa [show hasI f.k = true by rw [hk];rfl] at this
  replace g1:=Lib.hid g1;replace g2:=Lib.hid g2
  clear hk
  go_enter Tryz.func35,Tryz.ntmps35
  go_upto_region 9 with (first|(go_at_call 27;(with_reducible refine (g1.out _).mono ?_);rintro e wx ⟨rfl,rfl⟩)|(go_at_call 28;(with_reducible refine (g2.out _).mono ?_);rintro e wx ⟨rfl,rfl⟩))
  refine wp_fresh w.heap.size (w.heap.size + 1) #[.int .i64 f.k,.int .i64 f.fr,.int .i64 f.to_,.int .u64 f.mi,.int .u64 f.yo,.int .u64 f.a,.int .u64 0,.int .i64 f.ino,.int .u64 f.isq,.int .i64 f.iof,.int .i64 0,.int .u64 0,.int .i64 0,.int .i64 0,.int .i64 0,.int .i64 0,.int .i64 0,.int .i64 0,.string ⟨#[]⟩] #[.int .i64 0,.int .i64 0,.int .i64 0,.int .u64 0,.int .u64 0,.int .u64 0,.int .u64 0,.int .i64 0,.int .u64 0,.int .i64 0,.int .i64 0,.int .u64 0,.int .i64 0,.int .i64 0,.int .i64 0,.int .i64 0,.int .i64 0,.int .i64 0,.string ⟨#[]⟩] (by (apply jt;(focus repeat(first|(with_reducible first|assumption|apply jd|apply js)|((with_reducible apply jo);first|focus(dsimp only;assumption)|focus(simp;done)|focus(dsimp only;omega))|((with_reducible apply jn);first|with_reducible rfl|focus(simp;done)|focus(simp;omega))|(with_reducible apply ja)|((with_reducible apply jb);with_reducible assumption)));rfl)) (by (apply jt;(focus repeat(first|(with_reducible first|assumption|apply jd|apply js)|((with_reducible apply jo);first|focus(dsimp only;assumption)|focus(simp;done)|focus(dsimp only;omega))|((with_reducible apply jn);first|with_reducible rfl|focus(simp;done)|focus(simp;omega))|(with_reducible apply ja)|((with_reducible apply jb);with_reducible assumption)));rfl)) (show Below w.heap.size w _ by (repeat(first|(with_reducible first|assumption|exact Below.refl _ _|refine je ?_|refine jl ?_)|((with_reducible refine jp ?_ ?_);first|focus(dsimp only;assumption)|focus(simp;done)|focus(dsimp only;omega))|(with_reducible refine bt ?_ (by assumption))))) ?_
  intro w9 kb kz bw9
  refine wp_region_lit ?_
  refine wpList_load_blk 28 (.tmp 1) w.heap.size #[.int .i64 f.k,.int .i64 f.fr,.int .i64 f.to_,.int .u64 f.mi,.int .u64 f.yo,.int .u64 f.a,.int .u64 0,.int .i64 f.ino,.int .u64 f.isq,.int .i64 f.iof,.int .i64 0,.int .u64 0,.int .i64 0,.int .i64 0,.int .i64 0,.int .i64 0,.int .i64 0,.int .i64 0,.string ⟨#[]⟩] kb _ rfl rfl rfl Tryz.underlying28 rfl (by kernel_rfl) ?_
  conv => arg 5;simp [Act.put]
  refine wpList_store_blk 28 (.tmp 2) (.tmp 23) (w.heap.size + 1) #[.int .i64 0,.int .i64 0,.int .i64 0,.int .u64 0,.int .u64 0,.int .u64 0,.int .u64 0,.int .i64 0,.int .u64 0,.int .i64 0,.int .i64 0,.int .u64 0,.int .i64 0,.int .i64 0,.int .i64 0,.int .i64 0,.int .i64 0,.int .i64 0,.string ⟨#[]⟩] #[.int .i64 f.k,.int .i64 f.fr,.int .i64 f.to_,.int .u64 f.mi,.int .u64 f.yo,.int .u64 f.a,.int .u64 0,.int .i64 f.ino,.int .u64 f.isq,.int .i64 f.iof,.int .i64 0,.int .u64 0,.int .i64 0,.int .i64 0,.int .i64 0,.int .i64 0,.int .i64 0,.int .i64 0,.string ⟨#[]⟩] kz rfl rfl rfl rfl (by kernel_rfl) rfl (by kernel_rfl) ?_
  intro w5 kb5 o5 B5 s5
  conv => arg 5;simp [Act.put]
  go_wp2
  exact ret_row 2 28 _ kb5 rfl rfl Tryz.underlying28 rfl (by kernel_rfl) rfl ⟨rfl,B5 _ _ (by omega) bw9⟩
set_option maxRecDepth 100000 in
set_option maxHeartbeats 3200000 in
theorem refUsed_k6 (f : Fr) (hk : f.k = 6) (w : World) : Calls Tryz.prog 35 #[frv f] w fun e w' => e = .returned (.agg #[.int .i64 f.k,.int .i64 f.fr,.int .i64 f.to_,.int .u64 f.mi,.int .u64 f.yo,.int .u64 f.a,.int .u64 f.b,.int .i64 f.ino,.int .u64 f.isq,.int .i64 f.iof,.int .i64 0,.int .u64 0,.int .i64 0,.int .i64 0,.int .i64 0,.int .i64 0,.int .i64 0,.int .i64 0,.string ⟨#[]⟩]) ∧ Below w.heap.size w w':=by
  have e1 : (f.k == 1) = false:=by simp [hk]
  have e3 : (f.k != 3) = true:=by simp [hk]
  have g1 : ∀ w,Calls Tryz.prog 27 #[.int .i64 f.k] w fun e w' => e = .returned (.bool true) ∧ w = w':=fun w => by have:=refHasB_any f.k w;rwa [show hasB f.k = true by rw [hk];rfl] at this
  have g2 : ∀ w,Calls Tryz.prog 28 #[.int .i64 f.k] w fun e w' => e = .returned (.bool true) ∧ w = w':=fun w => by have:=refHasID_any f.k w;rwa [show hasI f.k = true by rw [hk];rfl] at this
  replace g1:=Lib.hid g1;replace g2:=Lib.hid g2
  clear hk
  go_enter Tryz.func35,Tryz.ntmps35
  go_upto_region 9 with (first|(go_at_call 27;(with_reducible refine (g1.out _).mono ?_);rintro e wx ⟨rfl,rfl⟩)|(go_at_call 28;(with_reducible refine (g2.out _).mono ?_);rintro e wx ⟨rfl,rfl⟩))
  refine wp_fresh w.heap.size (w.heap.size + 1) #[.int .i64 f.k,.int .i64 f.fr,.int .i64 f.to_,.int .u64 f.mi,.int .u64 f.yo,.int .u64 f.a,.int .u64 f.b,.int .i64 f.ino,.int .u64 f.isq,.int .i64 f.iof,.int .i64 0,.int .u64 0,.int .i64 0,.int .i64 0,.int .i64 0,.int .i64 0,.int .i64 0,.int .i64 0,.string ⟨#[]⟩] #[.int .i64 0,.int .i64 0,.int .i64 0,.int .u64 0,.int .u64 0,.int .u64 0,.int .u64 0,.int .i64 0,.int .u64 0,.int .i64 0,.int .i64 0,.int .u64 0,.int .i64 0,.int .i64 0,.int .i64 0,.int .i64 0,.int .i64 0,.int .i64 0,.string ⟨#[]⟩] (by (apply jt;(focus repeat(first|(with_reducible first|assumption|apply jd|apply js)|((with_reducible apply jo);first|focus(dsimp only;assumption)|focus(simp;done)|focus(dsimp only;omega))|((with_reducible apply jn);first|with_reducible rfl|focus(simp;done)|focus(simp;omega))|(with_reducible apply ja)|((with_reducible apply jb);with_reducible assumption)));rfl)) (by (apply jt;(focus repeat(first|(with_reducible first|assumption|apply jd|apply js)|((with_reducible apply jo);first|focus(dsimp only;assumption)|focus(simp;done)|focus(dsimp only;omega))|((with_reducible apply jn);first|with_reducible rfl|focus(simp;done)|focus(simp;omega))|(with_reducible apply ja)|((with_reducible apply jb);with_reducible assumption)));rfl)) (show Below w.heap.size w _ by (repeat(first|(with_reducible first|assumption|exact Below.refl _ _|refine je ?_|refine jl ?_)|((with_reducible refine jp ?_ ?_);first|focus(dsimp only;assumption)|focus(simp;done)|focus(dsimp only;omega))|(with_reducible refine bt ?_ (by assumption))))) ?_
  intro w9 kb kz bw9
  refine wp_region_lit ?_
  refine wpList_load_blk 28 (.tmp 1) w.heap.size #[.int .i64 f.k,.int .i64 f.fr,.int .i64 f.to_,.int .u64 f.mi,.int .u64 f.yo,.int .u64 f.a,.int .u64 f.b,.int .i64 f.ino,.int .u64 f.isq,.int .i64 f.iof,.int .i64 0,.int .u64 0,.int .i64 0,.int .i64 0,.int .i64 0,.int .i64 0,.int .i64 0,.int .i64 0,.string ⟨#[]⟩] kb _ rfl rfl rfl Tryz.underlying28 rfl (by kernel_rfl) ?_
  conv => arg 5;simp [Act.put]
  refine wpList_store_blk 28 (.tmp 2) (.tmp 23) (w.heap.size + 1) #[.int .i64 0,.int .i64 0,.int .i64 0,.int .u64 0,.int .u64 0,.int .u64 0,.int .u64 0,.int .i64 0,.int .u64 0,.int .i64 0,.int .i64 0,.int .u64 0,.int .i64 0,.int .i64 0,.int .i64 0,.int .i64 0,.int .i64 0,.int .i64 0,.string ⟨#[]⟩] #[.int .i64 f.k,.int .i64 f.fr,.int .i64 f.to_,.int .u64 f.mi,.int .u64 f.yo,.int .u64 f.a,.int .u64 f.b,.int .i64 f.ino,.int .u64 f.isq,.int .i64 f.iof,.int .i64 0,.int .u64 0,.int .i64 0,.int .i64 0,.int .i64 0,.int .i64 0,.int .i64 0,.int .i64 0,.string ⟨#[]⟩] kz rfl rfl rfl rfl (by kernel_rfl) rfl (by kernel_rfl) ?_
  intro w5 kb5 o5 B5 s5
  conv => arg 5;simp [Act.put]
  go_wp2
  exact ret_row 2 28 _ kb5 rfl rfl Tryz.underlying28 rfl (by kernel_rfl) rfl ⟨rfl,B5 _ _ (by omega) bw9⟩
set_option maxRecDepth 100000 in
set_option maxHeartbeats 3200000 in
theorem refUsed_k7 (f : Fr) (hk : f.k = 7) (w : World) : Calls Tryz.prog 35 #[frv f] w fun e w' => e = .returned (.agg #[.int .i64 f.k,.int .i64 f.fr,.int .i64 f.to_,.int .u64 f.mi,.int .u64 f.yo,.int .u64 f.a,.int .u64 0,.int .i64 0,.int .u64 0,.int .i64 0,.int .i64 0,.int .u64 0,.int .i64 0,.int .i64 0,.int .i64 0,.int .i64 0,.int .i64 0,.int .i64 0,.string ⟨#[]⟩]) ∧ Below w.heap.size w w':=by
  have e1 : (f.k == 1) = false:=by simp [hk]
  have e3 : (f.k != 3) = true:=by simp [hk]
  have g1 : ∀ w,Calls Tryz.prog 27 #[.int .i64 f.k] w fun e w' => e = .returned (.bool false) ∧ w = w':=fun w => by have:=refHasB_any f.k w;rwa [show hasB f.k = false by rw [hk];rfl] at this
  have g2 : ∀ w,Calls Tryz.prog 28 #[.int .i64 f.k] w fun e w' => e = .returned (.bool false) ∧ w = w':=fun w => by have:=refHasID_any f.k w;rwa [show hasI f.k = false by rw [hk];rfl] at this
  replace g1:=Lib.hid g1;replace g2:=Lib.hid g2
  clear hk
  go_enter Tryz.func35,Tryz.ntmps35
  go_upto_region 9 with (first|(go_at_call 27;(with_reducible refine (g1.out _).mono ?_);rintro e wx ⟨rfl,rfl⟩)|(go_at_call 28;(with_reducible refine (g2.out _).mono ?_);rintro e wx ⟨rfl,rfl⟩))
  refine wp_fresh w.heap.size (w.heap.size + 1) #[.int .i64 f.k,.int .i64 f.fr,.int .i64 f.to_,.int .u64 f.mi,.int .u64 f.yo,.int .u64 f.a,.int .u64 0,.int .i64 0,.int .u64 0,.int .i64 0,.int .i64 0,.int .u64 0,.int .i64 0,.int .i64 0,.int .i64 0,.int .i64 0,.int .i64 0,.int .i64 0,.string ⟨#[]⟩] #[.int .i64 0,.int .i64 0,.int .i64 0,.int .u64 0,.int .u64 0,.int .u64 0,.int .u64 0,.int .i64 0,.int .u64 0,.int .i64 0,.int .i64 0,.int .u64 0,.int .i64 0,.int .i64 0,.int .i64 0,.int .i64 0,.int .i64 0,.int .i64 0,.string ⟨#[]⟩] (by (apply jt;(focus repeat(first|(with_reducible first|assumption|apply jd|apply js)|((with_reducible apply jo);first|focus(dsimp only;assumption)|focus(simp;done)|focus(dsimp only;omega))|((with_reducible apply jn);first|with_reducible rfl|focus(simp;done)|focus(simp;omega))|(with_reducible apply ja)|((with_reducible apply jb);with_reducible assumption)));rfl)) (by (apply jt;(focus repeat(first|(with_reducible first|assumption|apply jd|apply js)|((with_reducible apply jo);first|focus(dsimp only;assumption)|focus(simp;done)|focus(dsimp only;omega))|((with_reducible apply jn);first|with_reducible rfl|focus(simp;done)|focus(simp;omega))|(with_reducible apply ja)|((with_reducible apply jb);with_reducible assumption)));rfl)) (show Below w.heap.size w _ by (repeat(first|(with_reducible first|assumption|exact Below.refl _ _|refine je ?_|refine jl ?_)|((with_reducible refine jp ?_ ?_);first|focus(dsimp only;assumption)|focus(simp;done)|focus(dsimp only;omega))|(with_reducible refine bt ?_ (by assumption))))) ?_
  intro w9 kb kz bw9
  refine wp_region_lit ?_
  refine wpList_load_blk 28 (.tmp 1) w.heap.size #[.int .i64 f.k,.int .i64 f.fr,.int .i64 f.to_,.int .u64 f.mi,.int .u64 f.yo,.int .u64 f.a,.int .u64 0,.int .i64 0,.int .u64 0,.int .i64 0,.int .i64 0,.int .u64 0,.int .i64 0,.int .i64 0,.int .i64 0,.int .i64 0,.int .i64 0,.int .i64 0,.string ⟨#[]⟩] kb _ rfl rfl rfl Tryz.underlying28 rfl (by kernel_rfl) ?_
  conv => arg 5;simp [Act.put]
  refine wpList_store_blk 28 (.tmp 2) (.tmp 23) (w.heap.size + 1) #[.int .i64 0,.int .i64 0,.int .i64 0,.int .u64 0,.int .u64 0,.int .u64 0,.int .u64 0,.int .i64 0,.int .u64 0,.int .i64 0,.int .i64 0,.int .u64 0,.int .i64 0,.int .i64 0,.int .i64 0,.int .i64 0,.int .i64 0,.int .i64 0,.string ⟨#[]⟩] #[.int .i64 f.k,.int .i64 f.fr,.int .i64 f.to_,.int .u64 f.mi,.int .u64 f.yo,.int .u64 f.a,.int .u64 0,.int .i64 0,.int .u64 0,.int .i64 0,.int .i64 0,.int .u64 0,.int .i64 0,.int .i64 0,.int .i64 0,.int .i64 0,.int .i64 0,.int .i64 0,.string ⟨#[]⟩] kz rfl rfl rfl rfl (by kernel_rfl) rfl (by kernel_rfl) ?_
  intro w5 kb5 o5 B5 s5
  conv => arg 5;simp [Act.put]
  go_wp2
  exact ret_row 2 28 _ kb5 rfl rfl Tryz.underlying28 rfl (by kernel_rfl) rfl ⟨rfl,B5 _ _ (by omega) bw9⟩
end Go.Proofs.YtaiofjffoboicaaGreatDoor
namespace Go.Proofs.YtaiofjffoboicaaGreatDoor
open Go.RowKit
section
variable {P : Program} {ops : Array Oper} {rest : List Oper} {o : Oper} {a : Act} {w : World}
theorem wpList_load_blkG {Q : Exit → Act → World → Prop} (ty : TypeId) (x : Operand) (b : Nat) (cs : Array Value) (hb : blk w b = some cs) (d : TypeDesc) (hw : Region.wanted o (yielded ops a.tmps) = true) (ho : o.op = .load ty x) (hx : a.eval x = .pointer (some ⟨b,0,none⟩))
    (hu : P.underlying ty = some d) (hd : (match d with|.struct _|.array _ _ => true|_ => false) = true) (hi : (P.info? ty).map (·.size) = some cs.size)
    (h : wpList P ops Q rest (a.put o.dst (.agg cs)) w) : wpList P ops Q (o :: rest) a w:=by
  obtain ⟨t,hg⟩:=blk_row hb
  refine wpList_step fun K hK => ?_
  rw [if_pos hw]
  exact wp_load_row ty x ho b hx t cs (0,0) d hg hu hd hi (hK _ _ h)
theorem wpQuiet_load_blkG {C : World → Prop} {Q : Act → Prop} (ty : TypeId) (x : Operand) (b : Nat) (cs : Array Value) (hb : ∀ w,C w → blk w b = some cs) (d : TypeDesc) (hw : Region.wanted o (yielded ops a.tmps) = true) (ho : o.op = .load ty x) (hx : a.eval x = .pointer (some ⟨b,0,none⟩))
    (hu : P.underlying ty = some d) (hd : (match d with|.struct _|.array _ _ => true|_ => false) = true) (hi : (P.info? ty).map (·.size) = some cs.size)
    (h : wpQuiet P ops C Q rest (a.put o.dst (.agg cs))) : wpQuiet P ops C Q (o :: rest) a:=by
  refine wpQuiet_step fun K hK => ?_
  rw [if_pos hw]
  refine ⟨.agg cs,fun w hw => ?_,hK _ h⟩
  obtain ⟨t,hg⟩:=blk_row (hb w hw)
  unfold Oper.quietAt execOp
  simp only [ho,hx,Instr.loadAt,Instr.sureAddr,Sem.run_bind,Sem.run_pure,Result.andThen_ok,run_loadVar_row w b t ty cs (0,0) d hg hu hd hi]
  exact ⟨rfl,rfl⟩
theorem wpQuiet_app {C : World → Prop} {Q : Act → Prop} (l2 : List Oper) : ∀ (l1 : List Oper) (a : Act),wpQuiet P ops C (fun a' => wpQuiet P ops C Q l2 a') l1 a → wpQuiet P ops C Q (l1 ++ l2) a
  | [],a,h => h
  | o :: rest,a,h => by
    unfold wpQuiet at h
    rw [List.cons_append]
    unfold wpQuiet
    split
    · rename_i hw
      rw [if_pos hw] at h
      exact Oper.quiet_mono (fun a' h' => wpQuiet_app l2 rest a' h') h
    · rename_i hw
      rw [if_neg hw] at h
      exact wpQuiet_app l2 rest _ h
theorem wpQuiet_split {C : World → Prop} {Q : Act → Prop} {l : List Oper} (n : Nat) (h : wpQuiet P ops C (fun a' => wpQuiet P ops C Q (l.drop n) a') (l.take n) a) : wpQuiet P ops C Q l a:=by
  have:=wpQuiet_app (P:=P) (ops:=ops) (C:=C) (Q:=Q) (l.drop n) (l.take n) a h
  rwa [List.take_append_drop] at this
end
end Go.Proofs.YtaiofjffoboicaaGreatDoor
namespace Go.Proofs.YtaiofjffoboicaaGreatDoor
open Go.RowKit
def grantF : Fr:=⟨2,1,2,3,4,300,0,0,0,0,0,0,0,0,0,0,0,0,⟨#[]⟩⟩
set_option maxRecDepth 100000 in
set_option maxHeartbeats 800000 in
theorem grant_any (w : World) : Calls Tryz.prog 13 #[] w fun e w' => e = .returned (.agg #[.int .i64 2,.int .i64 1,.int .i64 2,.int .u64 3,.int .u64 4,.int .u64 300,.int .u64 0,.int .i64 0,.int .u64 0,.int .i64 0,.int .i64 0,.int .u64 0,.int .i64 0,.int .i64 0,.int .i64 0,.int .i64 0,.int .i64 0,.int .i64 0,.string ⟨#[]⟩]) ∧ Below w.heap.size w w':=by
  go_enter Tryz.func13,Tryz.ntmps13
  go_upto_region 1 with fail
  refine wp_region_lit ?_
  refine wpList_build_is 28 _ #[.int .i64 2,.int .i64 1,.int .i64 2,.int .u64 3,.int .u64 4,.int .u64 300,.int .u64 0,.int .i64 0,.int .u64 0,.int .i64 0,.int .i64 0,.int .u64 0,.int .i64 0,.int .i64 0,.int .i64 0,.int .i64 0,.int .i64 0,.int .i64 0,.string ⟨#[]⟩] rfl rfl (by kernel_rfl) ?_
  conv => arg 5;simp [Act.put]
  refine wpList_store_blk 28 (.tmp 0) (.tmp 1) w.heap.size #[.int .i64 0,.int .i64 0,.int .i64 0,.int .u64 0,.int .u64 0,.int .u64 0,.int .u64 0,.int .i64 0,.int .u64 0,.int .i64 0,.int .i64 0,.int .u64 0,.int .i64 0,.int .i64 0,.int .i64 0,.int .i64 0,.int .i64 0,.int .i64 0,.string ⟨#[]⟩] #[.int .i64 2,.int .i64 1,.int .i64 2,.int .u64 3,.int .u64 4,.int .u64 300,.int .u64 0,.int .i64 0,.int .u64 0,.int .i64 0,.int .i64 0,.int .u64 0,.int .i64 0,.int .i64 0,.int .i64 0,.int .i64 0,.int .i64 0,.int .i64 0,.string ⟨#[]⟩] (by (apply jt;(focus repeat(first|(with_reducible first|assumption|apply jd|apply js)|((with_reducible apply jo);first|focus(dsimp only;assumption)|focus(simp;done)|focus(dsimp only;omega))|((with_reducible apply jn);first|with_reducible rfl|focus(simp;done)|focus(simp;omega))|(with_reducible apply ja)|((with_reducible apply jb);with_reducible assumption)));rfl)) rfl rfl rfl rfl (by kernel_rfl) rfl (by kernel_rfl) ?_
  intro w5 kb5 o5 B5 s5
  conv => arg 5;simp [Act.put]
  go_wp2
  exact ret_row 0 28 _ kb5 rfl rfl Tryz.underlying28 rfl (by kernel_rfl) rfl ⟨rfl,B5 _ _ (Nat.le_refl _) (by (repeat(first|(with_reducible first|assumption|exact Below.refl _ _|refine je ?_|refine jl ?_)|((with_reducible refine jp ?_ ?_);first|focus(dsimp only;assumption)|focus(simp;done)|focus(dsimp only;omega))|(with_reducible refine bt ?_ (by assumption)))))⟩
end Go.Proofs.YtaiofjffoboicaaGreatDoor
