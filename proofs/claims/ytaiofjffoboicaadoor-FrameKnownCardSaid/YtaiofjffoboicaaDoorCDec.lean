/- Parts of a proof, printed by a program of mine out of my texts: FrDec0, FrDec1, FrDec2, FrDec3. -/
import Derived.Deep.Cut
import Derived.Great.Walk
import Derived.Test.YtaiofjffoboicaaDoorCCur
import Derived.Test.YtaiofjffoboicaaDoorCEq
import Derived.Test.YtaiofjffoboicaaDoorCFrChkAll
import Derived.Test.YtaiofjffoboicaaDoorCLaw
import Derived.Test.YtaiofjffoboicaaDoorCSum
set_option linter.unusedSimpArgs false
set_option linter.unusedVariables false
namespace Go.Proofs.YtaiofjffoboicaaDoor
open Go.RowKit
theorem ret_row2 {P : Program} {fn : Func} {R : Ending → World → Prop} {a : Act} {W : World} {b b' : Nat} {c c' : Array Value} (p p' : Tmp) (ty ty' : TypeId) (d d' : TypeDesc) (hb : blk W b = some c) (hb' : blk W b' = some c') (hr : fn.results = #[.cell p ty,.cell p' ty'])
    (hp : a.tmps.getD p undef = .pointer (some ⟨b,0,none⟩)) (hu : P.underlying ty = some d) (hd : (match d with|.struct _|.array _ _ => true|_ => false) = true) (hi : (P.info? ty).map (·.size) = some c.size)
    (hp' : a.tmps.getD p' undef = .pointer (some ⟨b',0,none⟩)) (hu' : P.underlying ty' = some d') (hd' : (match d' with|.struct _|.array _ _ => true|_ => false) = true) (hi' : (P.info? ty').map (·.size) = some c'.size)
    (hdf : a.defers = []) (hR : R (.returned (.tuple #[.agg c,.agg c'])) W) : bodyPost P fn R .ret a W:=by
  obtain ⟨t,hg⟩:=blk_row hb
  obtain ⟨t',hg'⟩:=blk_row hb'
  refine bodyPost_ret (v:=.tuple #[.agg c,.agg c']) ?_ hdf hR
  have q : a.tmps[p]?.getD undef = .pointer (some ⟨b,0,none⟩):=by simpa using hp
  have q' : a.tmps[p']?.getD undef = .pointer (some ⟨b',0,none⟩):=by simpa using hp'
  simp [results,hr,q,q',asAddr,run_loadVar_row W b t ty c (0,0) d hg hu hd hi,run_loadVar_row W b' t' ty' c' (0,0) d' hg' hu' hd' hi']
set_option maxRecDepth 100000 in
set_option maxHeartbeats 1600000 in
theorem fdec_long (s : ByteArray) (h : 1200 < s.size) (hs : s.size ≤ maxLen) (w : World) : Calls Tryd.prog 11 #[.string s] w fun e w' => e = .returned (.tuple #[.agg zF,.agg #[.int .i64 4,.int .i64 1200]]) ∧ Below w.heap.size w w':=by
  unfold maxLen at hs
  have t1 : decide ((1200 : Int) < s.size) = true:=decide_eq_true (by omega)
  go_enter Tryd.func11,Tryd.ntmps11
  go_upto_region 2 with fail
  refine wp_region_lit ?_
  refine wpList_build_is 29 #[] zF rfl rfl (by kernel_rfl) ?_
  conv => arg 5;simp [Act.put]
  refine wpList_build_is 32 _ #[.int .i64 4,.int .i64 1200] rfl rfl (by kernel_rfl) ?_
  conv => arg 5;simp [Act.put]
  refine wpList_store_blk 29 (.tmp 2) (.tmp 14) w.heap.size zF zF (by (apply jt;(focus repeat(first|(with_reducible first|assumption|apply jd|apply js)|((with_reducible apply jo);first|focus(dsimp only;assumption)|focus(simp;done)|focus(dsimp only;omega))|((with_reducible apply jn);first|with_reducible rfl|focus(simp;done)|focus(simp;omega))|(with_reducible apply ja)|((with_reducible apply jb);with_reducible assumption)));rfl)) rfl rfl rfl rfl (by kernel_rfl) rfl (by kernel_rfl) ?_
  intro w5 kb5 o5 B5 s5
  conv => arg 5;simp [Act.put]
  have kf5:=o5 (w.heap.size + 1) #[.int .i64 0,.int .i64 0] (by omega) (by (apply jt;(focus repeat(first|(with_reducible first|assumption|apply jd|apply js)|((with_reducible apply jo);first|focus(dsimp only;assumption)|focus(simp;done)|focus(dsimp only;omega))|((with_reducible apply jn);first|with_reducible rfl|focus(simp;done)|focus(simp;omega))|(with_reducible apply ja)|((with_reducible apply jb);with_reducible assumption)));rfl))
  have hw5 : Below w.heap.size w w5:=B5 _ _ (Nat.le_refl _) (by (repeat(first|(with_reducible first|assumption|exact Below.refl _ _|refine je ?_|refine jl ?_)|((with_reducible refine jp ?_ ?_);first|focus(dsimp only;assumption)|focus(simp;done)|focus(dsimp only;omega))|(with_reducible refine bt ?_ (by assumption)))))
  clear o5 B5 s5
  refine wpList_store_blk 32 (.tmp 3) (.tmp 15) (w.heap.size + 1) #[.int .i64 0,.int .i64 0] #[.int .i64 4,.int .i64 1200] kf5 rfl rfl rfl rfl (by kernel_rfl) rfl (by kernel_rfl) ?_
  intro w6 kb6 o6 B6 s6
  conv => arg 5;simp [Act.put]
  have kf6:=o6 w.heap.size zF (by omega) kb5
  have hw6 : Below w.heap.size w w6:=B6 _ _ (by omega) hw5
  clear o6 B6 s6 kb5 kf5 hw5
  go_wp2
  refine ret_row2 2 3 29 32 _ _ kf6 kb6 rfl rfl Tryd.underlying29 rfl (by kernel_rfl) rfl Tryd.underlying32 rfl (by kernel_rfl) rfl ⟨rfl,hw6⟩
set_option maxRecDepth 100000 in
set_option maxHeartbeats 1600000 in
theorem fdec_short (s : ByteArray) (h : s.size < 3) (w : World) : Calls Tryd.prog 11 #[.string s] w fun e w' => e = .returned (.tuple #[.agg zF,.agg #[.int .i64 11,.int .i64 s.size]]) ∧ Below w.heap.size w w':=by
  have t1 : decide ((1200 : Int) < s.size) = false:=decide_eq_false (by omega)
  have t2 : decide ((s.size : Int) < 3) = true:=decide_eq_true (by omega)
  go_enter Tryd.func11,Tryd.ntmps11
  go_upto_region 4 with fail
  refine wp_region_tail0 4 ?_
  intro W0 hE hN
  have kz0 : blk W0 w.heap.size = some zF:=(by rw [hE.out];(apply jt;(focus repeat(first|(with_reducible first|assumption|apply jd|apply js)|((with_reducible apply jo);first|focus(dsimp only;assumption)|focus(simp;done)|focus(dsimp only;omega))|((with_reducible apply jn);first|with_reducible rfl|focus(simp;done)|focus(simp;omega))|(with_reducible apply ja)|((with_reducible apply jb);with_reducible assumption)));rfl))
  have kf0 : blk W0 (w.heap.size + 1) = some #[.int .i64 0,.int .i64 0]:=(by rw [hE.out];(apply jt;(focus repeat(first|(with_reducible first|assumption|apply jd|apply js)|((with_reducible apply jo);first|focus(dsimp only;assumption)|focus(simp;done)|focus(dsimp only;omega))|((with_reducible apply jn);first|with_reducible rfl|focus(simp;done)|focus(simp;omega))|(with_reducible apply ja)|((with_reducible apply jb);with_reducible assumption)));rfl))
  have hw0 : Below w.heap.size w W0:=(by rw [hE.out];(repeat(first|(with_reducible first|assumption|exact Below.refl _ _|refine je ?_|refine jl ?_)|((with_reducible refine jp ?_ ?_);first|focus(dsimp only;assumption)|focus(simp;done)|focus(dsimp only;omega))|(with_reducible refine bt ?_ (by assumption)))))
  clear hE
  simp only [List.take_succ_cons,List.take_zero,List.drop_succ_cons,List.drop_zero]
  refine wpQuiet_build_is 29 #[] zF rfl rfl (by kernel_rfl) ?_
  conv => arg 6;simp [Act.put]
  repeat (go_big_quiet_step (fail))
  refine wpQuiet_nil ?_
  rintro _ ⟨x,rfl⟩
  have kz1:=blk_below x.ok kz0
  have kf1:=blk_below x.ok kf0
  have hw1 : Below w.heap.size w x.wd:=hw0.trans (x.ok.mono hw0.size)
  clear kz0 kf0 hw0
  refine wpList_store_blk 29 (.tmp 2) (.tmp 20) w.heap.size zF zF kz1 rfl rfl rfl rfl (by kernel_rfl) rfl (by kernel_rfl) ?_
  intro w5 kb5 o5 B5 s5
  conv => arg 5;simp [Act.put]
  have kf5:=o5 (w.heap.size + 1) #[.int .i64 0,.int .i64 0] (by omega) kf1
  have hw5 : Below w.heap.size w w5:=B5 _ _ (Nat.le_refl _) hw1
  clear o5 B5 s5
  refine wpList_store_blk 32 (.tmp 3) (.tmp 23) (w.heap.size + 1) #[.int .i64 0,.int .i64 0] #[.int .i64 11,.int .i64 s.size] kf5 rfl rfl rfl rfl (by kernel_rfl) rfl (by kernel_rfl) ?_
  intro w6 kb6 o6 B6 s6
  conv => arg 5;simp [Act.put]
  have kf6:=o6 w.heap.size zF (by omega) kb5
  have hw6 : Below w.heap.size w w6:=B6 _ _ (by omega) hw5
  clear o6 B6 s6 kb5 kf5 hw5
  go_wp2
  refine ret_row2 2 3 29 32 _ _ kf6 kb6 rfl rfl Tryd.underlying29 rfl (by kernel_rfl) rfl Tryd.underlying32 rfl (by kernel_rfl) rfl ⟨rfl,hw6⟩
set_option maxRecDepth 100000 in
set_option maxHeartbeats 1600000 in
theorem fdec_sum (s : ByteArray) (n : Nat) (hn : s.size = n + 2) (h1 : 1 ≤ n) (h2 : s.size ≤ 1200) (h : sealedS s.data.toList n = false) (w : World) : Calls Tryd.prog 11 #[.string s] w fun e w' => e = .returned (.tuple #[.agg zF,.agg #[.int .i64 10,.int .i64 n]]) ∧ Below w.heap.size w w':=by
  have t1 : decide ((1200 : Int) < s.size) = false:=decide_eq_false (by omega)
  have t2 : decide ((s.size : Int) < 3) = false:=decide_eq_false (by omega)
  have g:=Lib.hid (fun w => open16_bad s n hn (by omega) h w)
  clear h
  go_enter Tryd.func11,Tryd.ntmps11
  go_upto_region 7 with (go_at_call 24;(with_reducible refine (g.out _).mono ?_);rintro e w1 ⟨rfl,h1⟩)
  refine wp_region_tail0 5 ?_
  intro W0 hE hN
  have kz0 : blk W0 w.heap.size = some zF:=(by rw [hE.out];(apply jt;(focus repeat(first|(with_reducible first|assumption|apply jd|apply js)|((with_reducible apply jo);first|focus(dsimp only;assumption)|focus(simp;done)|focus(dsimp only;omega))|((with_reducible apply jn);first|with_reducible rfl|focus(simp;done)|focus(simp;omega))|(with_reducible apply ja)|((with_reducible apply jb);with_reducible assumption)));rfl))
  have kf0 : blk W0 (w.heap.size + 1) = some #[.int .i64 0,.int .i64 0]:=(by rw [hE.out];(apply jt;(focus repeat(first|(with_reducible first|assumption|apply jd|apply js)|((with_reducible apply jo);first|focus(dsimp only;assumption)|focus(simp;done)|focus(dsimp only;omega))|((with_reducible apply jn);first|with_reducible rfl|focus(simp;done)|focus(simp;omega))|(with_reducible apply ja)|((with_reducible apply jb);with_reducible assumption)));rfl))
  have hw0 : Below w.heap.size w W0:=(by rw [hE.out];(repeat(first|(with_reducible first|assumption|exact Below.refl _ _|refine je ?_|refine jl ?_)|((with_reducible refine jp ?_ ?_);first|focus(dsimp only;assumption)|focus(simp;done)|focus(dsimp only;omega))|(with_reducible refine bt ?_ (by assumption)))))
  clear hE
  simp only [List.take_succ_cons,List.take_zero,List.drop_succ_cons,List.drop_zero]
  refine wpQuiet_build_is 29 #[] zF rfl rfl (by kernel_rfl) ?_
  conv => arg 6;simp [Act.put]
  repeat (go_big_quiet_step (fail))
  refine wpQuiet_nil ?_
  rintro _ ⟨x,rfl⟩
  have kz1:=blk_below x.ok kz0
  have kf1:=blk_below x.ok kf0
  have hw1 : Below w.heap.size w x.wd:=hw0.trans (x.ok.mono hw0.size)
  clear kz0 kf0 hw0
  refine wpList_store_blk 29 (.tmp 2) (.tmp 31) w.heap.size zF zF kz1 rfl rfl rfl rfl (by kernel_rfl) rfl (by kernel_rfl) ?_
  intro w5 kb5 o5 B5 s5
  conv => arg 5;simp [Act.put]
  have kf5:=o5 (w.heap.size + 1) #[.int .i64 0,.int .i64 0] (by omega) kf1
  have hw5 : Below w.heap.size w w5:=B5 _ _ (Nat.le_refl _) hw1
  clear o5 B5 s5
  refine wpList_store_blk 32 (.tmp 3) (.tmp 35) (w.heap.size + 1) #[.int .i64 0,.int .i64 0] #[.int .i64 10,.int .i64 n] kf5 rfl rfl rfl rfl (by kernel_rfl) rfl (by kernel_rfl) ?_
  intro w6 kb6 o6 B6 s6
  conv => arg 5;simp [Act.put]
  have kf6:=o6 w.heap.size zF (by omega) kb5
  have hw6 : Below w.heap.size w w6:=B6 _ _ (by omega) hw5
  clear o6 B6 s6 kb5 kf5 hw5
  go_wp2
  refine ret_row2 2 3 29 32 _ _ kf6 kb6 rfl rfl Tryd.underlying29 rfl (by kernel_rfl) rfl Tryd.underlying32 rfl (by kernel_rfl) rfl ⟨rfl,hw6⟩
end Go.Proofs.YtaiofjffoboicaaDoor
namespace Go.Proofs.YtaiofjffoboicaaDoor
open Go.RowKit
set_option maxRecDepth 100000 in
set_option maxHeartbeats 1600000 in
theorem fdec_kind (s : ByteArray) (n : Nat) (hn : s.size = n + 2) (h1 : 1 ≤ n) (h2 : s.size ≤ 1200) (h : sealedS s.data.toList n = true) (k : Nat) (w : World) (B : ByteArray) (hB : s.extract 0 n = B) (hBs : 0 < B.size) (hk0 : (B[0]).toNat = k) (hk : ¬ (1 ≤ (k : Int) ∧ (k : Int) ≤ 7)) (hk2 : k < 256) :
    Calls Tryd.prog 11 #[.string s] w fun e w' => e = .returned (.tuple #[.agg zF,.agg #[.int .i64 7,.int .i64 0]]) ∧ Below w.heap.size w w':=by
  have t1 : decide ((1200 : Int) < s.size) = false:=decide_eq_false (by omega)
  have t2 : decide ((s.size : Int) < 3) = false:=decide_eq_false (by omega)
  have g:=fun w => open16_ok s n hn (by omega) h w
  rw [hB] at g
  replace g:=Lib.hid g
  clear h hB
  have Hn:=Lib.hid hn;clear hn
  go_enter Tryd.func11,Tryd.ntmps11
  go_upto_region 8 with (go_at_call 24;(with_reducible refine (g.out _).mono ?_);rintro e w1 ⟨rfl,h1⟩)
  refine wp_region_tail0 3 ?_
  intro W0 hE hN
  have kz0 : blk W0 w.heap.size = some zF:=(by rw [hE.out];(apply jt;(focus repeat(first|(with_reducible first|assumption|apply jd|apply js)|((with_reducible apply jo);first|focus(dsimp only;assumption)|focus(simp;done)|focus(dsimp only;omega))|((with_reducible apply jn);first|with_reducible rfl|focus(simp;done)|focus(simp;omega))|(with_reducible apply ja)|((with_reducible apply jb);with_reducible assumption)));rfl))
  have kf0 : blk W0 (w.heap.size + 1) = some #[.int .i64 0,.int .i64 0]:=(by rw [hE.out];(apply jt;(focus repeat(first|(with_reducible first|assumption|apply jd|apply js)|((with_reducible apply jo);first|focus(dsimp only;assumption)|focus(simp;done)|focus(dsimp only;omega))|((with_reducible apply jn);first|with_reducible rfl|focus(simp;done)|focus(simp;omega))|(with_reducible apply ja)|((with_reducible apply jb);with_reducible assumption)));rfl))
  have hw0 : Below w.heap.size w W0:=(by rw [hE.out];(repeat(first|(with_reducible first|assumption|exact Below.refl _ _|refine je ?_|refine jl ?_)|((with_reducible refine jp ?_ ?_);first|focus(dsimp only;assumption)|focus(simp;done)|focus(dsimp only;omega))|(with_reducible refine bt ?_ (by assumption)))))
  clear hE
  simp only [List.take_succ_cons,List.take_zero,List.drop_succ_cons,List.drop_zero]
  repeat (go_big_quiet_step (fail))
  refine wpQuiet_nil ?_
  rintro _ ⟨x,rfl⟩
  have kz1:=blk_below x.ok kz0
  have kf1:=blk_below x.ok kf0
  have hw1 : Below w.heap.size w x.wd:=hw0.trans (x.ok.mono hw0.size)
  clear kz0 kf0 hw0 h1 hN
  obtain ⟨w2,hw2⟩ : ∃ w2,w2 = x.wd:=⟨_,rfl⟩
  rw [← hw2] at kz1 kf1 hw1 ⊢
  clear hw2 x
  refine wpList_build_is 29 _ #[.int .i64 k,.int .i64 0,.int .i64 0,.int .u64 0,.int .u64 0,.int .u64 0,.int .u64 0,.int .i64 0,.int .u64 0,.int .i64 0,.int .i64 0,.int .u64 0,.int .i64 0,.int .i64 0,.int .i64 0,.int .i64 0,.int .i64 0,.int .i64 0,.string ⟨#[]⟩] rfl rfl (by kernel_rfl) ?_
  conv => arg 5;simp [Act.put]
  refine Go.Great.wpList_allocTo rfl (some 6) rfl (.pointer (some ⟨w2.heap.size,0,none⟩)) (.cells zF 29) (by kernel_rfl) ?_
  conv => arg 5;simp [Act.put]
  refine wpList_store_blk 29 (.tmp 6) (.tmp 39) w2.heap.size zF #[.int .i64 k,.int .i64 0,.int .i64 0,.int .u64 0,.int .u64 0,.int .u64 0,.int .u64 0,.int .i64 0,.int .u64 0,.int .i64 0,.int .i64 0,.int .u64 0,.int .i64 0,.int .i64 0,.int .i64 0,.int .i64 0,.int .i64 0,.int .i64 0,.string ⟨#[]⟩] (blk_alloc_new _ _ _ rfl) rfl rfl rfl rfl (by kernel_rfl) rfl (by kernel_rfl) ?_
  intro w3 k3 o3 B3 s3
  conv => arg 5;simp [Act.put]
  have kz3:=o3 w.heap.size zF (by have:=blk_lt kz1;omega) (blk_alloc kz1 _)
  have kf3:=o3 (w.heap.size + 1) #[.int .i64 0,.int .i64 0] (by have:=blk_lt kf1;omega) (blk_alloc kf1 _)
  have hw3 : Below w.heap.size w w3:=B3 _ _ hw1.size (hw1.alloc hw1.size _)
  have hs3:=s3
  clear o3 B3 kz1 kf1 hw1
  have nk:=kn k3
  have gu:=Lib.hid (fun w => uses_no k hk w)
  go_upto_region 11 with (go_at_call 25;(with_reducible refine (gu.out _).mono ?_);rintro e w4 ⟨rfl,h4⟩)
  have kz4:=blk_below h4 kz3
  have kf4:=blk_below h4 kf3
  have hw4 : Below w.heap.size w w4:=hw3.trans (h4.mono hw3.size)
  clear h4 kz3 kf3 hw3 s3 hs3 nk k3
  refine wp_region_tail0 2 ?_
  intro W1 hE hN
  have kz5 : blk W1 w.heap.size = some zF:=(by rw [hE.out];(apply jt;(focus repeat(first|(with_reducible first|assumption|apply jd|apply js)|((with_reducible apply jo);first|focus(dsimp only;assumption)|focus(simp;done)|focus(dsimp only;omega))|((with_reducible apply jn);first|with_reducible rfl|focus(simp;done)|focus(simp;omega))|(with_reducible apply ja)|((with_reducible apply jb);with_reducible assumption)));rfl))
  have kf5 : blk W1 (w.heap.size + 1) = some #[.int .i64 0,.int .i64 0]:=(by rw [hE.out];(apply jt;(focus repeat(first|(with_reducible first|assumption|apply jd|apply js)|((with_reducible apply jo);first|focus(dsimp only;assumption)|focus(simp;done)|focus(dsimp only;omega))|((with_reducible apply jn);first|with_reducible rfl|focus(simp;done)|focus(simp;omega))|(with_reducible apply ja)|((with_reducible apply jb);with_reducible assumption)));rfl))
  have hw5 : Below w.heap.size w W1:=(by rw [hE.out];(repeat(first|(with_reducible first|assumption|exact Below.refl _ _|refine je ?_|refine jl ?_)|((with_reducible refine jp ?_ ?_);first|focus(dsimp only;assumption)|focus(simp;done)|focus(dsimp only;omega))|(with_reducible refine bt ?_ (by assumption)))))
  clear hE kz4 kf4 hw4
  simp only [List.take_succ_cons,List.take_zero,List.drop_succ_cons,List.drop_zero]
  refine wpQuiet_build_is 29 #[] zF rfl rfl (by kernel_rfl) ?_
  conv => arg 6;simp [Act.put]
  repeat (go_big_quiet_step (fail))
  refine wpQuiet_nil ?_
  rintro _ ⟨x,rfl⟩
  have kz1:=blk_below x.ok kz5
  have kf1:=blk_below x.ok kf5
  have hw1 : Below w.heap.size w x.wd:=hw5.trans (x.ok.mono hw5.size)
  clear kz5 kf5 hw5
  refine wpList_store_blk 29 (.tmp 2) (.tmp 48) w.heap.size zF zF kz1 rfl rfl rfl rfl (by kernel_rfl) rfl (by kernel_rfl) ?_
  intro w5 kb5 o5 B5 s5
  conv => arg 5;simp [Act.put]
  have kf5:=o5 (w.heap.size + 1) #[.int .i64 0,.int .i64 0] (by omega) kf1
  have hw5 : Below w.heap.size w w5:=B5 _ _ (Nat.le_refl _) hw1
  clear o5 B5 s5
  refine wpList_store_blk 32 (.tmp 3) (.tmp 49) (w.heap.size + 1) #[.int .i64 0,.int .i64 0] #[.int .i64 7,.int .i64 0] kf5 rfl rfl rfl rfl (by kernel_rfl) rfl (by kernel_rfl) ?_
  intro w6 kb6 o6 B6 s6
  conv => arg 5;simp [Act.put]
  have kf6:=o6 w.heap.size zF (by omega) kb5
  have hw6 : Below w.heap.size w w6:=B6 _ _ (by omega) hw5
  clear o6 B6 s6 kb5 kf5 hw5
  go_wp2
  refine ret_row2 2 3 29 32 _ _ kf6 kb6 rfl rfl Tryd.underlying29 rfl (by kernel_rfl) rfl Tryd.underlying32 rfl (by kernel_rfl) rfl ⟨rfl,hw6⟩
end Go.Proofs.YtaiofjffoboicaaDoor
namespace Go.Proofs.YtaiofjffoboicaaDoor
open Go.RowKit
theorem pos3 {s : ByteArray} {A Bb : Bool} {r : Rs} {v8 p8 e8 f8 v9 p9 e9 f9 v10 p10 e10 f10 : Int} (h8 : rdU true s.data.toList r = (v8,⟨p8,e8,f8⟩)) (h9 : rdU A s.data.toList ⟨p8,e8,f8⟩ = (v9,⟨p9,e9,f9⟩)) (h10 : rdU Bb s.data.toList ⟨p9,e9,f9⟩ = (v10,⟨p10,e10,f10⟩)) : e10 = 0 → 0 ≤ p10 ∧ p10 ≤ s.size:=by
  intro h
  have q8 : e8 = 0 → ∃ i : Nat,p8 = (i : Int) ∧ i ≤ s.data.toList.length:=fun h' => by
    have:=rdN_pos s.data.toList r (by rw [show rdN s.data.toList r = _ from h8];exact h')
    rwa [show rdN s.data.toList r = _ from h8] at this
  have q9 : e9 = 0 → ∃ i : Nat,p9 = (i : Int) ∧ i ≤ s.data.toList.length:=fun h' => by
    have:=rdU_pos A s.data.toList ⟨p8,e8,f8⟩ q8 (by rw [h9];exact h')
    rwa [h9] at this
  have:=rdU_pos Bb s.data.toList ⟨p9,e9,f9⟩ q9 (by rw [h10];exact h)
  rw [h10] at this
  obtain ⟨i,hi,hl⟩:=this
  have hs : s.data.toList.length = s.size:=by simp
  simp only at hi
  omega
set_option maxRecDepth 100000 in
set_option maxHeartbeats 1600000 in
theorem fdec_known (s : ByteArray) (n : Nat) (hn : s.size = n + 2) (h1 : 1 ≤ n) (h2 : s.size ≤ 1200) (h : sealedS s.data.toList n = true) (k : Nat) (w : World) (B : ByteArray) (hB : s.extract 0 n = B) (hBs : 0 < B.size) (hBm0 : B.size ≤ 1200) (hk0 : (B[0]).toNat = k) (hk : 1 ≤ (k : Int) ∧ (k : Int) ≤ 7) (hk2 : k < 256) (hH : HTab w) (hT : STab w) :
    Calls Tryd.prog 11 #[.string s] w fun e w' => e = .returned (fdcV (endF B.data.toList (readF wrapI k B.data.toList))) ∧ Below w.heap.size w w':=by
  obtain ⟨V,hV⟩ : ∃ V,V = fdcV (endF B.data.toList (readF wrapI k B.data.toList)):=⟨_,rfl⟩
  rw [← hV]
  replace hV:=Lib.hid hV
  have t1 : decide ((1200 : Int) < s.size) = false:=decide_eq_false (by omega)
  have t2 : decide ((s.size : Int) < 3) = false:=decide_eq_false (by omega)
  have g:=fun w => open16_ok s n hn (by omega) h w
  rw [hB] at g
  replace g:=Lib.hid g
  clear h hB
  have Hn:=Lib.hid hn;clear hn
  have HH:=Lib.hid hH;have HT:=Lib.hid hT;clear hH hT
  have hBb : B.size ≤ 1000000:=by omega
  go_enter Tryd.func11,Tryd.ntmps11
  go_upto_region 8 with (go_at_call 24;(with_reducible refine (g.out _).mono ?_);rintro e w1 ⟨rfl,h1⟩)
  refine wp_region_tail0 3 ?_
  intro W0 hE hN
  have kz0 : blk W0 w.heap.size = some zF:=(by rw [hE.out];(apply jt;(focus repeat(first|(with_reducible first|assumption|apply jd|apply js)|((with_reducible apply jo);first|focus(dsimp only;assumption)|focus(simp;done)|focus(dsimp only;omega))|((with_reducible apply jn);first|with_reducible rfl|focus(simp;done)|focus(simp;omega))|(with_reducible apply ja)|((with_reducible apply jb);with_reducible assumption)));rfl))
  have kf0 : blk W0 (w.heap.size + 1) = some #[.int .i64 0,.int .i64 0]:=(by rw [hE.out];(apply jt;(focus repeat(first|(with_reducible first|assumption|apply jd|apply js)|((with_reducible apply jo);first|focus(dsimp only;assumption)|focus(simp;done)|focus(dsimp only;omega))|((with_reducible apply jn);first|with_reducible rfl|focus(simp;done)|focus(simp;omega))|(with_reducible apply ja)|((with_reducible apply jb);with_reducible assumption)));rfl))
  have hw0 : Below w.heap.size w W0:=(by rw [hE.out];(repeat(first|(with_reducible first|assumption|exact Below.refl _ _|refine je ?_|refine jl ?_)|((with_reducible refine jp ?_ ?_);first|focus(dsimp only;assumption)|focus(simp;done)|focus(dsimp only;omega))|(with_reducible refine bt ?_ (by assumption)))))
  clear hE
  simp only [List.take_succ_cons,List.take_zero,List.drop_succ_cons,List.drop_zero]
  repeat (go_big_quiet_step (fail))
  refine wpQuiet_nil ?_
  rintro _ ⟨x,rfl⟩
  have kz1:=blk_below x.ok kz0
  have kf1:=blk_below x.ok kf0
  have hw1 : Below w.heap.size w x.wd:=hw0.trans (x.ok.mono hw0.size)
  clear kz0 kf0 hw0 h1 hN
  obtain ⟨w2,hw2⟩ : ∃ w2,w2 = x.wd:=⟨_,rfl⟩
  rw [← hw2] at kz1 kf1 hw1 ⊢
  clear hw2 x
  have hTz : w.heap.size + 2 ≤ w2.heap.size:=by have:=blk_lt kf1;omega
  refine wpList_build_is 29 _ #[.int .i64 k,.int .i64 0,.int .i64 0,.int .u64 0,.int .u64 0,.int .u64 0,.int .u64 0,.int .i64 0,.int .u64 0,.int .i64 0,.int .i64 0,.int .u64 0,.int .i64 0,.int .i64 0,.int .i64 0,.int .i64 0,.int .i64 0,.int .i64 0,.string ⟨#[]⟩] rfl rfl (by kernel_rfl) ?_
  conv => arg 5;simp [Act.put]
  refine Go.Great.wpList_allocTo rfl (some 6) rfl (.pointer (some ⟨w2.heap.size,0,none⟩)) (.cells zF 29) (by kernel_rfl) ?_
  conv => arg 5;simp [Act.put]
  refine wpList_store_blk 29 (.tmp 6) (.tmp 39) w2.heap.size zF #[.int .i64 k,.int .i64 0,.int .i64 0,.int .u64 0,.int .u64 0,.int .u64 0,.int .u64 0,.int .i64 0,.int .u64 0,.int .i64 0,.int .i64 0,.int .u64 0,.int .i64 0,.int .i64 0,.int .i64 0,.int .i64 0,.int .i64 0,.int .i64 0,.string ⟨#[]⟩] (blk_alloc_new _ _ _ rfl) rfl rfl rfl rfl (by kernel_rfl) rfl (by kernel_rfl) ?_
  intro w3 k3 o3 B3 s3
  conv => arg 5;simp [Act.put]
  have kz3:=o3 w.heap.size zF (by have:=blk_lt kz1;omega) (blk_alloc kz1 _)
  have kf3:=o3 (w.heap.size + 1) #[.int .i64 0,.int .i64 0] (by have:=blk_lt kf1;omega) (blk_alloc kf1 _)
  have hw3 : Below w.heap.size w w3:=B3 _ _ hw1.size (hw1.alloc hw1.size _)
  have hs3:=s3
  clear o3 B3 kz1 kf1 hw1
  have nk:=kn k3
  have gu : ∀ w,Calls Tryd.prog 25 #[.int .i64 k] w fun e w' => e = .returned (.tuple #[.agg #[.bool (hasA k),.bool (hasB k),.bool (hasD k),.bool (hasI k)],.bool true]) ∧ Below w.heap.size w w':=fun w => by
    have:=uses_any k w
    have hb : kindB k = true:=decide_eq_true hk
    rwa [show usesV k = .tuple #[.agg #[.bool (hasA k),.bool (hasB k),.bool (hasD k),.bool (hasI k)],.bool true] by unfold usesV;rw [hb];rfl] at this
  replace gu:=Lib.hid gu
  obtain ⟨A,hA⟩ : ∃ A,hasA k = A:=⟨_,rfl⟩
  obtain ⟨Bb,hBq⟩ : ∃ A,hasB k = A:=⟨_,rfl⟩
  obtain ⟨D,hD⟩ : ∃ A,hasD k = A:=⟨_,rfl⟩
  obtain ⟨I,hI⟩ : ∃ A,hasI k = A:=⟨_,rfl⟩
  rw [hA,hBq,hD,hI] at gu
  replace hA:=Lib.hid hA;replace hBq:=Lib.hid hBq;replace hD:=Lib.hid hD;replace hI:=Lib.hid hI
  go_upto_region 13 with (go_at_call 25;(with_reducible refine (gu.out _).mono ?_);rintro e w4 ⟨rfl,h4⟩;have k4:=blk_below h4 k3)
  have hlt2:=blk_lt k4
  have hltz:=blk_lt kz3
  have hltf:=blk_lt kf3
  have hne2 : w2.heap.size ≠ w4.heap.size + 1:=by omega
  have hBm : B.size ≤ maxLen:=by unfold maxLen;omega
  have kz4:=blk_below h4 kz3
  have kf4:=blk_below h4 kf3
  have hw4 : Below w.heap.size w w4:=hw3.trans (h4.mono hw3.size)
  clear h4 kz3 kf3 hw3 s3 hs3 nk k3
  go_wp2_with fail
  refine (cint_any (w4.heap.size + 1) w2.heap.size 1 #[.int .i64 k,.int .i64 0,.int .i64 0,.int .u64 0,.int .u64 0,.int .u64 0,.int .u64 0,.int .i64 0,.int .u64 0,.int .i64 0,.int .i64 0,.int .u64 0,.int .i64 0,.int .i64 0,.int .i64 0,.int .i64 0,.int .i64 0,.int .i64 0,.string ⟨#[]⟩] true B 1 0 0 hBm _ ?kc ?kt hne2 rfl).mono ?_
  case kc => (apply jt;(focus repeat(first|(with_reducible first|assumption|apply jd|apply js)|((with_reducible apply jo);first|focus(dsimp only;assumption)|focus(simp;done)|focus(dsimp only;omega))|((with_reducible apply jn);first|with_reducible rfl|focus(simp;done)|focus(simp;omega))|(with_reducible apply ja)|((with_reducible apply jb);with_reducible assumption)));rfl)
  case kt => (apply jt;(focus repeat(first|(with_reducible first|assumption|apply jd|apply js)|((with_reducible apply jo);first|focus(dsimp only;assumption)|focus(simp;done)|focus(dsimp only;omega))|((with_reducible apply jn);first|with_reducible rfl|focus(simp;done)|focus(simp;omega))|(with_reducible apply ja)|((with_reducible apply jb);with_reducible assumption)));rfl)
  rintro e w5 ⟨rfl,c5,t5,u5⟩
  have kz5 : blk w5 w.heap.size = some zF:=u5.2.1 _ _ (by omega) (by omega) (by (apply jt;(focus repeat(first|(with_reducible first|assumption|apply jd|apply js)|((with_reducible apply jo);first|focus(dsimp only;assumption)|focus(simp;done)|focus(dsimp only;omega))|((with_reducible apply jn);first|with_reducible rfl|focus(simp;done)|focus(simp;omega))|(with_reducible apply ja)|((with_reducible apply jb);with_reducible assumption)));rfl))
  have kf5 : blk w5 (w.heap.size + 1) = some #[.int .i64 0,.int .i64 0]:=u5.2.1 _ _ (by omega) (by omega) (by (apply jt;(focus repeat(first|(with_reducible first|assumption|apply jd|apply js)|((with_reducible apply jo);first|focus(dsimp only;assumption)|focus(simp;done)|focus(dsimp only;omega))|((with_reducible apply jn);first|with_reducible rfl|focus(simp;done)|focus(simp;omega))|(with_reducible apply ja)|((with_reducible apply jb);with_reducible assumption)));rfl))
  have ku5 : blk w5 w4.heap.size = some #[.bool A,.bool Bb,.bool D,.bool I]:=u5.2.1 _ _ (by omega) (by omega) (by (apply jt;(focus repeat(first|(with_reducible first|assumption|apply jd|apply js)|((with_reducible apply jo);first|focus(dsimp only;assumption)|focus(simp;done)|focus(dsimp only;omega))|((with_reducible apply jn);first|with_reducible rfl|focus(simp;done)|focus(simp;omega))|(with_reducible apply ja)|((with_reducible apply jb);with_reducible assumption)));rfl))
  have hw5 : Below w.heap.size w w5:=Below.trans (by (repeat(first|(with_reducible first|assumption|exact Below.refl _ _|refine je ?_|refine jl ?_)|((with_reducible refine jp ?_ ?_);first|focus(dsimp only;assumption)|focus(simp;done)|focus(dsimp only;omega))|(with_reducible refine bt ?_ (by assumption))))) (u5.1.mono (by omega))
  obtain ⟨⟨v5,p5,e5,f5⟩,hx5⟩ : ∃ x,rdU true B.data.toList ⟨1,0,0⟩ = x:=⟨_,rfl⟩
  rw [hx5] at c5 t5
  simp only at c5 t5
  have Hx5:=Lib.hid hx5;clear hx5
  replace t5 : blk w5 w2.heap.size = some #[.int .i64 k,.int .i64 (wrapI v5),.int .i64 0,.int .u64 0,.int .u64 0,.int .u64 0,.int .u64 0,.int .i64 0,.int .u64 0,.int .i64 0,.int .i64 0,.int .u64 0,.int .i64 0,.int .i64 0,.int .i64 0,.int .i64 0,.int .i64 0,.int .i64 0,.string ⟨#[]⟩]:=t5
  clear u5 k4 kz4 kf4 hw4
  go_wp2_with fail
  (with_reducible refine (cint_any (w4.heap.size + 1) w2.heap.size 2 #[.int .i64 k,.int .i64 (wrapI v5),.int .i64 0,.int .u64 0,.int .u64 0,.int .u64 0,.int .u64 0,.int .i64 0,.int .u64 0,.int .i64 0,.int .i64 0,.int .u64 0,.int .i64 0,.int .i64 0,.int .i64 0,.int .i64 0,.int .i64 0,.int .i64 0,.string ⟨#[]⟩] true B p5 e5 f5 hBm _ c5 t5 hne2 rfl).mono ?_)
  rintro e w6 ⟨rfl,c6,t6,u6⟩
  have kz6 : blk w6 w.heap.size = some zF:=u6.2.1 _ _ (by omega) (by omega) kz5
  have kf6 : blk w6 (w.heap.size + 1) = some #[.int .i64 0,.int .i64 0]:=u6.2.1 _ _ (by omega) (by omega) kf5
  have ku6 : blk w6 w4.heap.size = some #[.bool A,.bool Bb,.bool D,.bool I]:=u6.2.1 _ _ (by omega) (by omega) ku5
  have hw6 : Below w.heap.size w w6:=Below.trans hw5 (u6.1.mono (by omega))
  obtain ⟨⟨v6,p6,e6,f6⟩,hx6⟩ : ∃ x,rdU true B.data.toList ⟨p5,e5,f5⟩ = x:=⟨_,rfl⟩
  rw [hx6] at c6 t6
  simp only at c6 t6
  have Hx6:=Lib.hid hx6;clear hx6
  replace t6 : blk w6 w2.heap.size = some #[.int .i64 k,.int .i64 (wrapI v5),.int .i64 (wrapI v6),.int .u64 0,.int .u64 0,.int .u64 0,.int .u64 0,.int .i64 0,.int .u64 0,.int .i64 0,.int .i64 0,.int .u64 0,.int .i64 0,.int .i64 0,.int .i64 0,.int .i64 0,.int .i64 0,.int .i64 0,.string ⟨#[]⟩]:=t6
  clear u6 c5 t5 kz5 kf5 ku5 hw5
  go_wp2_with fail
  (with_reducible refine (cnum_any (w4.heap.size + 1) w2.heap.size 3 #[.int .i64 k,.int .i64 (wrapI v5),.int .i64 (wrapI v6),.int .u64 0,.int .u64 0,.int .u64 0,.int .u64 0,.int .i64 0,.int .u64 0,.int .i64 0,.int .i64 0,.int .u64 0,.int .i64 0,.int .i64 0,.int .i64 0,.int .i64 0,.int .i64 0,.int .i64 0,.string ⟨#[]⟩] true B p6 e6 f6 hBm _ c6 t6 hne2 rfl).mono ?_)
  rintro e w7 ⟨rfl,c7,t7,u7⟩
  have kz7 : blk w7 w.heap.size = some zF:=u7.2.1 _ _ (by omega) (by omega) kz6
  have kf7 : blk w7 (w.heap.size + 1) = some #[.int .i64 0,.int .i64 0]:=u7.2.1 _ _ (by omega) (by omega) kf6
  have ku7 : blk w7 w4.heap.size = some #[.bool A,.bool Bb,.bool D,.bool I]:=u7.2.1 _ _ (by omega) (by omega) ku6
  have hw7 : Below w.heap.size w w7:=Below.trans hw6 (u7.1.mono (by omega))
  obtain ⟨⟨v7,p7,e7,f7⟩,hx7⟩ : ∃ x,rdU true B.data.toList ⟨p6,e6,f6⟩ = x:=⟨_,rfl⟩
  rw [hx7] at c7 t7
  simp only at c7 t7
  have Hx7:=Lib.hid hx7;clear hx7
  replace t7 : blk w7 w2.heap.size = some #[.int .i64 k,.int .i64 (wrapI v5),.int .i64 (wrapI v6),.int .u64 v7,.int .u64 0,.int .u64 0,.int .u64 0,.int .i64 0,.int .u64 0,.int .i64 0,.int .i64 0,.int .u64 0,.int .i64 0,.int .i64 0,.int .i64 0,.int .i64 0,.int .i64 0,.int .i64 0,.string ⟨#[]⟩]:=t7
  clear u7 c6 t6 kz6 kf6 ku6 hw6
  go_wp2_with fail
  (with_reducible refine (cnum_any (w4.heap.size + 1) w2.heap.size 4 #[.int .i64 k,.int .i64 (wrapI v5),.int .i64 (wrapI v6),.int .u64 v7,.int .u64 0,.int .u64 0,.int .u64 0,.int .i64 0,.int .u64 0,.int .i64 0,.int .i64 0,.int .u64 0,.int .i64 0,.int .i64 0,.int .i64 0,.int .i64 0,.int .i64 0,.int .i64 0,.string ⟨#[]⟩] true B p7 e7 f7 hBm _ c7 t7 hne2 rfl).mono ?_)
  rintro e w8 ⟨rfl,c8,t8,u8⟩
  have kz8 : blk w8 w.heap.size = some zF:=u8.2.1 _ _ (by omega) (by omega) kz7
  have kf8 : blk w8 (w.heap.size + 1) = some #[.int .i64 0,.int .i64 0]:=u8.2.1 _ _ (by omega) (by omega) kf7
  have ku8 : blk w8 w4.heap.size = some #[.bool A,.bool Bb,.bool D,.bool I]:=u8.2.1 _ _ (by omega) (by omega) ku7
  have hw8 : Below w.heap.size w w8:=Below.trans hw7 (u8.1.mono (by omega))
  obtain ⟨⟨v8,p8,e8,f8⟩,hx8⟩ : ∃ x,rdU true B.data.toList ⟨p7,e7,f7⟩ = x:=⟨_,rfl⟩
  rw [hx8] at c8 t8
  simp only at c8 t8
  have Hx8:=Lib.hid hx8;clear hx8
  replace t8 : blk w8 w2.heap.size = some #[.int .i64 k,.int .i64 (wrapI v5),.int .i64 (wrapI v6),.int .u64 v7,.int .u64 v8,.int .u64 0,.int .u64 0,.int .i64 0,.int .u64 0,.int .i64 0,.int .i64 0,.int .u64 0,.int .i64 0,.int .i64 0,.int .i64 0,.int .i64 0,.int .i64 0,.int .i64 0,.string ⟨#[]⟩]:=t8
  clear u8 c7 t7 kz7 kf7 ku7 hw7
  go_upto_region 14 with fail
  go_region_held3 (fun W => ∀ o,W.cell? ⟨w4.heap.size,o,none⟩ = (#[.bool A,.bool Bb,.bool D,.bool I] : Array Value)[o]?) (exact fun o => blk_cell (by assumption) o) (first|(go_at_call 27;(with_reducible refine (cnum_any (w4.heap.size + 1) w2.heap.size 5 #[.int .i64 k,.int .i64 (wrapI v5),.int .i64 (wrapI v6),.int .u64 v7,.int .u64 v8,.int .u64 0,.int .u64 0,.int .i64 0,.int .u64 0,.int .i64 0,.int .i64 0,.int .u64 0,.int .i64 0,.int .i64 0,.int .i64 0,.int .i64 0,.int .i64 0,.int .i64 0,.string ⟨#[]⟩] A B p8 e8 f8 hBm _ (blk_drew c8) (blk_drew t8) hne2 rfl).mono ?_);rintro e w9 ⟨rfl,c9,t9,u9⟩;have kz9 : blk w9 w.heap.size = some zF:=u9.2.1 _ _ (by omega) (by omega) (blk_drew kz8);have kf9 : blk w9 (w.heap.size + 1) = some #[.int .i64 0,.int .i64 0]:=u9.2.1 _ _ (by omega) (by omega) (blk_drew kf8);have ku9 : blk w9 w4.heap.size = some #[.bool A,.bool Bb,.bool D,.bool I]:=u9.2.1 _ _ (by omega) (by omega) (blk_drew ku8);have hw9 : Below w.heap.size w w9:=Below.trans hw8.drew (u9.1.mono (by omega));obtain ⟨⟨v9,p9,e9,f9⟩,hx9⟩ : ∃ x,rdU A B.data.toList ⟨p8,e8,f8⟩ = x:=⟨_,rfl⟩;rw [hx9] at c9 t9;simp only at c9 t9;have Hx9:=Lib.hid hx9;clear hx9;replace t9 : blk w9 w2.heap.size = some #[.int .i64 k,.int .i64 (wrapI v5),.int .i64 (wrapI v6),.int .u64 v7,.int .u64 v8,.int .u64 v9,.int .u64 0,.int .i64 0,.int .u64 0,.int .i64 0,.int .i64 0,.int .u64 0,.int .i64 0,.int .i64 0,.int .i64 0,.int .i64 0,.int .i64 0,.int .i64 0,.string ⟨#[]⟩]:=t9;clear u9 c8 t8 kz8 kf8 ku8 hw8)|(go_at_call 27;(with_reducible refine (cnum_any (w4.heap.size + 1) w2.heap.size 6 #[.int .i64 k,.int .i64 (wrapI v5),.int .i64 (wrapI v6),.int .u64 v7,.int .u64 v8,.int .u64 v9,.int .u64 0,.int .i64 0,.int .u64 0,.int .i64 0,.int .i64 0,.int .u64 0,.int .i64 0,.int .i64 0,.int .i64 0,.int .i64 0,.int .i64 0,.int .i64 0,.string ⟨#[]⟩] Bb B p9 e9 f9 hBm _ c9 t9 hne2 rfl).mono ?_);rintro e w10 ⟨rfl,c10,t10,u10⟩;have kz10 : blk w10 w.heap.size = some zF:=u10.2.1 _ _ (by omega) (by omega) kz9;have kf10 : blk w10 (w.heap.size + 1) = some #[.int .i64 0,.int .i64 0]:=u10.2.1 _ _ (by omega) (by omega) kf9;have ku10 : blk w10 w4.heap.size = some #[.bool A,.bool Bb,.bool D,.bool I]:=u10.2.1 _ _ (by omega) (by omega) ku9;have hw10 : Below w.heap.size w w10:=Below.trans hw9 (u10.1.mono (by omega));obtain ⟨⟨v10,p10,e10,f10⟩,hx10⟩ : ∃ x,rdU Bb B.data.toList ⟨p9,e9,f9⟩ = x:=⟨_,rfl⟩;rw [hx10] at c10 t10;simp only at c10 t10;have Hx10:=Lib.hid hx10;clear hx10;replace t10 : blk w10 w2.heap.size = some #[.int .i64 k,.int .i64 (wrapI v5),.int .i64 (wrapI v6),.int .u64 v7,.int .u64 v8,.int .u64 v9,.int .u64 v10,.int .i64 0,.int .u64 0,.int .i64 0,.int .i64 0,.int .u64 0,.int .i64 0,.int .i64 0,.int .i64 0,.int .i64 0,.int .i64 0,.int .i64 0,.string ⟨#[]⟩]:=t10;clear u10 c9 t9 kz9 kf9 ku9 hw9)|(go_at_call 28;(with_reducible refine (cbun_any (w4.heap.size + 1) w2.heap.size (.int .i64 k) (.int .i64 (wrapI v5)) (.int .i64 (wrapI v6)) (.int .u64 v7) (.int .u64 v8) (.int .u64 v9) (.int .u64 v10) (.int .i64 0) (.int .u64 0) (.int .i64 0) D B p10 e10 f10 hBb (pos3 Hx8.out Hx9.out Hx10.out) w _ HH.out HT.out hw10 (by omega) (by omega) c10 t10 hne2).mono ?_);rintro e w11 ⟨rfl,c11,t11,u11⟩;have kz11 : blk w11 w.heap.size = some zF:=u11.2.1 _ _ (by omega) (by omega) kz10;have kf11 : blk w11 (w.heap.size + 1) = some #[.int .i64 0,.int .i64 0]:=u11.2.1 _ _ (by omega) (by omega) kf10;have ku11 : blk w11 w4.heap.size = some #[.bool A,.bool Bb,.bool D,.bool I]:=u11.2.1 _ _ (by omega) (by omega) ku10;have hw11 : Below w.heap.size w w11:=Below.trans hw10 (u11.1.mono (by omega));obtain ⟨⟨v11,p11,e11,f11⟩,hx11⟩ : ∃ x,rdV D B.data.toList ⟨p10,e10,f10⟩ = x:=⟨_,rfl⟩;rw [hx11] at c11 t11;simp only at c11 t11;have Hx11:=Lib.hid hx11;clear hx11;replace t11 : blk w11 w2.heap.size = some #[.int .i64 k,.int .i64 (wrapI v5),.int .i64 (wrapI v6),.int .u64 v7,.int .u64 v8,.int .u64 v9,.int .u64 v10,.int .i64 0,.int .u64 0,.int .i64 0,.int .i64 v11.no,.int .u64 v11.sq,.int .i64 v11.of,.int .i64 v11.de,.int .i64 v11.pr,.int .i64 v11.bo,.int .i64 v11.li,.int .i64 v11.to,.string ⟨v11.da.toArray⟩]:=t11;clear u11 c10 t10 kz10 kf10 ku10 hw10))
  go_upto_region 15 with fail
  go_region_held3 (fun W => ∀ o,W.cell? ⟨w4.heap.size,o,none⟩ = (#[.bool A,.bool Bb,.bool D,.bool I] : Array Value)[o]?) (exact fun o => blk_cell (by assumption) o) (first|(go_at_call 26;(with_reducible refine (cint_any (w4.heap.size + 1) w2.heap.size 7 #[.int .i64 k,.int .i64 (wrapI v5),.int .i64 (wrapI v6),.int .u64 v7,.int .u64 v8,.int .u64 v9,.int .u64 v10,.int .i64 0,.int .u64 0,.int .i64 0,.int .i64 v11.no,.int .u64 v11.sq,.int .i64 v11.of,.int .i64 v11.de,.int .i64 v11.pr,.int .i64 v11.bo,.int .i64 v11.li,.int .i64 v11.to,.string ⟨v11.da.toArray⟩] I B p11 e11 f11 hBm _ (blk_drew c11) (blk_drew t11) hne2 rfl).mono ?_);rintro e w12 ⟨rfl,c12,t12,u12⟩;have kz12 : blk w12 w.heap.size = some zF:=u12.2.1 _ _ (by omega) (by omega) (blk_drew kz11);have kf12 : blk w12 (w.heap.size + 1) = some #[.int .i64 0,.int .i64 0]:=u12.2.1 _ _ (by omega) (by omega) (blk_drew kf11);have ku12 : blk w12 w4.heap.size = some #[.bool A,.bool Bb,.bool D,.bool I]:=u12.2.1 _ _ (by omega) (by omega) (blk_drew ku11);have hw12 : Below w.heap.size w w12:=Below.trans hw11.drew (u12.1.mono (by omega));obtain ⟨⟨v12,p12,e12,f12⟩,hx12⟩ : ∃ x,rdU I B.data.toList ⟨p11,e11,f11⟩ = x:=⟨_,rfl⟩;rw [hx12] at c12 t12;simp only at c12 t12;have Hx12:=Lib.hid hx12;clear hx12;replace t12 : blk w12 w2.heap.size = some #[.int .i64 k,.int .i64 (wrapI v5),.int .i64 (wrapI v6),.int .u64 v7,.int .u64 v8,.int .u64 v9,.int .u64 v10,.int .i64 (wrapI v12),.int .u64 0,.int .i64 0,.int .i64 v11.no,.int .u64 v11.sq,.int .i64 v11.of,.int .i64 v11.de,.int .i64 v11.pr,.int .i64 v11.bo,.int .i64 v11.li,.int .i64 v11.to,.string ⟨v11.da.toArray⟩]:=t12;clear u12 c11 t11 kz11 kf11 ku11 hw11)|(go_at_call 27;(with_reducible refine (cnum_any (w4.heap.size + 1) w2.heap.size 8 #[.int .i64 k,.int .i64 (wrapI v5),.int .i64 (wrapI v6),.int .u64 v7,.int .u64 v8,.int .u64 v9,.int .u64 v10,.int .i64 (wrapI v12),.int .u64 0,.int .i64 0,.int .i64 v11.no,.int .u64 v11.sq,.int .i64 v11.of,.int .i64 v11.de,.int .i64 v11.pr,.int .i64 v11.bo,.int .i64 v11.li,.int .i64 v11.to,.string ⟨v11.da.toArray⟩] I B p12 e12 f12 hBm _ c12 t12 hne2 rfl).mono ?_);rintro e w13 ⟨rfl,c13,t13,u13⟩;have kz13 : blk w13 w.heap.size = some zF:=u13.2.1 _ _ (by omega) (by omega) kz12;have kf13 : blk w13 (w.heap.size + 1) = some #[.int .i64 0,.int .i64 0]:=u13.2.1 _ _ (by omega) (by omega) kf12;have ku13 : blk w13 w4.heap.size = some #[.bool A,.bool Bb,.bool D,.bool I]:=u13.2.1 _ _ (by omega) (by omega) ku12;have hw13 : Below w.heap.size w w13:=Below.trans hw12 (u13.1.mono (by omega));obtain ⟨⟨v13,p13,e13,f13⟩,hx13⟩ : ∃ x,rdU I B.data.toList ⟨p12,e12,f12⟩ = x:=⟨_,rfl⟩;rw [hx13] at c13 t13;simp only at c13 t13;have Hx13:=Lib.hid hx13;clear hx13;replace t13 : blk w13 w2.heap.size = some #[.int .i64 k,.int .i64 (wrapI v5),.int .i64 (wrapI v6),.int .u64 v7,.int .u64 v8,.int .u64 v9,.int .u64 v10,.int .i64 (wrapI v12),.int .u64 v13,.int .i64 0,.int .i64 v11.no,.int .u64 v11.sq,.int .i64 v11.of,.int .i64 v11.de,.int .i64 v11.pr,.int .i64 v11.bo,.int .i64 v11.li,.int .i64 v11.to,.string ⟨v11.da.toArray⟩]:=t13;clear u13 c12 t12 kz12 kf12 ku12 hw12)|(go_at_call 26;(with_reducible refine (cint_any (w4.heap.size + 1) w2.heap.size 9 #[.int .i64 k,.int .i64 (wrapI v5),.int .i64 (wrapI v6),.int .u64 v7,.int .u64 v8,.int .u64 v9,.int .u64 v10,.int .i64 (wrapI v12),.int .u64 v13,.int .i64 0,.int .i64 v11.no,.int .u64 v11.sq,.int .i64 v11.of,.int .i64 v11.de,.int .i64 v11.pr,.int .i64 v11.bo,.int .i64 v11.li,.int .i64 v11.to,.string ⟨v11.da.toArray⟩] I B p13 e13 f13 hBm _ c13 t13 hne2 rfl).mono ?_);rintro e w14 ⟨rfl,c14,t14,u14⟩;have kz14 : blk w14 w.heap.size = some zF:=u14.2.1 _ _ (by omega) (by omega) kz13;have kf14 : blk w14 (w.heap.size + 1) = some #[.int .i64 0,.int .i64 0]:=u14.2.1 _ _ (by omega) (by omega) kf13;have ku14 : blk w14 w4.heap.size = some #[.bool A,.bool Bb,.bool D,.bool I]:=u14.2.1 _ _ (by omega) (by omega) ku13;have hw14 : Below w.heap.size w w14:=Below.trans hw13 (u14.1.mono (by omega));obtain ⟨⟨v14,p14,e14,f14⟩,hx14⟩ : ∃ x,rdU I B.data.toList ⟨p13,e13,f13⟩ = x:=⟨_,rfl⟩;rw [hx14] at c14 t14;simp only at c14 t14;have Hx14:=Lib.hid hx14;clear hx14;replace t14 : blk w14 w2.heap.size = some #[.int .i64 k,.int .i64 (wrapI v5),.int .i64 (wrapI v6),.int .u64 v7,.int .u64 v8,.int .u64 v9,.int .u64 v10,.int .i64 (wrapI v12),.int .u64 v13,.int .i64 (wrapI v14),.int .i64 v11.no,.int .u64 v11.sq,.int .i64 v11.of,.int .i64 v11.de,.int .i64 v11.pr,.int .i64 v11.bo,.int .i64 v11.li,.int .i64 v11.to,.string ⟨v11.da.toArray⟩]:=t14;clear u14 c13 t13 kz13 kf13 ku13 hw13))
  obtain ⟨F,hF⟩ : ∃ F : Fr,F = ⟨k,wrapI v5,wrapI v6,v7,v8,v9,v10,wrapI v12,v13,wrapI v14,v11.no,v11.sq,v11.of,v11.de,v11.pr,v11.bo,v11.li,v11.to,⟨v11.da.toArray⟩⟩:=⟨_,rfl⟩
  have tF : blk w14 w2.heap.size = some #[.int .i64 F.k,.int .i64 F.fr,.int .i64 F.to_,.int .u64 F.mi,.int .u64 F.yo,.int .u64 F.a,.int .u64 F.b,.int .i64 F.ino,.int .u64 F.isq,.int .i64 F.iof,.int .i64 F.bno,.int .u64 F.bsq,.int .i64 F.bof,.int .i64 F.bde,.int .i64 F.bpr,.int .i64 F.bbo,.int .i64 F.bli,.int .i64 F.bto,.string F.da]:=(by rw [hF];exact t14)
  have hR:=readF_eq hA.out hBq.out hD.out hI.out Hx5.out Hx6.out Hx7.out Hx8.out Hx9.out Hx10.out Hx11.out Hx12.out Hx13.out Hx14.out
  rw [← hF] at hR
  have hFb : 0 ≤ F.b:=(by rw [hF];have:=rdU_bd Bb B.data.toList ⟨p9,e9,f9⟩;rw [Hx10.out] at this;exact this.1)
  have hFd : F.da.size ≤ maxLen:=(by
    rw [hF]
    have:=rdV_da D B.data.toList ⟨p10,e10,f10⟩
    rw [Hx11.out] at this
    have h9 : (⟨v11.da.toArray⟩ : ByteArray).size = v11.da.length:=bsize _
    have h8 : B.data.toList.length = B.size:=by simp
    show (⟨v11.da.toArray⟩ : ByteArray).size ≤ maxLen
    rw [h9]
    simp only at this
    omega)
  clear hF t14 Hx5 Hx6 Hx7 Hx8 Hx9 Hx10 Hx11 Hx12 Hx13 Hx14 ku14 gu
  replace hR:=Lib.hid hR
  have gc:=Lib.hid (fun w => fcheck_any F hFd hFb w)
  clear hFd hFb
  obtain ⟨c0,hc0⟩ : ∃ c,frC F = c:=⟨_,rfl⟩
  rw [hc0] at gc
  replace hc0:=Lib.hid hc0
  have hl : (B.data.toList.length : Int) = B.size:=by simp
  replace hl:=Lib.hid hl
  have kn14:=kn c14
  by_cases hp : p14 < (B.size : Int)
  · have tp : decide (p14 < (B.size : Int)) = true:=decide_eq_true hp
    have hp':=Lib.hid hp;clear hp
    go_wp2_with fail
    (with_reducible refine (cfail_any (w4.heap.size + 1) B p14 e14 f14 3 p14 _ c14).mono ?_)
    rintro e w15 ⟨rfl,c15,u15⟩
    have z15:=u15.2.1 _ _ (by omega) kz14
    have f15:=u15.2.1 _ _ (by omega) kf14
    have t15:=u15.2.1 _ _ (by omega) tF
    have hw15 : Below w.heap.size w w15:=hw14.trans (u15.1.mono (by omega))
    clear kn14 u15 c14 kz14 kf14 tF hw14
    obtain ⟨⟨e15,a15⟩,hfa⟩ : ∃ x,failC e14 f14 3 p14 = x:=⟨_,rfl⟩
    rw [hfa] at c15
    simp only at c15
    replace hfa:=Lib.hid hfa
    have kn15:=kn c15
    go_upto_region 18 with fail
    clear kn15
    refine wp_region_lit ?_
    refine Go.Great.wpList_readTo rfl (some 104) rfl (.pointer (some ⟨(w4.heap.size + 1),0,none⟩)) rfl ?_
    conv => arg 5;simp [Act.put]
    refine wpList_load_blk 29 (.tmp 6) w2.heap.size #[.int .i64 F.k,.int .i64 F.fr,.int .i64 F.to_,.int .u64 F.mi,.int .u64 F.yo,.int .u64 F.a,.int .u64 F.b,.int .i64 F.ino,.int .u64 F.isq,.int .i64 F.iof,.int .i64 F.bno,.int .u64 F.bsq,.int .i64 F.bof,.int .i64 F.bde,.int .i64 F.bpr,.int .i64 F.bbo,.int .i64 F.bli,.int .i64 F.bto,.string F.da] t15 _ rfl rfl rfl Tryd.underlying29 rfl (by kernel_rfl) ?_
    conv => arg 5;simp [Act.put]
    go_wp2_with fail
    (with_reducible refine (gc.out _).mono ?_)
    rintro e w16 ⟨rfl,h16⟩
    have c16:=blk_below h16 c15
    have z16:=blk_below h16 z15
    have f16:=blk_below h16 f15
    have t16:=blk_below h16 t15
    have hw16 : Below w.heap.size w w16:=hw15.trans (h16.mono hw15.size)
    clear h16 c15 z15 f15 t15 hw15 gc
    go_wp2_with fail
    (with_reducible refine (cfail_any (w4.heap.size + 1) B p14 e15 a15 c0 0 _ c16).mono ?_)
    rintro e w17 ⟨rfl,c17,u17⟩
    have z17:=u17.2.1 _ _ (by omega) z16
    have k17f:=u17.2.1 _ _ (by omega) f16
    have t17:=u17.2.1 _ _ (by omega) t16
    have hw17 : Below w.heap.size w w17:=hw16.trans (u17.1.mono (by omega))
    clear u17 c16 z16 f16 t16 hw16
    obtain ⟨⟨e17,f17⟩,hff⟩ : ∃ x,failC e15 a15 c0 0 = x:=⟨_,rfl⟩
    rw [hff] at c17
    simp only at c17
    replace hff:=Lib.hid hff
    have kn17:=kn c17
    by_cases h0 : e17 = 0
    · subst h0
      go_upto_region 21 with fail
      refine wp_region_lit ?_
      refine wpList_load_blk 29 (.tmp 6) w2.heap.size #[.int .i64 F.k,.int .i64 F.fr,.int .i64 F.to_,.int .u64 F.mi,.int .u64 F.yo,.int .u64 F.a,.int .u64 F.b,.int .i64 F.ino,.int .u64 F.isq,.int .i64 F.iof,.int .i64 F.bno,.int .u64 F.bsq,.int .i64 F.bof,.int .i64 F.bde,.int .i64 F.bpr,.int .i64 F.bbo,.int .i64 F.bli,.int .i64 F.bto,.string F.da] t17 _ rfl rfl rfl Tryd.underlying29 rfl (by kernel_rfl) ?_
      conv => arg 5;simp [Act.put]
      refine wpList_build_is 32 #[] #[.int .i64 0,.int .i64 0] rfl rfl (by kernel_rfl) ?_
      conv => arg 5;simp [Act.put]
      refine wpList_store_blk 29 (.tmp 2) (.tmp 119) w.heap.size zF #[.int .i64 F.k,.int .i64 F.fr,.int .i64 F.to_,.int .u64 F.mi,.int .u64 F.yo,.int .u64 F.a,.int .u64 F.b,.int .i64 F.ino,.int .u64 F.isq,.int .i64 F.iof,.int .i64 F.bno,.int .u64 F.bsq,.int .i64 F.bof,.int .i64 F.bde,.int .i64 F.bpr,.int .i64 F.bbo,.int .i64 F.bli,.int .i64 F.bto,.string F.da] z17 rfl rfl rfl rfl (by kernel_rfl) rfl (by kernel_rfl) ?_
      intro w18 k18 o18 B18 s18
      conv => arg 5;simp [Act.put]
      have f18:=o18 (w.heap.size + 1) #[.int .i64 0,.int .i64 0] (by omega) k17f
      have hw18 : Below w.heap.size w w18:=B18 _ _ (Nat.le_refl _) hw17
      clear o18 B18 s18
      refine wpList_store_blk 32 (.tmp 3) (.tmp 120) (w.heap.size + 1) #[.int .i64 0,.int .i64 0] #[.int .i64 0,.int .i64 0] f18 rfl rfl rfl rfl (by kernel_rfl) rfl (by kernel_rfl) ?_
      intro w19 k19 o19 B19 s19
      conv => arg 5;simp [Act.put]
      have z19:=o19 w.heap.size #[.int .i64 F.k,.int .i64 F.fr,.int .i64 F.to_,.int .u64 F.mi,.int .u64 F.yo,.int .u64 F.a,.int .u64 F.b,.int .i64 F.ino,.int .u64 F.isq,.int .i64 F.iof,.int .i64 F.bno,.int .u64 F.bsq,.int .i64 F.bof,.int .i64 F.bde,.int .i64 F.bpr,.int .i64 F.bbo,.int .i64 F.bli,.int .i64 F.bto,.string F.da] (by omega) k18
      have hw19 : Below w.heap.size w w19:=B19 _ _ (by omega) hw18
      clear o19 B19 s19 k18 f18 hw18
      go_wp2
      refine ret_row2 2 3 29 32 _ _ z19 k19 rfl rfl Tryd.underlying29 rfl (by kernel_rfl) rfl Tryd.underlying32 rfl (by kernel_rfl) rfl ⟨?_,hw19⟩
      rw [hV.out,hR.out,endF_none B.data.toList F p14 e14 f14 (by rw [hl.out,hc0.out,if_pos hp'.out,hfa.out,hff.out])]
      rfl
    · have h0' : (e17 != 0) = true:=(by simp [h0])
      go_upto_region 20 with fail
      refine wp_region_tail 6 (by kernel_rfl) (by kernel_rfl) ?_
      intro W1 hE hN
      have c18 : blk W1 (w4.heap.size + 1) = some (rdC B p14 e17 f17):=(by rw [hE.out];exact c17)
      have z18 : blk W1 w.heap.size = some zF:=(by rw [hE.out];exact z17)
      have f18 : blk W1 (w.heap.size + 1) = some #[.int .i64 0,.int .i64 0]:=(by rw [hE.out];exact k17f)
      have hw18 : Below w.heap.size w W1:=(by rw [hE.out];exact hw17)
      have knc:=calm_kn c18
      clear hE c17 z17 k17f t17 hw17 kn17
      simp only [List.take_succ_cons,List.take_zero,List.drop_succ_cons,List.drop_zero]
      refine wpQuiet_build_is 29 #[] zF rfl rfl (by kernel_rfl) ?_
      conv => arg 6;simp [Act.put]
      iterate 4 (go_big_quiet_step (fail))
      refine wpQuiet_store_same 29 (.tmp 2) (.tmp 114) w.heap.size zF (by rintro _ ⟨x,rfl⟩;exact blk_below x.ok z18) rfl rfl rfl rfl (by kernel_rfl) (by kernel_rfl) ?_
      conv => arg 6;simp [Act.put]
      refine wpQuiet_nil ?_
      rintro _ ⟨x,rfl⟩
      have z1:=blk_below x.ok z18
      have f1:=blk_below x.ok f18
      have hw1 : Below w.heap.size w x.wd:=hw18.trans (x.ok.mono hw18.size)
      clear z18 f18 hw18 knc
      refine wpList_store_blk 32 (.tmp 3) (.tmp 118) (w.heap.size + 1) #[.int .i64 0,.int .i64 0] #[.int .i64 e17,.int .i64 f17] f1 rfl rfl rfl rfl (by kernel_rfl) rfl (by kernel_rfl) ?_
      intro w20 k20 o20 B20 s20
      conv => arg 5;simp [Act.put]
      have z20:=o20 w.heap.size zF (by omega) z1
      have hw20 : Below w.heap.size w w20:=B20 _ _ (by omega) hw1
      clear o20 B20 s20 z1 f1 hw1
      go_wp2
      refine ret_row2 2 3 29 32 _ _ z20 k20 rfl rfl Tryd.underlying29 rfl (by kernel_rfl) rfl Tryd.underlying32 rfl (by kernel_rfl) rfl ⟨?_,hw20⟩
      rw [hV.out,hR.out,endF_fail B.data.toList F p14 e14 f14 (by rw [hl.out,hc0.out,if_pos hp'.out,hfa.out,hff.out];exact h0),hl.out,hc0.out,if_pos hp'.out,hfa.out,hff.out]
      rfl
  · have tp : decide (p14 < (B.size : Int)) = false:=decide_eq_false hp
    have hp':=Lib.hid hp;clear hp
    go_upto_region 18 with fail
    clear kn14
    refine wp_region_lit ?_
    refine Go.Great.wpList_readTo rfl (some 104) rfl (.pointer (some ⟨(w4.heap.size + 1),0,none⟩)) rfl ?_
    conv => arg 5;simp [Act.put]
    refine wpList_load_blk 29 (.tmp 6) w2.heap.size #[.int .i64 F.k,.int .i64 F.fr,.int .i64 F.to_,.int .u64 F.mi,.int .u64 F.yo,.int .u64 F.a,.int .u64 F.b,.int .i64 F.ino,.int .u64 F.isq,.int .i64 F.iof,.int .i64 F.bno,.int .u64 F.bsq,.int .i64 F.bof,.int .i64 F.bde,.int .i64 F.bpr,.int .i64 F.bbo,.int .i64 F.bli,.int .i64 F.bto,.string F.da] tF _ rfl rfl rfl Tryd.underlying29 rfl (by kernel_rfl) ?_
    conv => arg 5;simp [Act.put]
    go_wp2_with fail
    (with_reducible refine (gc.out _).mono ?_)
    rintro e w16 ⟨rfl,h16⟩
    have c16:=blk_below h16 c14
    have z16:=blk_below h16 kz14
    have f16:=blk_below h16 kf14
    have t16:=blk_below h16 tF
    have hw16 : Below w.heap.size w w16:=hw14.trans (h16.mono hw14.size)
    clear h16 c14 kz14 kf14 tF hw14 gc
    go_wp2_with fail
    (with_reducible refine (cfail_any (w4.heap.size + 1) B p14 e14 f14 c0 0 _ c16).mono ?_)
    rintro e w17 ⟨rfl,c17,u17⟩
    have z17:=u17.2.1 _ _ (by omega) z16
    have k17f:=u17.2.1 _ _ (by omega) f16
    have t17:=u17.2.1 _ _ (by omega) t16
    have hw17 : Below w.heap.size w w17:=hw16.trans (u17.1.mono (by omega))
    clear u17 c16 z16 f16 t16 hw16
    obtain ⟨⟨e17,f17⟩,hff⟩ : ∃ x,failC e14 f14 c0 0 = x:=⟨_,rfl⟩
    rw [hff] at c17
    simp only at c17
    replace hff:=Lib.hid hff
    have kn17:=kn c17
    by_cases h0 : e17 = 0
    · subst h0
      go_upto_region 21 with fail
      refine wp_region_lit ?_
      refine wpList_load_blk 29 (.tmp 6) w2.heap.size #[.int .i64 F.k,.int .i64 F.fr,.int .i64 F.to_,.int .u64 F.mi,.int .u64 F.yo,.int .u64 F.a,.int .u64 F.b,.int .i64 F.ino,.int .u64 F.isq,.int .i64 F.iof,.int .i64 F.bno,.int .u64 F.bsq,.int .i64 F.bof,.int .i64 F.bde,.int .i64 F.bpr,.int .i64 F.bbo,.int .i64 F.bli,.int .i64 F.bto,.string F.da] t17 _ rfl rfl rfl Tryd.underlying29 rfl (by kernel_rfl) ?_
      conv => arg 5;simp [Act.put]
      refine wpList_build_is 32 #[] #[.int .i64 0,.int .i64 0] rfl rfl (by kernel_rfl) ?_
      conv => arg 5;simp [Act.put]
      refine wpList_store_blk 29 (.tmp 2) (.tmp 119) w.heap.size zF #[.int .i64 F.k,.int .i64 F.fr,.int .i64 F.to_,.int .u64 F.mi,.int .u64 F.yo,.int .u64 F.a,.int .u64 F.b,.int .i64 F.ino,.int .u64 F.isq,.int .i64 F.iof,.int .i64 F.bno,.int .u64 F.bsq,.int .i64 F.bof,.int .i64 F.bde,.int .i64 F.bpr,.int .i64 F.bbo,.int .i64 F.bli,.int .i64 F.bto,.string F.da] z17 rfl rfl rfl rfl (by kernel_rfl) rfl (by kernel_rfl) ?_
      intro w18 k18 o18 B18 s18
      conv => arg 5;simp [Act.put]
      have f18:=o18 (w.heap.size + 1) #[.int .i64 0,.int .i64 0] (by omega) k17f
      have hw18 : Below w.heap.size w w18:=B18 _ _ (Nat.le_refl _) hw17
      clear o18 B18 s18
      refine wpList_store_blk 32 (.tmp 3) (.tmp 120) (w.heap.size + 1) #[.int .i64 0,.int .i64 0] #[.int .i64 0,.int .i64 0] f18 rfl rfl rfl rfl (by kernel_rfl) rfl (by kernel_rfl) ?_
      intro w19 k19 o19 B19 s19
      conv => arg 5;simp [Act.put]
      have z19:=o19 w.heap.size #[.int .i64 F.k,.int .i64 F.fr,.int .i64 F.to_,.int .u64 F.mi,.int .u64 F.yo,.int .u64 F.a,.int .u64 F.b,.int .i64 F.ino,.int .u64 F.isq,.int .i64 F.iof,.int .i64 F.bno,.int .u64 F.bsq,.int .i64 F.bof,.int .i64 F.bde,.int .i64 F.bpr,.int .i64 F.bbo,.int .i64 F.bli,.int .i64 F.bto,.string F.da] (by omega) k18
      have hw19 : Below w.heap.size w w19:=B19 _ _ (by omega) hw18
      clear o19 B19 s19 k18 f18 hw18
      go_wp2
      refine ret_row2 2 3 29 32 _ _ z19 k19 rfl rfl Tryd.underlying29 rfl (by kernel_rfl) rfl Tryd.underlying32 rfl (by kernel_rfl) rfl ⟨?_,hw19⟩
      rw [hV.out,hR.out,endF_none B.data.toList F p14 e14 f14 (by rw [hl.out,hc0.out,if_neg (Int.not_lt.2 hp'.out),hff.out])]
      rfl
    · have h0' : (e17 != 0) = true:=(by simp [h0])
      go_upto_region 20 with fail
      refine wp_region_tail 6 (by kernel_rfl) (by kernel_rfl) ?_
      intro W1 hE hN
      have c18 : blk W1 (w4.heap.size + 1) = some (rdC B p14 e17 f17):=(by rw [hE.out];exact c17)
      have z18 : blk W1 w.heap.size = some zF:=(by rw [hE.out];exact z17)
      have f18 : blk W1 (w.heap.size + 1) = some #[.int .i64 0,.int .i64 0]:=(by rw [hE.out];exact k17f)
      have hw18 : Below w.heap.size w W1:=(by rw [hE.out];exact hw17)
      have knc:=calm_kn c18
      clear hE c17 z17 k17f t17 hw17 kn17
      simp only [List.take_succ_cons,List.take_zero,List.drop_succ_cons,List.drop_zero]
      refine wpQuiet_build_is 29 #[] zF rfl rfl (by kernel_rfl) ?_
      conv => arg 6;simp [Act.put]
      iterate 4 (go_big_quiet_step (fail))
      refine wpQuiet_store_same 29 (.tmp 2) (.tmp 114) w.heap.size zF (by rintro _ ⟨x,rfl⟩;exact blk_below x.ok z18) rfl rfl rfl rfl (by kernel_rfl) (by kernel_rfl) ?_
      conv => arg 6;simp [Act.put]
      refine wpQuiet_nil ?_
      rintro _ ⟨x,rfl⟩
      have z1:=blk_below x.ok z18
      have f1:=blk_below x.ok f18
      have hw1 : Below w.heap.size w x.wd:=hw18.trans (x.ok.mono hw18.size)
      clear z18 f18 hw18 knc
      refine wpList_store_blk 32 (.tmp 3) (.tmp 118) (w.heap.size + 1) #[.int .i64 0,.int .i64 0] #[.int .i64 e17,.int .i64 f17] f1 rfl rfl rfl rfl (by kernel_rfl) rfl (by kernel_rfl) ?_
      intro w20 k20 o20 B20 s20
      conv => arg 5;simp [Act.put]
      have z20:=o20 w.heap.size zF (by omega) z1
      have hw20 : Below w.heap.size w w20:=B20 _ _ (by omega) hw1
      clear o20 B20 s20 z1 f1 hw1
      go_wp2
      refine ret_row2 2 3 29 32 _ _ z20 k20 rfl rfl Tryd.underlying29 rfl (by kernel_rfl) rfl Tryd.underlying32 rfl (by kernel_rfl) rfl ⟨?_,hw20⟩
      rw [hV.out,hR.out,endF_fail B.data.toList F p14 e14 f14 (by rw [hl.out,hc0.out,if_neg (Int.not_lt.2 hp'.out),hff.out];exact h0),hl.out,hc0.out,if_neg (Int.not_lt.2 hp'.out),hff.out]
      rfl
end Go.Proofs.YtaiofjffoboicaaDoor
namespace Go.Proofs.YtaiofjffoboicaaDoor
open Go.RowKit
theorem fdec_any (s : ByteArray) (hs : s.size ≤ maxLen) (w : World) (hH : HTab w) (hT : STab w) :
    Calls Tryd.prog 11 #[.string s] w fun e w' => e = .returned (fdcV (decFr wrapI s.data.toList)) ∧ Below w.heap.size w w':=by
  have hl : s.data.toList.length = s.size:=by simp
  unfold decFr
  rw [hl]
  by_cases h1 : 1200 < s.size
  · rw [if_pos h1]
    exact fdec_long s h1 hs w
  · rw [if_neg h1]
    by_cases h2 : s.size < 3
    · rw [if_pos h2]
      exact fdec_short s h2 w
    · rw [if_neg h2]
      obtain ⟨n,hn⟩ : ∃ n,s.size = n + 2:=⟨s.size - 2,by omega⟩
      rw [hn,show n + 2 - 2 = n by omega]
      by_cases h : s.data.toList.drop n = two (crsN (s.data.toList.take n))
      · rw [if_neg (by simp [h])]
        have hS : sealedS s.data.toList n = true:=by simp [sealedS,h]
        obtain ⟨B,hB⟩ : ∃ B,s.extract 0 n = B:=⟨_,rfl⟩
        have hBl : s.data.toList.take n = B.data.toList:=by rw [← hB];simp
        have hBz : B.size = n:=by have:=congrArg List.length hBl;simp at this;omega
        rw [hBl]
        have hBs : 0 < B.size:=by omega
        obtain ⟨b,l,hbl⟩ : ∃ b l,B.data.toList = b :: l:=by
          match hq : B.data.toList with
          | [] => have h0:=congrArg List.length hq;rw [show B.data.toList.length = B.size by simp] at h0;have h00 : B.size = 0:=h0;omega
          | b :: l => exact ⟨b,l,rfl⟩
        have hb0 : B[0] = b:=by
          have : B.data.toList[0]? = some b:=by rw [hbl];rfl
          have h9 : B.data[0]? = some b:=by simpa using this
          have h8:=Array.getElem?_eq_some_iff.1 h9
          obtain ⟨_,h7⟩:=h8
          exact h7
        have hbt:=b.toNat_lt
        rw [hbl,decB_cons]
        by_cases hk : 1 ≤ b.toNat ∧ b.toNat ≤ 7
        · rw [if_neg (not_not_intro hk)]
          have:=fdec_known s n hn (by omega) (by omega) hS b.toNat w B hB hBs (by omega) (by rw [hb0]) (by omega) hbt hH hT
          rw [hbl] at this
          exact this
        · rw [if_pos hk]
          exact fdec_kind s n hn (by omega) (by omega) hS b.toNat w B hB hBs (by rw [hb0]) (by omega) hbt
      · rw [if_pos h]
        have hS : sealedS s.data.toList n = false:=by simp [sealedS,h]
        have:=fdec_sum s n hn (by omega) (by omega) hS w
        rw [show ((n + 2 : Nat) : Int) - 2 = n by omega]
        exact this
end Go.Proofs.YtaiofjffoboicaaDoor
