/- Parts of a proof, printed by a program of mine out of my texts: FwBytes. -/
import Derived.Great.Walk
import Derived.OpenShut
import Derived.Deep.Cut
import Derived.Test.YtaiofjffoboicaaGreatDoorCFrAwake
import Derived.Test.YtaiofjffoboicaaGreatDoorCFrREnc
import Derived.Test.YtaiofjffoboicaaGreatDoorCFrRText
import Derived.Test.YtaiofjffoboicaaGreatDoorCFwKit
import Derived.Test.YtaiofjffoboicaaGreatDoorCFxText
set_option linter.unusedSimpArgs false
set_option linter.unusedVariables false
namespace Go.Proofs.YtaiofjffoboicaaGreatDoor
open Go.RowKit
set_option maxRecDepth 100000 in
set_option maxHeartbeats 3200000 in
theorem frameBytes_fr (f : Fr) (hn : NN f) (hdf : f.da.size ≤ maxLen) (w : World) (hH : HTab w) (hT : STab w) (hP : Tab w) (hB : STabA w) :
    Calls Tryz.prog 3 #[frv f] w fun e w' => e = .returned (.bool true) ∧ Below w.heap.size w w':=by
  have HH:=Lib.hid hH;have HT:=Lib.hid hT;have HP:=Lib.hid hP;have HB:=Lib.hid hB;clear hH hT hP hB
  have ga:=Lib.hid awake_any
  have hd1:=hdf
  unfold maxLen at hd1
  by_cases h1 : 1100 < f.da.size
  · have t1 : decide ((1100 : Int) < f.da.size) = true:=decide_eq_true (by omega)
    clear h1
    go_enter Tryz.func3,Tryz.ntmps3
    go_wp2_with (go_at_call 4;(with_reducible refine (ga.out _ (HH.out.on (by (repeat(first|(with_reducible first|assumption|exact Below.refl _ _|refine je ?_|refine jl ?_)|((with_reducible refine jp ?_ ?_);first|focus(dsimp only;assumption)|focus(simp;done)|focus(dsimp only;omega))|(with_reducible refine bt ?_ (by assumption)))))) (HT.out.on (by (repeat(first|(with_reducible first|assumption|exact Below.refl _ _|refine je ?_|refine jl ?_)|((with_reducible refine jp ?_ ?_);first|focus(dsimp only;assumption)|focus(simp;done)|focus(dsimp only;omega))|(with_reducible refine bt ?_ (by assumption))))))).mono ?_);rintro e wa ⟨rfl,ha⟩)
    go_ret
    exact ⟨rfl,by (repeat(first|(with_reducible first|assumption|exact Below.refl _ _|refine je ?_|refine jl ?_)|((with_reducible refine jp ?_ ?_);first|focus(dsimp only;assumption)|focus(simp;done)|focus(dsimp only;omega))|(with_reducible refine bt ?_ (by assumption))))⟩
  · have t1 : decide ((1100 : Int) < f.da.size) = false:=decide_eq_false (by omega)
    clear h1 hd1
    obtain ⟨L,hL⟩ : ∃ L : Int,(((encF f).1.length : Nat) : Int) = L:=⟨_,rfl⟩
    obtain ⟨S,hS⟩ : ∃ S : ByteArray,(⟨(encF f).1.toArray⟩ : ByteArray) = S:=⟨_,rfl⟩
    obtain ⟨c,hc⟩ : ∃ c : Int,(encF f).2 = c:=⟨_,rfl⟩
    obtain ⟨T,hT⟩ : ∃ T : ByteArray,(textF f).1 = T:=⟨_,rfl⟩
    obtain ⟨d,hd⟩ : ∃ c : Int,(textF f).2 = c:=⟨_,rfl⟩
    obtain ⟨k,hk⟩ : ∃ c : Int,frC f = c:=⟨_,rfl⟩
    have z1 : ∀ w,HTab w → STab w → Calls Tryz.prog 5 #[.agg #[.int .i64 f.k,.int .i64 f.fr,.int .i64 f.to_,.int .u64 f.mi,.int .u64 f.yo,.int .u64 f.a,.int .u64 f.b,.int .i64 f.ino,.int .u64 f.isq,.int .i64 f.iof,.int .i64 f.bno,.int .u64 f.bsq,.int .i64 f.bof,.int .i64 f.bde,.int .i64 f.bpr,.int .i64 f.bbo,.int .i64 f.bli,.int .i64 f.bto,.string f.da]] w fun e w' => e = .returned (.tuple #[.int .i64 L,.int .i64 c]) ∧ Below w.heap.size w w':=fun w h t => by
      have:=fsize_any f hdf hn w h t
      unfold sizeV at this
      rwa [hL,hc] at this
    have z2 : ∀ w,Calls Tryz.prog 6 #[.agg #[.int .i64 f.k,.int .i64 f.fr,.int .i64 f.to_,.int .u64 f.mi,.int .u64 f.yo,.int .u64 f.a,.int .u64 f.b,.int .i64 f.ino,.int .u64 f.isq,.int .i64 f.iof,.int .i64 f.bno,.int .u64 f.bsq,.int .i64 f.bof,.int .i64 f.bde,.int .i64 f.bpr,.int .i64 f.bbo,.int .i64 f.bli,.int .i64 f.bto,.string f.da]] w fun e w' => e = .returned (.tuple #[.int .i64 L,.int .i64 c]) ∧ Below w.heap.size w w':=fun w => by
      have:=rsize_any f hdf hn w
      unfold sizeVr at this
      rwa [hL,hc] at this
    have e1 : ∀ w,HTab w → STab w → Calls Tryz.prog 7 #[.agg #[.int .i64 f.k,.int .i64 f.fr,.int .i64 f.to_,.int .u64 f.mi,.int .u64 f.yo,.int .u64 f.a,.int .u64 f.b,.int .i64 f.ino,.int .u64 f.isq,.int .i64 f.iof,.int .i64 f.bno,.int .u64 f.bsq,.int .i64 f.bof,.int .i64 f.bde,.int .i64 f.bpr,.int .i64 f.bbo,.int .i64 f.bli,.int .i64 f.bto,.string f.da]] w fun e w' => e = .returned (.tuple #[.string S,.int .i64 c]) ∧ Below w.heap.size w w':=fun w h t => by
      have:=fencode_any f hdf hn w h t
      unfold encV bstr at this
      rwa [hS,hc] at this
    have e2 : ∀ w,Calls Tryz.prog 8 #[.agg #[.int .i64 f.k,.int .i64 f.fr,.int .i64 f.to_,.int .u64 f.mi,.int .u64 f.yo,.int .u64 f.a,.int .u64 f.b,.int .i64 f.ino,.int .u64 f.isq,.int .i64 f.iof,.int .i64 f.bno,.int .u64 f.bsq,.int .i64 f.bof,.int .i64 f.bde,.int .i64 f.bpr,.int .i64 f.bbo,.int .i64 f.bli,.int .i64 f.bto,.string f.da]] w fun e w' => e = .returned (.tuple #[.string S,.int .i64 c]) ∧ Below w.heap.size w w':=fun w => by
      have:=rencode_any f hdf hn w
      unfold encVr bstr at this
      rwa [hS,hc] at this
    have x1 : ∀ w,Tab w → STabA w → Calls Tryz.prog 9 #[.agg #[.int .i64 f.k,.int .i64 f.fr,.int .i64 f.to_,.int .u64 f.mi,.int .u64 f.yo,.int .u64 f.a,.int .u64 f.b,.int .i64 f.ino,.int .u64 f.isq,.int .i64 f.iof,.int .i64 f.bno,.int .u64 f.bsq,.int .i64 f.bof,.int .i64 f.bde,.int .i64 f.bpr,.int .i64 f.bbo,.int .i64 f.bli,.int .i64 f.bto,.string f.da]] w fun e w' => e = .returned (.tuple #[.string T,.int .i64 d]) ∧ Below w.heap.size w w':=fun w h t => by
      have:=ftext_any f hdf hn w h t
      rwa [hT,hd] at this
    have x2 : ∀ w,Calls Tryz.prog 10 #[.agg #[.int .i64 f.k,.int .i64 f.fr,.int .i64 f.to_,.int .u64 f.mi,.int .u64 f.yo,.int .u64 f.a,.int .u64 f.b,.int .i64 f.ino,.int .u64 f.isq,.int .i64 f.iof,.int .i64 f.bno,.int .u64 f.bsq,.int .i64 f.bof,.int .i64 f.bde,.int .i64 f.bpr,.int .i64 f.bbo,.int .i64 f.bli,.int .i64 f.bto,.string f.da]] w fun e w' => e = .returned (.tuple #[.string T,.int .i64 d]) ∧ Below w.heap.size w w':=fun w => by
      have:=rtext_any f hdf hn w
      rwa [hT,hd] at this
    have k1 : ∀ w,Calls Tryz.prog 11 #[.agg #[.int .i64 f.k,.int .i64 f.fr,.int .i64 f.to_,.int .u64 f.mi,.int .u64 f.yo,.int .u64 f.a,.int .u64 f.b,.int .i64 f.ino,.int .u64 f.isq,.int .i64 f.iof,.int .i64 f.bno,.int .u64 f.bsq,.int .i64 f.bof,.int .i64 f.bde,.int .i64 f.bpr,.int .i64 f.bbo,.int .i64 f.bli,.int .i64 f.bto,.string f.da]] w fun e w' => e = .returned (.int .i64 k) ∧ Below w.heap.size w w':=fun w => by
      have:=fcheck_any f hdf hn.b.1 w
      rwa [hk] at this
    have k2 : ∀ w,Calls Tryz.prog 12 #[.agg #[.int .i64 f.k,.int .i64 f.fr,.int .i64 f.to_,.int .u64 f.mi,.int .u64 f.yo,.int .u64 f.a,.int .u64 f.b,.int .i64 f.ino,.int .u64 f.isq,.int .i64 f.iof,.int .i64 f.bno,.int .u64 f.bsq,.int .i64 f.bof,.int .i64 f.bde,.int .i64 f.bpr,.int .i64 f.bbo,.int .i64 f.bli,.int .i64 f.bto,.string f.da]] w fun e w' => e = .returned (.int .i64 k) ∧ Below w.heap.size w w':=fun w => by
      have:=rcheck_any f hdf w
      rwa [hk] at this
    replace z1:=Lib.hid z1;replace z2:=Lib.hid z2;replace e1:=Lib.hid e1;replace e2:=Lib.hid e2
    replace x1:=Lib.hid x1;replace x2:=Lib.hid x2;replace k1:=Lib.hid k1;replace k2:=Lib.hid k2
    clear hL hS hc hT hd hk hn
    go_enter Tryz.func3,Tryz.ntmps3
    go_upto_region 3 with fail
    have kf0 : blk (w.alloc (.cells #[.int .i64 f.k,.int .i64 f.fr,.int .i64 f.to_,.int .u64 f.mi,.int .u64 f.yo,.int .u64 f.a,.int .u64 f.b,.int .i64 f.ino,.int .u64 f.isq,.int .i64 f.iof,.int .i64 f.bno,.int .u64 f.bsq,.int .i64 f.bof,.int .i64 f.bde,.int .i64 f.bpr,.int .i64 f.bbo,.int .i64 f.bli,.int .i64 f.bto,.string f.da] 28)) w.heap.size = some #[.int .i64 f.k,.int .i64 f.fr,.int .i64 f.to_,.int .u64 f.mi,.int .u64 f.yo,.int .u64 f.a,.int .u64 f.b,.int .i64 f.ino,.int .u64 f.isq,.int .i64 f.iof,.int .i64 f.bno,.int .u64 f.bsq,.int .i64 f.bof,.int .i64 f.bde,.int .i64 f.bpr,.int .i64 f.bbo,.int .i64 f.bli,.int .i64 f.bto,.string f.da]:=blk_alloc_new _ _ _ rfl
    have bw0 : Below w.heap.size w (w.alloc (.cells #[.int .i64 f.k,.int .i64 f.fr,.int .i64 f.to_,.int .u64 f.mi,.int .u64 f.yo,.int .u64 f.a,.int .u64 f.b,.int .i64 f.ino,.int .u64 f.isq,.int .i64 f.iof,.int .i64 f.bno,.int .u64 f.bsq,.int .i64 f.bof,.int .i64 f.bde,.int .i64 f.bpr,.int .i64 f.bbo,.int .i64 f.bli,.int .i64 f.bto,.string f.da] 28)):=(Below.refl _ _).alloc (Nat.le_refl _) _
    obtain ⟨w0,hw0⟩ : ∃ x,x = w.alloc (.cells #[.int .i64 f.k,.int .i64 f.fr,.int .i64 f.to_,.int .u64 f.mi,.int .u64 f.yo,.int .u64 f.a,.int .u64 f.b,.int .i64 f.ino,.int .u64 f.isq,.int .i64 f.iof,.int .i64 f.bno,.int .u64 f.bsq,.int .i64 f.bof,.int .i64 f.bde,.int .i64 f.bpr,.int .i64 f.bbo,.int .i64 f.bli,.int .i64 f.bto,.string f.da] 28):=⟨_,rfl⟩
    rw [← hw0] at kf0 bw0
    rw [← hw0]
    clear hw0
    refine wp_region_lit ?_
    refine wpList_load_blk 28 (.tmp 1) w.heap.size #[.int .i64 f.k,.int .i64 f.fr,.int .i64 f.to_,.int .u64 f.mi,.int .u64 f.yo,.int .u64 f.a,.int .u64 f.b,.int .i64 f.ino,.int .u64 f.isq,.int .i64 f.iof,.int .i64 f.bno,.int .u64 f.bsq,.int .i64 f.bof,.int .i64 f.bde,.int .i64 f.bpr,.int .i64 f.bbo,.int .i64 f.bli,.int .i64 f.bto,.string f.da] kf0 _ rfl rfl rfl Tryz.underlying28 rfl (by kernel_rfl) ?_
    conv => arg 5;simp [Act.put]
    go_wp2_with fail
    (with_reducible refine (z1.out _ (HH.out.on bw0) (HT.out.on bw0)).mono ?_)
    rintro e v0 ⟨rfl,h0⟩
    replace kf0:=blk_below h0 kf0
    replace bw0:=bt bw0 h0
    clear h0 z1
    go_upto_region 4 with fail
    refine wp_region_lit ?_
    refine wpList_load_blk 28 (.tmp 1) w.heap.size #[.int .i64 f.k,.int .i64 f.fr,.int .i64 f.to_,.int .u64 f.mi,.int .u64 f.yo,.int .u64 f.a,.int .u64 f.b,.int .i64 f.ino,.int .u64 f.isq,.int .i64 f.iof,.int .i64 f.bno,.int .u64 f.bsq,.int .i64 f.bof,.int .i64 f.bde,.int .i64 f.bpr,.int .i64 f.bbo,.int .i64 f.bli,.int .i64 f.bto,.string f.da] kf0 _ rfl rfl rfl Tryz.underlying28 rfl (by kernel_rfl) ?_
    conv => arg 5;simp [Act.put]
    go_wp2_with fail
    (with_reducible refine (z2.out _).mono ?_)
    rintro e v1 ⟨rfl,h1⟩
    replace kf0:=blk_below h1 kf0
    replace bw0:=bt bw0 h1
    clear h1 z2
    go_upto_region 5 with fail
    refine wp_region_lit ?_
    refine wpList_load_blk 28 (.tmp 1) w.heap.size #[.int .i64 f.k,.int .i64 f.fr,.int .i64 f.to_,.int .u64 f.mi,.int .u64 f.yo,.int .u64 f.a,.int .u64 f.b,.int .i64 f.ino,.int .u64 f.isq,.int .i64 f.iof,.int .i64 f.bno,.int .u64 f.bsq,.int .i64 f.bof,.int .i64 f.bde,.int .i64 f.bpr,.int .i64 f.bbo,.int .i64 f.bli,.int .i64 f.bto,.string f.da] kf0 _ rfl rfl rfl Tryz.underlying28 rfl (by kernel_rfl) ?_
    conv => arg 5;simp [Act.put]
    go_wp2_with fail
    (with_reducible refine (e1.out _ (HH.out.on bw0) (HT.out.on bw0)).mono ?_)
    rintro e v2 ⟨rfl,h2⟩
    replace kf0:=blk_below h2 kf0
    replace bw0:=bt bw0 h2
    clear h2 e1
    go_upto_region 6 with fail
    refine wp_region_lit ?_
    refine wpList_load_blk 28 (.tmp 1) w.heap.size #[.int .i64 f.k,.int .i64 f.fr,.int .i64 f.to_,.int .u64 f.mi,.int .u64 f.yo,.int .u64 f.a,.int .u64 f.b,.int .i64 f.ino,.int .u64 f.isq,.int .i64 f.iof,.int .i64 f.bno,.int .u64 f.bsq,.int .i64 f.bof,.int .i64 f.bde,.int .i64 f.bpr,.int .i64 f.bbo,.int .i64 f.bli,.int .i64 f.bto,.string f.da] kf0 _ rfl rfl rfl Tryz.underlying28 rfl (by kernel_rfl) ?_
    conv => arg 5;simp [Act.put]
    go_wp2_with fail
    (with_reducible refine (e2.out _).mono ?_)
    rintro e v3 ⟨rfl,h3⟩
    replace kf0:=blk_below h3 kf0
    replace bw0:=bt bw0 h3
    clear h3 e2
    go_upto_region 7 with fail
    refine wp_region_lit ?_
    refine wpList_load_blk 28 (.tmp 1) w.heap.size #[.int .i64 f.k,.int .i64 f.fr,.int .i64 f.to_,.int .u64 f.mi,.int .u64 f.yo,.int .u64 f.a,.int .u64 f.b,.int .i64 f.ino,.int .u64 f.isq,.int .i64 f.iof,.int .i64 f.bno,.int .u64 f.bsq,.int .i64 f.bof,.int .i64 f.bde,.int .i64 f.bpr,.int .i64 f.bbo,.int .i64 f.bli,.int .i64 f.bto,.string f.da] kf0 _ rfl rfl rfl Tryz.underlying28 rfl (by kernel_rfl) ?_
    conv => arg 5;simp [Act.put]
    go_wp2_with fail
    (with_reducible refine (x1.out _ (HP.out.on bw0) (HB.out.on bw0)).mono ?_)
    rintro e v4 ⟨rfl,h4⟩
    replace kf0:=blk_below h4 kf0
    replace bw0:=bt bw0 h4
    clear h4 x1
    go_upto_region 8 with fail
    refine wp_region_lit ?_
    refine wpList_load_blk 28 (.tmp 1) w.heap.size #[.int .i64 f.k,.int .i64 f.fr,.int .i64 f.to_,.int .u64 f.mi,.int .u64 f.yo,.int .u64 f.a,.int .u64 f.b,.int .i64 f.ino,.int .u64 f.isq,.int .i64 f.iof,.int .i64 f.bno,.int .u64 f.bsq,.int .i64 f.bof,.int .i64 f.bde,.int .i64 f.bpr,.int .i64 f.bbo,.int .i64 f.bli,.int .i64 f.bto,.string f.da] kf0 _ rfl rfl rfl Tryz.underlying28 rfl (by kernel_rfl) ?_
    conv => arg 5;simp [Act.put]
    go_wp2_with fail
    (with_reducible refine (x2.out _).mono ?_)
    rintro e v5 ⟨rfl,h5⟩
    replace kf0:=blk_below h5 kf0
    replace bw0:=bt bw0 h5
    clear h5 x2
    go_upto_region 9 with fail
    refine wp_region_in (by kernel_rfl) (by kernel_rfl) ?_
    intro W9 hE hN
    have q1 : blk W9 w.heap.size = some #[.int .i64 f.k,.int .i64 f.fr,.int .i64 f.to_,.int .u64 f.mi,.int .u64 f.yo,.int .u64 f.a,.int .u64 f.b,.int .i64 f.ino,.int .u64 f.isq,.int .i64 f.iof,.int .i64 f.bno,.int .u64 f.bsq,.int .i64 f.bof,.int .i64 f.bde,.int .i64 f.bpr,.int .i64 f.bbo,.int .i64 f.bli,.int .i64 f.bto,.string f.da]:=(by rw [hE.out];exact kf0)
    have q4 : Below w.heap.size w W9:=(by rw [hE.out];exact bw0)
    clear hE kf0 bw0
    refine wpQuiet_load_blk 28 (.tmp 1) w.heap.size #[.int .i64 f.k,.int .i64 f.fr,.int .i64 f.to_,.int .u64 f.mi,.int .u64 f.yo,.int .u64 f.a,.int .u64 f.b,.int .i64 f.ino,.int .u64 f.isq,.int .i64 f.iof,.int .i64 f.bno,.int .u64 f.bsq,.int .i64 f.bof,.int .i64 f.bde,.int .i64 f.bpr,.int .i64 f.bbo,.int .i64 f.bli,.int .i64 f.bto,.string f.da] (fun W hW => by obtain ⟨x,rfl⟩:=hW;exact blk_below x.ok q1) _ rfl rfl rfl Tryz.underlying28 rfl (by kernel_rfl) ?_
    conv => arg 6;simp [Act.put]
    refine wpQuiet_split 1 ?_
    simp only [List.take_succ_cons,List.take_zero,List.drop_succ_cons,List.drop_zero]
    repeat (go_big_quiet_step ((go_at_call 11;(with_reducible refine Class.go _ (k1.out _)))))
    refine wpQuiet_nil ?_
    refine wpQuiet_load_blkG 28 (.tmp 1) w.heap.size #[.int .i64 f.k,.int .i64 f.fr,.int .i64 f.to_,.int .u64 f.mi,.int .u64 f.yo,.int .u64 f.a,.int .u64 f.b,.int .i64 f.ino,.int .u64 f.isq,.int .i64 f.iof,.int .i64 f.bno,.int .u64 f.bsq,.int .i64 f.bof,.int .i64 f.bde,.int .i64 f.bpr,.int .i64 f.bbo,.int .i64 f.bli,.int .i64 f.bto,.string f.da] (fun W hW => by obtain ⟨x,rfl⟩:=hW;exact blk_below x.ok q1) _ (by kernel_rfl) rfl rfl Tryz.underlying28 rfl (by kernel_rfl) ?_
    conv => arg 6;simp [Act.put]
    repeat (go_big_quiet_step (first|((go_at_call 12;(with_reducible refine Class.go _ (k2.out _))))|((go_at_call 4;(with_reducible refine Class.go _ (ga.out _ ?_ ?_));exact HH.out.on (bt q4 (Class.ok _));exact HT.out.on (bt q4 (Class.ok _))))))
    refine wpQuiet_nil ?_
    rintro _ ⟨x,rfl⟩
    have b9:=bt q4 x.ok
    go_wp2
    go_ret
    exact ⟨rfl,b9⟩
theorem u64_both {a : Int} (h : (Lit.int .u64 a).wf = true) : 0 ≤ a ∧ a < 18446744073709551616:=by
  have:=bounds_u64 h
  omega
theorem frameBytes_walk (x0 x1 x2 x3 x4 x5 x6 x7 x8 x9 x10 x11 x12 x13 x14 x15 x16 x17 : Int) (xd : ByteArray) (w3 : (Lit.int .u64 x3).wf = true) (w4 : (Lit.int .u64 x4).wf = true) (w5 : (Lit.int .u64 x5).wf = true) (w6 : (Lit.int .u64 x6).wf = true) (w8 : (Lit.int .u64 x8).wf = true) (w11 : (Lit.int .u64 x11).wf = true) (hx : xd.size ≤ maxLen) (w : World)
    (T0 : Lib.TabIs Tryz.prog w sumNm .u32 sumTab) (T1 : Lib.TabIs Tryz.prog w headsNm .u8 headsTab) (T2 : Lib.TabIs Tryz.prog w tabNm .u64 Lib.pow10Tab) (T3 : Lib.TabIs Tryz.prog w blanksNm .u8 Lib.asciiSpaceTab) :
    Calls Tryz.prog 3 #[frv ⟨x0,x1,x2,x3,x4,x5,x6,x7,x8,x9,x10,x11,x12,x13,x14,x15,x16,x17,xd⟩] w fun e w' => e = .returned (.bool true) ∧ Below w.heap.size w w' :=
  frameBytes_fr _ ⟨u64_both w3,u64_both w4,u64_both w5,u64_both w6,u64_both w8,u64_both w11⟩ hx w (htab_of T1) (stab_of T0) (tab_of T2) (stabA_of T3)
end Go.Proofs.YtaiofjffoboicaaGreatDoor
