/- Parts of a proof, printed by a program of mine out of my texts: EgNew, EgQue, EgWay, EgAv, EgOpen. -/
import Derived.Great.Walk
import Derived.OrdersHeld
import Derived.Deep.RegionHeld
import Derived.Deep.OwnRows
import Derived.Test.YtkaehoihpgelnaaDoorCM
import Derived.Test.YtkaehoihpgelnaaDoorCQ
import Derived.Test.YtkaehoihpgelnaaDoorCR
set_option linter.unusedSimpArgs false
set_option linter.unusedVariables false
set_option maxRecDepth 100000
namespace Go.Proofs.YtkaehoihpgelnaaDoor
open Go.RowKit
theorem srow3 {W : World} {g : Nat} {a b c : Int} (h : blk W g = some #[.int .i64 a,.int .i64 b,.int .i64 c]) : SRow ic 1 W (some ⟨g,0,none⟩) 3 [a,b,c]:=by
  have h2 : blk W g = some (rowC ic [a,b,c] ++ []).toArray:=h
  exact ⟨Nat.le_refl 3,by unfold maxLen;decide,(fun h => by cases h),fun _ => ⟨g,0,rfl,blk_lt h2,fun i hi => by rw [Nat.zero_add];exact range_row ic_len h2 (List.getElem?_eq_getElem hi)⟩⟩
def upR (B : Nat) (a : Option Addr) : Prop:=∀ b off,a = some ⟨b,off,none⟩ → B ≤ b
theorem upR.mono {B C : Nat} {a : Option Addr} (h : upR B a) (hc : C ≤ B) : upR C a:=fun b off e => Nat.le_trans hc (h b off e)
theorem upR.ne {B g : Nat} {a : Option Addr} (h : upR B a) (hg : g < B) : ∀ b off,a = some ⟨b,off,none⟩ → b ≠ g:=fun b off e => by have:=h b off e;omega
theorem upR_at {B b off : Nat} (h : B ≤ b) : upR B (some ⟨b,off,none⟩):=fun _ _ e => by cases e;exact h
def newD (ws : List Int) (q : Int) : Int:=if ws.length ≠ 3 then 3 else weiS ws q
def RetD (ws : List Int) (q : Int) (w : World) (e : Ending) (w' : World) : Prop :=
  Below w.heap.size w w' ∧ (newD ws q ≠ 0 ∧ e = .returned (.tuple #[.agg #[.slice none 0 0,.int .i64 0,.slice none 0 0,.int .i64 0],.int .i64 (newD ws q)]) ∨
    newD ws q = 0 ∧ ∃ a1 c1 a2 c2,e = .returned (.tuple #[.agg #[.slice a1 3 c1,.int .i64 q,.slice a2 3 c2,.int .i64 2],.int .i64 0]) ∧ SRow ic 1 w' a1 c1 ws ∧ SRow ic 1 w' a2 c2 [0,0,at3 ws 2 * q] ∧ upR w.heap.size a1 ∧ upR w.heap.size a2)
set_option maxHeartbeats 3200000 in
theorem dnew_ok (a : Option Addr) (cap : Nat) (w0 w1 x q : Int) (w : World) (hrow : SRow ic 1 w a cap [w0,w1,x]) (hn : newD [w0,w1,x] q = 0) :
  Calls Tryd.prog 43 #[.slice a 3 cap,.int .i64 q] w fun e w' => RetD [w0,w1,x] q w e w':=by
 have hz : weiS [w0,w1,x] q = 0:=hn
 obtain ⟨hw,q1,q2⟩:=weiS_zero hz
 have hx:=hw x (by simp)
 have GW:=Lib.hid (fun W (hB : Below w.heap.size w W) => (show Calls Tryd.prog 67 #[.slice a 3 cap,.int .i64 q] W fun e w' => e = .returned (.int .i64 0) ∧ W = w' from by
  have h9:=weighed_any a cap [w0,w1,x] q W (hrow.below hB)
  rw [hz] at h9
  exact h9))
 have G:=Lib.hid (fun W (hB : Below w.heap.size w W) => (show Calls Tryd.prog 60 #[.slice a 3 cap] W fun e w' => OwnI [w0,w1,x] W e w' from cloneI_any a cap [w0,w1,x] (by simp) W (hrow.below hB)))
 obtain ⟨bh,oh,rfl,lh,rh⟩:=hrow.2.2.2 (by simp)
 have c2 : w.cell? ⟨bh,oh + 2,none⟩ = some (.int .i64 x):=(srow_cellE hrow (j:=2) (by simp)).2
 have hcap:=hrow.1
 have hM : -(9223372036854775808 : Int) ≤ x * q ∧ x * q ≤ 9223372036854775807:=by
  have h1 : 0 ≤ x * q:=Int.mul_nonneg (by omega) (by omega)
  have h2 : x * q ≤ 100 * 1200:=Int.mul_le_mul (by omega) (by omega) (by omega) (by omega)
  omega
 have v9 : IntKind.i64.wrap (x * q) = x * q:=IntWalk.i64_in _ (by omega)
 have HN:=Lib.hid hn
 clear hrow rh hn hz hw hM
 have t1 : ((0 : Int) != 0) = false:=rfl
 go_enter Tryd.func43,Tryd.ntmps43
 go_upto_region 6 with (go_at_call 67;(with_reducible refine (GW.out _ (by (repeat(first|(with_reducible first|assumption|exact Below.refl _ _|refine je ?_|refine jl ?_)|((with_reducible refine jp ?_ ?_);first|focus(dsimp only;assumption)|focus(simp;done)|focus(dsimp only;omega))|(with_reducible refine bt ?_ (by assumption)))))).mono ?_);rintro e w2 ⟨rfl,rfl⟩)
 refine wp_region_held_drew (S:=fun W => W.cell? ⟨bh,oh + 2,none⟩ = some (.int .i64 x)) (by kernel_rfl) (((((Below.refl _ _).alloc (Nat.le_refl _) _).drew).cell (p:=⟨bh,oh + 2,none⟩) lh).trans c2) (fun hHeld => ?_)
 obtain ⟨d0,ed⟩ : ∃ v,v = (w.alloc (.cells #[.slice none 0 0,.int .i64 0,.slice none 0 0,.int .i64 0] 26)).drew:=⟨_,rfl⟩
 have bd0 : Below w.heap.size w d0:=(by rw [ed];exact ((Below.refl _ _).alloc (Nat.le_refl _) _).drew)
 have zd0 : blk d0 w.heap.size = some #[.slice none 0 0,.int .i64 0,.slice none 0 0,.int .i64 0]:=(by rw [ed];exact blk_drew (blk_alloc_new _ _ _ rfl))
 rw [← ed] at hHeld ⊢
 clear ed
 refine jK (v:=?_) 0 ?_ ?_
 rotate_left;focus(intro W h;(try dsimp only at h);go_simp;(try with_reducible rfl));(try simp only[Act.put,jA,jB,jC,jD,jE,jF])
 refine jK (v:=?_) 2 ?_ ?_
 rotate_left;focus(intro W h;(try dsimp only at h);go_simp;(try with_reducible rfl));(try simp only[Act.put,jA,jB,jC,jD,jE,jF])
 refine jK (v:=?_) 3 ?_ ?_
 rotate_left;focus(intro W h;(try dsimp only at h);go_simp;(try with_reducible rfl));(try simp only[Act.put,jA,jB,jC,jD,jE,jF])
 refine jK (v:=?_) 6 ?_ ?_
 rotate_left;focus(intro W h;(try dsimp only at h);go_simp;(try with_reducible rfl));(try simp only[Act.put,jA,jB,jC,jD,jE,jF])
 refine jK (v:=?_) 4 ?_ ?_
 rotate_left;focus(intro W h;(try dsimp only at h);go_simp;(try with_reducible rfl));(try simp only[Act.put,jA,jB,jC,jD,jE,jF])
 refine jK (v:=?_) 5 ?_ ?_
 rotate_left;focus(intro W h;(try dsimp only at h);go_simp;(try with_reducible rfl));(try simp only[Act.put,jA,jB,jC,jD,jE,jF])
 refine jK (v:=?_) 7 ?_ ?_
 rotate_left;focus(intro W h;(try dsimp only at h);go_simp;(try with_reducible rfl));(try simp only[Act.put,jA,jB,jC,jD,jE,jF])
 refine wpAnyH_ready (rs:=[1,8]) (by kernel_rfl) (by simp) ?_
 refine AllReadyH.cons rfl (fun K hK => ?_) ?_
 ·skip
  go_simp
  go_at_call 60
  (with_reducible refine (G.out _ bd0).mono ?_)
  rintro e U1 ⟨vv,rfl,ho1,hB⟩
  obtain ⟨a1,c1,rfl,R1,_⟩:=srow_of_owns ic_len ho1
  (try go_wp2_with fail)
  have A0 : upR (w.heap.size + 1) a1:=fun b off e => by subst e;have:=(ho1.lt b rfl).1;have:=blk_lt zd0;omega
  have A1:=A0.ne (Nat.lt_succ_self _)
  have bU1:=bt bd0 hB
  have zU1:=blk_below hB zd0
  clear ho1 hB
  refine hK.out _ _ ((bU1.cell (p:=⟨bh,oh + 2,none⟩) lh).trans c2) (fun _ => ?_)
  clear hK K
  (try simp only[Act.put,jA,jB,jC,jD,jE,jF])
  refine jR 8 (fun K hK => ?_)
  go_simp
  obtain ⟨V,eV⟩ : ∃ v,v = U1.alloc (.cells #[.int .i64 0,.int .i64 0,.int .i64 (x * q)] 3):=⟨_,rfl⟩
  obtain ⟨g,eg⟩ : ∃ v,v = U1.heap.size:=⟨_,rfl⟩
  have bV : Below w.heap.size w V:=(by rw [eV];exact bU1.alloc bU1.size _)
  have zV : blk V w.heap.size = some #[.slice none 0 0,.int .i64 0,.slice none 0 0,.int .i64 0]:=(by rw [eV];exact blk_alloc zU1 _)
  have kV : blk V g = some #[.int .i64 0,.int .i64 0,.int .i64 (x * q)]:=(by rw [eV];exact blk_alloc_new _ _ _ eg)
  have lg : w.heap.size ≤ g:=(by have:=blk_lt zU1;omega)
  have ng : g ≠ w.heap.size:=(by have:=blk_lt zU1;omega)
  have R1V:=R1.below (show Below U1.heap.size U1 V by rw [eV];exact (Below.refl _ _).alloc (Nat.le_refl _) _)
  clear R1
  have R1:=R1V
  clear R1V
  rw [← eV,← eg]
  clear eV eg
  refine hK.out _ _ ((bV.cell (p:=⟨bh,oh + 2,none⟩) lh).trans c2) (fun _ => ?_)
  clear hK K
  (try simp only[Act.put,jA,jB,jC,jD,jE,jF])
  refine jK (v:=?_) 9 ?_ ?_
  rotate_left;focus(intro W h;(try dsimp only at h);go_simp;(try with_reducible rfl));(try simp only[Act.put,jA,jB,jC,jD,jE,jF])
  refine jR 10 (fun K hK => ?_)
  have R9:=Lib.hid R1
  clear R1
  have nz:=kn zV
  go_simp
  refine hK.out _ _ (((((bV.setCell (Nat.le_refl _) _).setCell (Nat.le_refl _) _).setCell (Nat.le_refl _) _).setCell (Nat.le_refl _) _).cell (p:=⟨bh,oh + 2,none⟩) lh |>.trans c2) (fun _ => ?_)
  clear hK K
  (try simp only[Act.put,jA,jB,jC,jD,jE,jF])
  refine jK (v:=?_) 11 ?_ ?_
  rotate_left;focus(intro W h;(try dsimp only at h);go_simp;(try with_reducible rfl));(try simp only[Act.put,jA,jB,jC,jD,jE,jF])
  refine wpAnyH_done (by kernel_rfl) ?_ _
  go_wp2
  refine ret_blk (b:=w.heap.size) (c:=#[.slice a1 3 c1,.int .i64 q,.slice (some ⟨g,0,none⟩) 3 3,.int .i64 2]) (v:=.tuple #[.agg #[.slice a1 3 c1,.int .i64 q,.slice (some ⟨g,0,none⟩) 3 3,.int .i64 2],.int .i64 0]) (by have h9:=blk_set (i:=3) (v:=.int .i64 2) (blk_set (i:=2) (v:=.slice (some ⟨g,0,none⟩) 3 3) (blk_set (i:=1) (v:=.int .i64 q) (blk_set (i:=0) (v:=.slice a1 3 c1) zV)));exact h9) (fun W' hc => by simp [results,Tryd.results43,go_sem,hc]) rfl ?_
  refine ⟨(((bV.setCell (Nat.le_refl _) _).setCell (Nat.le_refl _) _).setCell (Nat.le_refl _) _).setCell (Nat.le_refl _) _,.inr ⟨HN.out,a1,c1,_,3,rfl,?_,?_,A0.mono (Nat.le_succ _),upR_at lg⟩⟩
  ·exact (((R9.out.setOtherE A1 _ _).setOtherE A1 _ _).setOtherE A1 _ _).setOtherE A1 _ _
  ·exact srow3 (blk_other (blk_other (blk_other (blk_other kV ng) ng) ng) ng)
 refine AllReadyH.cons rfl (fun K hK => ?_) AllReadyH.nil
 go_simp
 obtain ⟨V,eV⟩ : ∃ v,v = d0.alloc (.cells #[.int .i64 0,.int .i64 0,.int .i64 (x * q)] 3):=⟨_,rfl⟩
 obtain ⟨g,eg⟩ : ∃ v,v = d0.heap.size:=⟨_,rfl⟩
 have bV : Below w.heap.size w V:=(by rw [eV];exact bd0.alloc bd0.size _)
 have zV : blk V w.heap.size = some #[.slice none 0 0,.int .i64 0,.slice none 0 0,.int .i64 0]:=(by rw [eV];exact blk_alloc zd0 _)
 have kV : blk V g = some #[.int .i64 0,.int .i64 0,.int .i64 (x * q)]:=(by rw [eV];exact blk_alloc_new _ _ _ eg)
 have lg : w.heap.size ≤ g:=(by have:=blk_lt zd0;omega)
 have ng : g ≠ w.heap.size:=(by have:=blk_lt zd0;omega)
 rw [← eV,← eg]
 clear eV eg
 refine hK.out _ _ ((bV.cell (p:=⟨bh,oh + 2,none⟩) lh).trans c2) (fun _ => ?_)
 clear hK K
 (try simp only[Act.put,jA,jB,jC,jD,jE,jF])
 refine jR 1 (fun K hK => ?_)
 go_simp
 go_at_call 60
 (with_reducible refine (G.out _ bV).mono ?_)
 rintro e U1 ⟨vv,rfl,ho1,hB⟩
 obtain ⟨a1,c1,rfl,R1,_⟩:=srow_of_owns ic_len ho1
 (try go_wp2_with fail)
 have A0 : upR (w.heap.size + 1) a1:=fun b off e => by subst e;have:=(ho1.lt b rfl).1;have:=blk_lt zV;omega
 have A1:=A0.ne (Nat.lt_succ_self _)
 have bU1:=bt bV hB
 have zU1:=blk_below hB zV
 have kU1:=blk_below hB kV
 clear ho1 hB
 refine hK.out _ _ ((bU1.cell (p:=⟨bh,oh + 2,none⟩) lh).trans c2) (fun _ => ?_)
 clear hK K
 (try simp only[Act.put,jA,jB,jC,jD,jE,jF])
 refine jK (v:=?_) 9 ?_ ?_
 rotate_left;focus(intro W h;(try dsimp only at h);go_simp;(try with_reducible rfl));(try simp only[Act.put,jA,jB,jC,jD,jE,jF])
 refine jR 10 (fun K hK => ?_)
 have R9:=Lib.hid R1
 clear R1
 have nz:=kn zU1
 go_simp
 refine hK.out _ _ (((((bU1.setCell (Nat.le_refl _) _).setCell (Nat.le_refl _) _).setCell (Nat.le_refl _) _).setCell (Nat.le_refl _) _).cell (p:=⟨bh,oh + 2,none⟩) lh |>.trans c2) (fun _ => ?_)
 clear hK K
 (try simp only[Act.put,jA,jB,jC,jD,jE,jF])
 refine jK (v:=?_) 11 ?_ ?_
 rotate_left;focus(intro W h;(try dsimp only at h);go_simp;(try with_reducible rfl));(try simp only[Act.put,jA,jB,jC,jD,jE,jF])
 refine wpAnyH_done (by kernel_rfl) ?_ _
 go_wp2
 refine ret_blk (b:=w.heap.size) (c:=#[.slice a1 3 c1,.int .i64 q,.slice (some ⟨g,0,none⟩) 3 3,.int .i64 2]) (v:=.tuple #[.agg #[.slice a1 3 c1,.int .i64 q,.slice (some ⟨g,0,none⟩) 3 3,.int .i64 2],.int .i64 0]) (by have h9:=blk_set (i:=3) (v:=.int .i64 2) (blk_set (i:=2) (v:=.slice (some ⟨g,0,none⟩) 3 3) (blk_set (i:=1) (v:=.int .i64 q) (blk_set (i:=0) (v:=.slice a1 3 c1) zU1)));exact h9) (fun W' hc => by simp [results,Tryd.results43,go_sem,hc]) rfl ?_
 refine ⟨(((bU1.setCell (Nat.le_refl _) _).setCell (Nat.le_refl _) _).setCell (Nat.le_refl _) _).setCell (Nat.le_refl _) _,.inr ⟨HN.out,a1,c1,_,3,rfl,?_,?_,A0.mono (Nat.le_succ _),upR_at lg⟩⟩
 ·exact (((R9.out.setOtherE A1 _ _).setOtherE A1 _ _).setOtherE A1 _ _).setOtherE A1 _ _
 ·exact srow3 (blk_other (blk_other (blk_other (blk_other kU1 ng) ng) ng) ng)
theorem mk3 (W : World) : Sem.run Tryd.prog (Instr.makeSlice 22 (.int .i64 3) (.int .i64 3)) W = .ok (.slice (some ⟨W.heap.size,0,none⟩) 3 3) (W.alloc (.cells #[.int .i64 0,.int .i64 0,.int .i64 0] 3)):=by
  have h9:=run_make_row' 22 3 (.int .i64 0) 8 Tryd.underlying22 infoI64 rfl .i64 .i64 3 (by decide) (by decide) W
  rw [show madeCells #[Value.int .i64 0] 3 = #[.int .i64 0,.int .i64 0,.int .i64 0] by kernel_rfl] at h9
  exact h9
def RetN (x0 x1 x2 : Int) (w : World) (e : Ending) (w' : World) : Prop :=
  Below w.heap.size w w' ∧ (newD [x0,x1,x2] 1200 ≠ 0 ∧ e = .returned (.tuple #[.agg #[.slice none 0 0,.int .i64 0,.slice none 0 0,.int .i64 0,.slice none 0 0],.int .i64 (newD [x0,x1,x2] 1200)]) ∨
    newD [x0,x1,x2] 1200 = 0 ∧ ∃ a1 c1 a2 c2 a3 c3,e = .returned (.tuple #[.agg #[.slice a1 3 c1,.int .i64 1200,.slice a2 3 c2,.int .i64 2,.slice a3 3 c3],.int .i64 0]) ∧ SRow ic 1 w' a1 c1 [x0,x1,x2] ∧ SRow ic 1 w' a2 c2 [0,0,x2 * 1200] ∧ SRow ic 1 w' a3 c3 [0,0,0] ∧ upR w.heap.size a1 ∧ upR w.heap.size a2 ∧ upR w.heap.size a3)
set_option maxHeartbeats 3200000 in
theorem xnew_ok (x0 x1 x2 : Int) (w : World) (hn : newD [x0,x1,x2] 1200 = 0) :
  Calls Tryd.prog 19 #[.agg #[.int .i64 x0,.int .i64 x1,.int .i64 x2]] w fun e w' => RetN x0 x1 x2 w e w':=by
 obtain ⟨w1,hw1⟩ : ∃ v,v = (w.alloc (.cells #[.int .i64 x0,.int .i64 x1,.int .i64 x2] 45)).alloc (.cells #[.slice none 0 0,.int .i64 0,.slice none 0 0,.int .i64 0,.slice none 0 0] 28):=⟨_,rfl⟩
 have r0 : SRow ic 1 w1 (some ⟨w.heap.size,0,none⟩) 3 [x0,x1,x2]:=srow3 (by rw [hw1];exact blk_alloc (blk_alloc_new _ _ _ rfl) _)
 have g : Calls Tryd.prog 43 #[.slice (some ⟨w.heap.size,0,none⟩) 3 3,.int .i64 1200] w1 fun e w' => ∃ a1 c1 a2 c2,e = .returned (.tuple #[.agg #[.slice a1 3 c1,.int .i64 1200,.slice a2 3 c2,.int .i64 2],.int .i64 0]) ∧ Below w1.heap.size w1 w' ∧ SRow ic 1 w' a1 c1 [x0,x1,x2] ∧ SRow ic 1 w' a2 c2 [0,0,x2 * 1200] ∧ upR (w.heap.size + 2) a1 ∧ upR (w.heap.size + 2) a2:=by
  refine (dnew_ok _ 3 x0 x1 x2 1200 w1 r0 hn).mono ?_
  rintro e w' ⟨h1,⟨h2,_⟩|⟨_,a1,c1,a2,c2,h2,h3,h4,h5,h6⟩⟩
  ·exact absurd hn h2
  ·have e : w1.heap.size = w.heap.size + 2:=by rw [hw1];simp
   rw [e] at h5 h6
   exact ⟨a1,c1,a2,c2,h2,h1,h3,h4,h5,h6⟩
 have G:=Lib.hid g
 clear g
 rw [hw1] at G
 have HN:=Lib.hid hn
 have mk:=mk3
 clear hn r0 hw1 w1
 have t1 : ((0 : Int) != 0) = false:=rfl
 go_enter Tryd.func19,Tryd.ntmps19
 go_upto_region 4 with (go_at_call 43;(with_reducible refine (G.out).mono ?_);rintro e w2 ⟨a1,c1,a2,c2,rfl,h2,R1,R2,A01,A02⟩;(have b2 : Below w.heap.size w w2:=by (repeat(first|(with_reducible first|assumption|exact Below.refl _ _|refine je ?_|refine jl ?_)|((with_reducible refine jp ?_ ?_);first|focus(dsimp only;assumption)|focus(simp;done)|focus(dsimp only;omega))|(with_reducible refine bt ?_ (by assumption)))));(have z2 : blk w2 (w.heap.size + 1) = some #[.slice none 0 0,.int .i64 0,.slice none 0 0,.int .i64 0,.slice none 0 0]:=blk_below h2 (blk_alloc_new _ _ _ (by simp)));(have n2:=kn z2);clear h2)
 obtain ⟨V,eV⟩ : ∃ v,v = w2.alloc (.cells #[.slice a1 3 c1,.int .i64 1200,.slice a2 3 c2,.int .i64 2] 26):=⟨_,rfl⟩
 have hV : Below w2.heap.size w2 V:=(by rw [eV];exact (Below.refl _ _).alloc (Nat.le_refl _) _)
 have kV : blk V w2.heap.size = some #[.slice a1 3 c1,.int .i64 1200,.slice a2 3 c2,.int .i64 2]:=(by rw [eV];exact blk_alloc_new _ _ _ rfl)
 have R1V:=R1.below hV
 have R2V:=R2.below hV
 have bV:=bt b2 hV
 have zV:=blk_below hV z2
 obtain ⟨c,hc⟩ : ∃ c,c = w2.heap.size:=⟨_,rfl⟩
 have zc : w.heap.size + 1 < c:=(by rw [hc];exact blk_lt z2)
 rw [← hc] at kV
 rw [← eV,← hc]
 clear eV R1 R2 hV b2 z2 n2 hc
 refine wp_region_held_drew (S:=fun W => ∀ o,W.cell? ⟨c,o,none⟩ = (#[.slice a1 3 c1,.int .i64 1200,.slice a2 3 c2,.int .i64 2] : Array Value)[o]?) (by kernel_rfl) (fun o => blk_cell (blk_drew kV) o) (fun hHeld => ?_)
 obtain ⟨d0,ed⟩ : ∃ v,v = V.drew:=⟨_,rfl⟩
 have k0 : blk d0 c = some #[.slice a1 3 c1,.int .i64 1200,.slice a2 3 c2,.int .i64 2]:=(by rw [ed];exact blk_drew kV)
 have z0 : blk d0 (w.heap.size + 1) = some #[.slice none 0 0,.int .i64 0,.slice none 0 0,.int .i64 0,.slice none 0 0]:=(by rw [ed];exact blk_drew zV)
 have b0 : Below w.heap.size w d0:=(by rw [ed];exact bV.drew)
 have R1 : SRow ic 1 d0 a1 c1 _:=(by rw [ed];exact R1V)
 have R2 : SRow ic 1 d0 a2 c2 _:=(by rw [ed];exact R2V)
 rw [← ed] at hHeld ⊢
 clear ed kV zV bV R1V R2V
 have nc : c ≠ w.heap.size + 1:=by omega
 have A1:=A01.ne (Nat.lt_succ_self _)
 have A2:=A02.ne (Nat.lt_succ_self _)
 refine jK (v:=?_) 0 ?_ ?_
 rotate_left;focus(intro W h;(try dsimp only at h);go_simp;(try with_reducible rfl));(try simp only[Act.put,jA,jB,jC,jD,jE,jF])
 refine jR 1 (fun K hK => ?_)
 go_simp
 obtain ⟨U,eU⟩ : ∃ v,v = d0.alloc (.cells #[.int .i64 0,.int .i64 0,.int .i64 0] 3):=⟨_,rfl⟩
 obtain ⟨g,eg⟩ : ∃ v,v = d0.heap.size:=⟨_,rfl⟩
 have hU : Below d0.heap.size d0 U:=(by rw [eU];exact (Below.refl _ _).alloc (Nat.le_refl _) _)
 have kg : blk U g = some #[.int .i64 0,.int .i64 0,.int .i64 0]:=(by rw [eU];exact blk_alloc_new _ _ _ eg)
 have ng : g ≠ w.heap.size + 1:=(by have:=blk_lt z0;omega)
 have lg : w.heap.size ≤ g:=(by have:=blk_lt z0;omega)
 have zU:=blk_below hU z0
 have kU:=blk_below hU k0
 have bU:=bt b0 hU
 have R1U:=R1.below hU
 have R2U:=R2.below hU
 rw [← eU,← eg]
 clear eU eg hU
 refine hK.out _ _ (fun o => blk_cell kU o) (fun _ => ?_)
 clear hK K
 (try simp only[Act.put,jA,jB,jC,jD,jE,jF])
 refine jK (v:=?_) 2 ?_ ?_
 rotate_left;focus(intro W h;(try dsimp only at h);go_simp;(try with_reducible rfl));(try simp only[Act.put,jA,jB,jC,jD,jE,jF])
 refine jR 3 (fun K hK => ?_)
 have nz:=kn zU
 go_simp
 refine hK.out _ _ (fun o => blk_cell (blk_other (blk_other (blk_other (blk_other (blk_other (kU) nc) nc) nc) nc) nc) o) (fun _ => ?_)
 clear hK K
 (try simp only[Act.put,jA,jB,jC,jD,jE,jF])
 refine jK (v:=?_) 4 ?_ ?_
 rotate_left;focus(intro W h;(try dsimp only at h);go_simp;(try with_reducible rfl));(try simp only[Act.put,jA,jB,jC,jD,jE,jF])
 refine wpAnyH_done (by kernel_rfl) ?_ _
 go_wp2
 refine ret_blk (b:=w.heap.size + 1) (c:=#[.slice a1 3 c1,.int .i64 1200,.slice a2 3 c2,.int .i64 2,.slice (some ⟨g,0,none⟩) 3 3]) (v:=.tuple #[.agg #[.slice a1 3 c1,.int .i64 1200,.slice a2 3 c2,.int .i64 2,.slice (some ⟨g,0,none⟩) 3 3],.int .i64 0]) (by have h9:=blk_set (i:=4) (v:=.slice (some ⟨g,0,none⟩) 3 3) (blk_set (i:=3) (v:=.int .i64 2) (blk_set (i:=2) (v:=.slice a2 3 c2) (blk_set (i:=1) (v:=.int .i64 1200) (blk_set (i:=0) (v:=.slice a1 3 c1) (zU)))));exact h9) (fun W' hc => by simp [results,Tryd.results19,go_sem,hc]) rfl ?_
 refine ⟨(((((bU).setCell (Nat.le_succ _) _).setCell (Nat.le_succ _) _).setCell (Nat.le_succ _) _).setCell (Nat.le_succ _) _).setCell (Nat.le_succ _) _,.inr ⟨HN.out,a1,c1,a2,c2,_,3,rfl,?_,?_,srow3 (blk_other (blk_other (blk_other (blk_other (blk_other kg ng) ng) ng) ng) ng),A01.mono (Nat.le_add_right _ _),A02.mono (Nat.le_add_right _ _),upR_at lg⟩⟩
 ·exact (((((R1U).setOtherE A1 _ _).setOtherE A1 _ _).setOtherE A1 _ _).setOtherE A1 _ _).setOtherE A1 _ _
 ·exact (((((R2U).setOtherE A2 _ _).setOtherE A2 _ _).setOtherE A2 _ _).setOtherE A2 _ _).setOtherE A2 _ _
theorem infoSlE : (Tryd.prog.info? 22).map (fun i => (i.zero,i.size,i.bytes)) = some (some (.slice none 0 0),1,24):=by kernel_rfl
theorem made3 : madeCells #[Value.slice none 0 0] 3 = #[.slice none 0 0,.slice none 0 0,.slice none 0 0]:=by kernel_rfl
theorem wpList_assignE {P : Program} {ops : Array Oper} {rest : List Oper} {o : Oper} {a : Act} {w : World} {Q : Exit → Act → World → Prop} (hg : o.guard = none) (x : Operand) (v : Value) (ho : o.op = .assign x) (hv : a.eval x = v) (h : wpList P ops Q rest (a.put o.dst v) w) : wpList P ops Q (o :: rest) a w:=by
  refine wpList_plain hg fun K hK => ?_
  unfold Oper.wp
  simp [execOp,ho,hv,Result.andThen]
  exact hK _ _ h
def QAt (W : World) (ob : Nat) (q0 q1 q2 : List Int) : Prop:=∃ a0 c0 a1 c1 a2 c2,ob < W.heap.size ∧ W.rangeAt ob 0 [.slice a0 q0.length c0,.slice a1 q1.length c1,.slice a2 q2.length c2] ∧ SRow ic 1 W a0 c0 q0 ∧ SRow ic 1 W a1 c1 q1 ∧ SRow ic 1 W a2 c2 q2
theorem QAt.below {W W' : World} {ob : Nat} {q0 q1 q2 : List Int} (h : QAt W ob q0 q1 q2) (hb : Below W.heap.size W W') : QAt W' ob q0 q1 q2:=by
  obtain ⟨a0,c0,a1,c1,a2,c2,h1,h2,h3,h4,h5⟩:=h
  exact ⟨a0,c0,a1,c1,a2,c2,Nat.lt_of_lt_of_le h1 hb.size,range_below h1 h2 hb,h3.below hb,h4.below hb,h5.below hb⟩
def QAtU (W : World) (ob : Nat) (q0 q1 q2 : List Int) : Prop:=∃ a0 c0 a1 c1 a2 c2,ob < W.heap.size ∧ W.rangeAt ob 0 [.slice a0 q0.length c0,.slice a1 q1.length c1,.slice a2 q2.length c2] ∧ SRow ic 1 W a0 c0 q0 ∧ SRow ic 1 W a1 c1 q1 ∧ SRow ic 1 W a2 c2 q2 ∧ upR ob a0 ∧ upR ob a1 ∧ upR ob a2
def Q3 (W : World) (ob : Nat) (s0 s1 s2 : Value) (q0 q1 q2 : List Int) : Prop :=
  blk W ob = some #[s0,s1,s2] ∧ W.ownsRow (ob + 1) 3 1 s0 q0.length (rowC ic q0) ∧ W.ownsRow (ob + 1) 3 1 s1 q1.length (rowC ic q1) ∧ W.ownsRow (ob + 1) 3 1 s2 q2.length (rowC ic q2) ∧ apartV s0 s1 ∧ apartV s0 s2 ∧ apartV s1 s2
theorem Q3.below {W W' : World} {ob : Nat} {s0 s1 s2 : Value} {q0 q1 q2 : List Int} (h : Q3 W ob s0 s1 s2 q0 q1 q2) (hb : Below W.heap.size W W') : Q3 W' ob s0 s1 s2 q0 q1 q2 :=
  ⟨blk_below hb h.1,owns_belowS h.2.1 hb,owns_belowS h.2.2.1 hb,owns_belowS h.2.2.2.1 hb,h.2.2.2.2⟩
theorem apart_new {W1 : World} {s v v' : Value} (ha : apartV s v) (hf : v'.ownBlock = s.ownBlock ∨ v'.ownBlock = some W1.heap.size) (hl : ∀ k,v.ownBlock = some k → k < W1.heap.size) : apartV v' v:=by
  intro k hk e
  rcases hf with h|h
  · exact ha k (h ▸ hk) e
  · rw [h] at hk
    have:=hl k e
    cases hk
    omega
theorem Q3.put0 {W1 W2 : World} {ob : Nat} {s0 s1 s2 v' : Value} {q0 q1 q2 q' : List Int} (h : Q3 W1 ob s0 s1 s2 q0 q1 q2) (hg : W1.grownBy W2 s0.ownBlock) (hf : v'.ownBlock = s0.ownBlock ∨ v'.ownBlock = some W1.heap.size) (ho : W2.ownsRow (ob + 1) 3 1 v' q'.length (rowC ic q')) : Q3 (W2.setCell ⟨ob,0,none⟩ v') ob v' s1 s2 q' q1 q2:=by
  have hb : blk W2 ob = some #[s0,s1,s2]:=(blk_kept (hg.block ob (blk_lt h.1) (fun e => by have:=((h.2.1).lt ob e.symm).1;omega))).trans h.1
  exact ⟨blk_set (i:=0) (v:=v') hb,owns_setO ho (Nat.lt_succ_self _) _ _,owns_setO (owns_keptE (h.2.2.1) hg (fun k e e2 => h.2.2.2.2.1 k e2 e)) (Nat.lt_succ_self _) _ _,owns_setO (owns_keptE (h.2.2.2.1) hg (fun k e e2 => h.2.2.2.2.2.1 k e2 e)) (Nat.lt_succ_self _) _ _,(apart_new (v:=s1) (v':=v') (h.2.2.2.2.1) hf (fun k e => (h.2.2.1.lt k e).2)),(apart_new (v:=s2) (v':=v') (h.2.2.2.2.2.1) hf (fun k e => (h.2.2.2.1.lt k e).2)),h.2.2.2.2.2.2⟩
theorem Q3.put1 {W1 W2 : World} {ob : Nat} {s0 s1 s2 v' : Value} {q0 q1 q2 q' : List Int} (h : Q3 W1 ob s0 s1 s2 q0 q1 q2) (hg : W1.grownBy W2 s1.ownBlock) (hf : v'.ownBlock = s1.ownBlock ∨ v'.ownBlock = some W1.heap.size) (ho : W2.ownsRow (ob + 1) 3 1 v' q'.length (rowC ic q')) : Q3 (W2.setCell ⟨ob,1,none⟩ v') ob s0 v' s2 q0 q' q2:=by
  have hb : blk W2 ob = some #[s0,s1,s2]:=(blk_kept (hg.block ob (blk_lt h.1) (fun e => by have:=((h.2.2.1).lt ob e.symm).1;omega))).trans h.1
  exact ⟨blk_set (i:=1) (v:=v') hb,owns_setO (owns_keptE (h.2.1) hg (fun k e e2 => (h.2.2.2.2.1).symm k e2 e)) (Nat.lt_succ_self _) _ _,owns_setO ho (Nat.lt_succ_self _) _ _,owns_setO (owns_keptE (h.2.2.2.1) hg (fun k e e2 => h.2.2.2.2.2.2 k e2 e)) (Nat.lt_succ_self _) _ _,(apart_new (v:=s0) (v':=v') ((h.2.2.2.2.1).symm) hf (fun k e => (h.2.1.lt k e).2)).symm,h.2.2.2.2.2.1,(apart_new (v:=s2) (v':=v') (h.2.2.2.2.2.2) hf (fun k e => (h.2.2.2.1.lt k e).2))⟩
theorem Q3.put2 {W1 W2 : World} {ob : Nat} {s0 s1 s2 v' : Value} {q0 q1 q2 q' : List Int} (h : Q3 W1 ob s0 s1 s2 q0 q1 q2) (hg : W1.grownBy W2 s2.ownBlock) (hf : v'.ownBlock = s2.ownBlock ∨ v'.ownBlock = some W1.heap.size) (ho : W2.ownsRow (ob + 1) 3 1 v' q'.length (rowC ic q')) : Q3 (W2.setCell ⟨ob,2,none⟩ v') ob s0 s1 v' q0 q1 q':=by
  have hb : blk W2 ob = some #[s0,s1,s2]:=(blk_kept (hg.block ob (blk_lt h.1) (fun e => by have:=((h.2.2.2.1).lt ob e.symm).1;omega))).trans h.1
  exact ⟨blk_set (i:=2) (v:=v') hb,owns_setO (owns_keptE (h.2.1) hg (fun k e e2 => (h.2.2.2.2.2.1).symm k e2 e)) (Nat.lt_succ_self _) _ _,owns_setO (owns_keptE (h.2.2.1) hg (fun k e e2 => (h.2.2.2.2.2.2).symm k e2 e)) (Nat.lt_succ_self _) _ _,owns_setO ho (Nat.lt_succ_self _) _ _,h.2.2.2.2.1,(apart_new (v:=s0) (v':=v') ((h.2.2.2.2.2.1).symm) hf (fun k e => (h.2.1.lt k e).2)).symm,(apart_new (v:=s1) (v':=v') ((h.2.2.2.2.2.2).symm) hf (fun k e => (h.2.2.1.lt k e).2)).symm⟩
theorem SRow.keptE {α : Type} {enc : α → List Value} {k : Nat} {w w' : World} {a : Option Addr} {cap : Nat} {l : List α} {row : Option Nat} (h : SRow enc k w a cap l) (hg : w.grownBy w' row) (hne : ∀ b off,a = some ⟨b,off,none⟩ → row ≠ some b) : SRow enc k w' a cap l:=by
  obtain ⟨h1,h2,h3,h4⟩:=h
  refine ⟨h1,h2,h3,fun h0 => ?_⟩
  obtain ⟨b,off,e,hlt,hc⟩:=h4 h0
  refine ⟨b,off,e,Nat.lt_of_lt_of_le hlt hg.size,fun i hi j u hu => ?_⟩
  rw [World.cell?_of_block (w:=w) (hg.block b hlt (fun e2 => hne b off e e2.symm))]
  exact hc i hi j u hu
theorem sortOwn_any (c : Nat) (a : Option Addr) (cap : Nat) (l : List Bn) (q : List Int) (a3 : Option Addr) (c3 B : Nat) (hq : q.length ≤ 20) (hI : ∀ x ∈ l,BnI x) (hm : ∀ x ∈ q,∃ i : Nat,x = i ∧ i < l.length) (W : World) (hHd : HdQ c a cap l W) (hc : c < B) (hb : 0 < l.length → ∀ b off,a = some ⟨b,off,none⟩ → b < B)
    (ho : W.ownsRow B 3 1 (.slice a3 q.length c3) q.length (rowC ic q)) :
    Calls Tryd.prog 70 #[.slice a3 q.length c3,.func (.func 71) #[] #[.pointer (some ⟨c,0,none⟩)]] W fun e w' => e = .returned (.tuple #[]) ∧ W.grownBy w' (Value.slice a3 q.length c3).ownBlock ∧ SRow ic 1 w' a3 c3 (isort (ltQ l) q) ∧ HdQ c a cap l w':=by
  rcases Nat.eq_zero_or_pos q.length with h0|h0
  · obtain rfl:=List.length_eq_zero_iff.1 h0
    obtain ⟨a4,c4,e4,hS,_⟩:=srow_of_owns ic_len ho
    cases e4
    refine (sortI_none a3 c3 _ W).mono ?_
    rintro e w' ⟨rfl,rfl⟩
    exact ⟨rfl,⟨rfl,rfl,rfl,Nat.le_refl _,fun _ _ _ => rfl⟩,hS,hHd⟩
  · have hl0 : 0 < l.length:=by
      obtain ⟨i,_,hi⟩:=hm q[0] (List.getElem_mem _)
      omega
    replace hb:=hb hl0
    rcases ho.2 with ⟨_,e⟩|⟨g,cap3,cur,e,hgb,hg,hcl,hcm,hcs,hct⟩
    · omega
    cases e
    obtain ⟨sp,hsp⟩ : ∃ sp,sp = cur.toList.drop (q.length * 1):=⟨_,rfl⟩
    have hbg : blk W g = some (rowC ic q ++ sp).toArray:=by rw [blk_of hg,hsp,← hct,List.take_append_drop]
    refine (sortI_any g c3 c q sp h0 hq hcl (HdQ c a cap l) (ltQ l) (cmQ l) (ltQ_cm l) (fun W W' h hb => h.below hb)
      (fun W o v h => ⟨blk_other h.1 (by show c ≠ g;omega),h.2.setOtherE (fun b off e => by have:=hb b off e;omega) _ _⟩)
      (fun W h => ⟨blk_drew h.1,h.2⟩)
      (fun x hx y hy W h => by obtain ⟨i,rfl,hi⟩:=hm x hx;obtain ⟨k,rfl,hk⟩:=hm y hy;exact qcl_any l i k hi hk hI c a cap W h) W hHd hbg).mono ?_
    rintro e w' ⟨rfl,h1,h2,h3⟩
    exact ⟨rfl,h1,⟨by rw [isort_length];exact hcl,hcm,(fun h => by cases h),fun _ => ⟨g,0,rfl,blk_lt h2,fun i hi => by rw [Nat.zero_add];exact range_row ic_len h2 (List.getElem?_eq_getElem hi)⟩⟩,h3⟩
set_option maxHeartbeats 6400000 in
theorem queues_any (a : Option Addr) (cap : Nat) (l : List Bn) (hl : l.length ≤ 20) (hI : ∀ x ∈ l,BnI x) (hp : ∀ x ∈ l,0 ≤ x.pr ∧ x.pr ≤ 2) (w : World) (hrow : SRow bn 9 w a cap l) :
  Calls Tryd.prog 46 #[.slice a l.length cap] w fun e w' => ∃ ob,e = .returned (.slice (some ⟨ob,0,none⟩) 3 3) ∧ w.heap.size ≤ ob ∧ QAtU w' ob (queS l 0) (queS l 1) (queS l 2) ∧ Below w.heap.size w w':=by
 obtain ⟨i0,hi,hz0,hz1,hz2⟩:=info_parts infoI64
 have Hi:=Lib.hid hi;have Hz0:=Lib.hid hz0;have Hz1:=Lib.hid hz1;have Hz2:=Lib.hid hz2
 have HR:=Lib.hid hrow;have HI:=Lib.hid hI;have HP:=Lib.hid hp
 have hcap:=hrow.1
 have hmax:=hrow.2.1
 unfold maxLen at hmax
 clear hi hz0 hz1 hz2 hrow hI hp
 go_enter Tryd.func46,Tryd.ntmps46
 obtain ⟨i2,hi',hz0',hz1',hz2'⟩:=info_parts infoSlE
 have Hj:=Lib.hid hi';have Hy0:=Lib.hid hz0';have Hy1:=Lib.hid hz1';have Hy2:=Lib.hid hz2'
 clear hi' hz0' hz1' hz2'
 go_wp2_with (go_loud (refine wpList_make_row _ rfl _ _ 50 rfl 22 i2 (.slice none 0 0) Tryd.underlying50 Hj.out Hy0.out Hy1.out rfl .i64 .i64 3 rfl rfl (by rw [Hy2.out];omega) (by omega) ?_))
 obtain ⟨V,hV⟩ : ∃ V,V = (w.alloc (.cells #[.slice a l.length cap] 23)).alloc (.cells (madeCells #[.slice none 0 0] 3) 22):=⟨_,rfl⟩
 have kV : blk V w.heap.size = some #[.slice a l.length cap]:=by rw [hV];exact blk_alloc (blk_alloc_new _ _ _ rfl) _
 have oV : blk V (w.heap.size + 1) = some #[.slice none 0 0,.slice none 0 0,.slice none 0 0]:=by rw [hV,← made3];exact blk_alloc_new _ _ _ (by simp)
 have bV : Below w.heap.size w V:=by rw [hV];exact ((Below.refl _ _).alloc (Nat.le_refl _) _).alloc (by simp) _
 have QV : Q3 V (w.heap.size + 1) (.slice none 0 0) (.slice none 0 0) (.slice none 0 0) (idxQ l 0 0) (idxQ l 1 0) (idxQ l 2 0):=⟨oV,World.ownsRow_nil _ _ _ _,World.ownsRow_nil _ _ _ _,World.ownsRow_nil _ _ _ _,(fun k e => by cases e),(fun k e => by cases e),(fun k e => by cases e)⟩
 rw [← hV]
 have KV:=Lib.hid (And.intro kV QV)
 clear hV kV oV QV
 go_loopw [11] (fun i wr => ∃ (j : Nat) (s0 s1 s2 : Value),i = .int .i64 j ∧ j ≤ l.length ∧ Below w.heap.size w wr ∧ Hid (blk wr w.heap.size = some #[.slice a l.length cap] ∧ Q3 wr (w.heap.size + 1) s0 s1 s2 (idxQ l 0 j) (idxQ l 1 j) (idxQ l 2 j))) (fun i _ => l.length - (intOf i).toNat)
 case atStart => exact ⟨0,.slice none 0 0,.slice none 0 0,.slice none 0 0,rfl,Nat.zero_le _,bV,KV⟩
 case round =>
  clear bV KV
  obtain ⟨j,s0,s1,s2,rfl,hj,hB,HQ⟩:=hrel
  by_cases hlt : j < l.length
  ·have hltz : (j : Int) < (l.length : Int):=by omega
   obtain ⟨b,off,hab,hbl,hcs⟩:=HR.out.2.2.2 (by omega)
   subst hab
   obtain ⟨x,hx⟩ : ∃ x,x = l[j]:=⟨_,rfl⟩
   have hr:=hcs j hlt
   rw [← hx] at hr
   have hrw:=range_below hbl hr hB
   have HX:=Lib.hid hx
   have hpx:=HP.out x (by rw [hx];exact List.getElem_mem _)
   clear hx hr hcs
   have bwr : b < wr.heap.size:=Nat.lt_of_lt_of_le hbl hB.size
   go_upto_region 4 with fail
   refine wp_region_tail0 2 ?_
   intro W0 hE hN
   have hrW : W0.rangeAt b (off + j * 9) (bn x):=(by rw [hE.out];exact hrw)
   have hBW : Below w.heap.size w W0:=(by rw [hE.out];exact hB)
   have hQW:=HQ
   rw [← hE.out] at hQW
   have bW : b < W0.heap.size:=(by rw [hE.out];exact bwr)
   clear hE hrw hB bwr HQ
   simp only [List.take_succ_cons,List.take_zero,List.drop_succ_cons,List.drop_zero]
   repeat (go_big_quiet_step (fail))
   refine wpQuiet_nil ?_
   rintro _ ⟨x',rfl⟩
   have hr1:=range_below bW hrW x'.ok
   have hB1:=bt hBW x'.ok
   have hQ1:=Lib.hid (And.intro (blk_below x'.ok hQW.out.1) (hQW.out.2.below x'.ok))
   obtain ⟨u,hu⟩ : ∃ u,u = x'.wd:=⟨_,rfl⟩
   rw [← hu] at hr1 hB1 hQ1 ⊢
   clear hu x' hN hrW hBW bW hQW
   refine wpList_load_mid rfl 38 (.tmp 14) rfl b (off + j * 9) rfl (bn x) _ hr1 Tryd.underlying38 rfl (by kernel_rfl) ?_
   conv => arg 5;simp [Act.put]
   refine Go.Great.wpList_allocTo rfl (some 5) rfl (.pointer (some ⟨u.heap.size,0,none⟩)) (.cells #[.int .i64 0,.int .u64 0,.int .i64 0,.int .i64 0,.int .i64 0,.int .i64 0,.int .i64 0,.int .i64 0,.string ⟨#[]⟩] 38) (by kernel_rfl) ?_
   conv => arg 5;simp [Act.put]
   refine wpList_assignE rfl (.tmp 13) (.int .i64 j) rfl rfl ?_
   conv => arg 5;simp [Act.put]
   refine wpList_store_midB 38 (.tmp 5) (.tmp 15) u.heap.size 0 #[.int .i64 0,.int .u64 0,.int .i64 0,.int .i64 0,.int .i64 0,.int .i64 0,.int .i64 0,.int .i64 0,.string ⟨#[]⟩] #[.int .i64 x.no,.int .u64 x.sq,.int .i64 x.of,.int .i64 x.de,.int .i64 x.pr,.int .i64 x.bo,.int .i64 x.li,.int .i64 x.to,.string x.da] #[.int .i64 x.no,.int .u64 x.sq,.int .i64 x.of,.int .i64 x.de,.int .i64 x.pr,.int .i64 x.bo,.int .i64 x.li,.int .i64 x.to,.string x.da] (blk_alloc_new _ _ _ rfl) rfl rfl rfl rfl (by simp) (by kernel_rfl) (by kernel_rfl) (by kernel_rfl) ?_
   intro w1 kb1 o1 B1 z1
   conv => arg 5;simp [Act.put]
   have hb1 : Below w.heap.size w w1:=B1 _ _ hB1.size (hB1.alloc hB1.size _)
   have hBu : Below u.heap.size u w1:=B1 _ _ (Nat.le_refl _) ((Below.refl _ _).alloc (Nat.le_refl _) _)
   have hQ2:=Lib.hid (And.intro (blk_below hBu hQ1.out.1) (hQ1.out.2.below hBu))
   obtain ⟨c0,hc0⟩ : ∃ c,c = u.heap.size:=⟨_,rfl⟩
   have ls0 : ∀ k,s0.ownBlock = some k → k < c0:=fun k e => by rw [hc0];exact (hQ1.out.2.2.1.lt k e).2
   have ls1 : ∀ k,s1.ownBlock = some k → k < c0:=fun k e => by rw [hc0];exact (hQ1.out.2.2.2.1.lt k e).2
   have ls2 : ∀ k,s2.ownBlock = some k → k < c0:=fun k e => by rw [hc0];exact (hQ1.out.2.2.2.2.1.lt k e).2
   have oc : w.heap.size + 1 < c0:=by rw [hc0];exact blk_lt hQ1.out.2.1
   rw [← hc0] at kb1 ⊢
   have LS0:=Lib.hid ls0;have LS1:=Lib.hid ls1;have LS2:=Lib.hid ls2
   clear o1 B1 z1 hr1 hB1 hBu hQ1 hc0 u ls0 ls1 ls2
   go_wp2_with fail
   refine wp_region_held_drew (S:=fun W => ∀ o,W.cell? ⟨c0,o,none⟩ = (#[.int .i64 x.no,.int .u64 x.sq,.int .i64 x.of,.int .i64 x.de,.int .i64 x.pr,.int .i64 x.bo,.int .i64 x.li,.int .i64 x.to,.string x.da] : Array Value)[o]?) (by kernel_rfl) (fun o => blk_cell (blk_drew kb1) o) (fun hHeld => ?_)
   obtain ⟨d0,ed⟩ : ∃ v,v = w1.drew:=⟨_,rfl⟩
   have kbd0 : blk d0 c0 = some #[.int .i64 x.no,.int .u64 x.sq,.int .i64 x.of,.int .i64 x.de,.int .i64 x.pr,.int .i64 x.bo,.int .i64 x.li,.int .i64 x.to,.string x.da]:=(by rw [ed];exact blk_drew kb1)
   have bd0 : Below w.heap.size w d0:=(by rw [ed];exact hb1.drew)
   have kcd0 : blk d0 w.heap.size = some #[.slice (some ⟨b,off,none⟩) l.length cap]:=(by rw [ed];exact blk_drew hQ2.out.1)
   have QD:=Lib.hid (by rw [ed];exact hQ2.out.2 : Q3 d0 (w.heap.size + 1) s0 s1 s2 (idxQ l 0 j) (idxQ l 1 j) (idxQ l 2 j))
   rw [← ed] at hHeld ⊢
   clear ed kb1 hb1 hQ2
   have nq:=kn QD.out.1
   have lq0:=idxQ_len l 0 j;have lq1:=idxQ_len l 1 j;have lq2:=idxQ_len l 2 j
   rcases (by omega : x.pr = 0 ∨ x.pr = 1 ∨ x.pr = 2) with hpr|hpr|hpr
   ·clear hpx
    refine jK (v:=?_) 0 ?_ ?_
    rotate_left;focus(intro W h;(try dsimp only at h);go_simp;(try with_reducible rfl));(try simp only[Act.put,jA,jB,jC,jD,jE,jF])
    refine jK (v:=?_) 1 ?_ ?_
    rotate_left;focus(intro W h;(try dsimp only at h);go_simp;(try with_reducible rfl));(try simp only[Act.put,jA,jB,jC,jD,jE,jF])
    refine jK (v:=?_) 2 ?_ ?_
    rotate_left;focus(intro W h;(try dsimp only at h);go_simp;(try with_reducible rfl));(try simp only[Act.put,jA,jB,jC,jD,jE,jF])
    refine jK (v:=?_) 3 ?_ ?_
    rotate_left;focus(intro W h;(try dsimp only at h);go_simp;(try with_reducible rfl));(try simp only[Act.put,jA,jB,jC,jD,jE,jF])
    refine jK (v:=?_) 4 ?_ ?_
    rotate_left;focus(intro W h;(try dsimp only at h);go_simp;(try with_reducible rfl));(try simp only[Act.put,jA,jB,jC,jD,jE,jF])
    refine jK (v:=?_) 5 ?_ ?_
    rotate_left;focus(intro W h;(try dsimp only at h);go_simp;(try with_reducible rfl));(try simp only[Act.put,jA,jB,jC,jD,jE,jF])
    refine jK (v:=?_) 6 ?_ ?_
    rotate_left;focus(intro W h;(try dsimp only at h);go_simp;(try with_reducible rfl));(try simp only[Act.put,jA,jB,jC,jD,jE,jF])
    refine jK (v:=?_) 8 ?_ ?_
    rotate_left;focus(intro W h;(try dsimp only at h);go_simp;(try with_reducible rfl));(try simp only[Act.put,jA,jB,jC,jD,jE,jF])
    refine wpAnyH_ready (rs:=[7,9]) (by kernel_rfl) (by simp) ?_
    refine AllReadyH.cons rfl (fun K hK => ?_) ?_
    ·skip
     go_simp
     refine hK.out _ _ (fun o => blk_cell (kbd0) o) (fun _ => ?_)
     clear hK K
     (try simp only[Act.put,jA,jB,jC,jD,jE,jF])
     refine jR 9 (fun K hK => ?_)
     go_simp
     refine hK.out _ _ (fun o => blk_cell (blk_alloc kbd0 _) o) (fun _ => ?_)
     clear hK K
     (try simp only[Act.put,jA,jB,jC,jD,jE,jF])
     obtain ⟨V,eV⟩ : ∃ v,v = d0.alloc (.cells #[.int .i64 j] 3):=⟨_,rfl⟩
     obtain ⟨n1,en⟩ : ∃ v,v = d0.heap.size:=⟨_,rfl⟩
     have kbV : blk V c0 = some #[.int .i64 x.no,.int .u64 x.sq,.int .i64 x.of,.int .i64 x.de,.int .i64 x.pr,.int .i64 x.bo,.int .i64 x.li,.int .i64 x.to,.string x.da]:=(by rw [eV];exact blk_alloc kbd0 _)
     have bV : Below w.heap.size w V:=(by rw [eV];exact bd0.alloc bd0.size _)
     have hdV : Below d0.heap.size d0 V:=(by rw [eV];exact (Below.refl _ _).alloc (Nat.le_refl _) _)
     have QV:=Lib.hid (QD.out.below hdV)
     have kcV:=blk_below hdV kcd0
     have zV : blk V n1 = some #[.int .i64 j]:=(by rw [eV,en];exact blk_alloc_new _ _ _ rfl)
     have cV:=blk_lt kbV
     rw [← eV,← en]
     clear eV en hdV
     have nqV:=kn QV.out.1
     refine jR 10 (fun K hK => ?_)
     refine wp_append_fresh (.tmp 23) (.tmp 25) 22 rfl (w.heap.size + 2) 3 i0 (.int .i64 0) 1 8 Tryd.underlying22 Hi.out Hz0.out Hz1.out Hz2.out rfl (by decide) s0 (idxQ l 0 j).length (rowC ic (idxQ l 0 j)) rfl QV.out.2.1 ⟨n1,0,none⟩ 1 1 [.int .i64 j] rfl rfl (fun jj u hj => (by rw [Addr.add_mid,Nat.zero_add,blk_cell zV];simpa using hj)) (ic_one (j : Int)) (by decide) (by unfold maxLen;omega) (by omega) (by have:=QV.out.1;have:=blk_lt this;omega) ?_
     intro v' W5 ho hg hf
     have ho2 : W5.ownsRow (w.heap.size + 1 + 1) 3 1 v' (idxQ l 0 j ++ [(j : Int)]).length (rowC ic (idxQ l 0 j ++ [(j : Int)])):=(by rw [List.length_append,rowC_append,rowC_one];exact ho)
     have kb5 : blk W5 c0 = some #[.int .i64 x.no,.int .u64 x.sq,.int .i64 x.of,.int .i64 x.de,.int .i64 x.pr,.int .i64 x.bo,.int .i64 x.li,.int .i64 x.to,.string x.da]:=(blk_kept (hg.block c0 cV (fun e => by have:=LS0.out c0 e.symm;omega))).trans kbV
     have b5 : Below w.heap.size w W5:=bV.grown hg bV.size (fun k e => by have:=((QV.out.2.1).lt k e).1;omega)
     have kc5 : blk W5 w.heap.size = some #[.slice (some ⟨b,off,none⟩) l.length cap]:=(blk_kept (hg.block _ (blk_lt kcV) (fun e => by have:=((QV.out.2.1).lt _ e.symm).1;omega))).trans kcV
     have Q5:=Lib.hid (QV.out.put0 hg hf ho2)
     have nq5:=kn (show blk W5 (w.heap.size + 1) = some #[s0,s1,s2] from (blk_kept (hg.block _ (blk_lt QV.out.1) (fun e => by have:=((QV.out.2.1).lt _ e.symm).1;omega))).trans QV.out.1)
     obtain ⟨a5,c5,rfl,_,_⟩:=srow_of_owns ic_len ho2
     have h9:=Q5.out
     rw [List.length_append,List.length_singleton] at h9
     replace Q5:=Lib.hid h9
     clear h9
     refine hK.out _ _ (fun o => blk_cell (kb5) o) (fun _ => ?_)
     clear hK K hg hf ho ho2
     (try simp only[Act.put,jA,jB,jC,jD,jE,jF])
     refine jK (v:=?_) 11 ?_ ?_
     rotate_left;focus(intro W h;(try dsimp only at h);go_simp;(try with_reducible rfl));(try simp only[Act.put,jA,jB,jC,jD,jE,jF])
     refine jR 12 (fun K hK => ?_)
     go_simp
     refine hK.out _ _ (fun o => blk_cell (blk_other kb5 (show c0 ≠ w.heap.size + 1 by omega)) o) (fun _ => ?_)
     clear hK K
     (try simp only[Act.put,jA,jB,jC,jD,jE,jF])
     refine wpAnyH_done (by kernel_rfl) ?_ _
     obtain ⟨X,eX⟩ : ∃ v,v = W5.setCell ⟨w.heap.size + 1,0,none⟩ (.slice a5 ((idxQ l 0 j).length + 1) c5):=⟨_,rfl⟩
     have bX : Below w.heap.size w X:=(by rw [eX];exact b5.setCell (Nat.le_succ _) _)
     have QX : Hid (blk X w.heap.size = some #[.slice (some ⟨b,off,none⟩) l.length cap] ∧ Q3 X (w.heap.size + 1) (.slice a5 ((idxQ l 0 j).length + 1) c5) s1 s2 (idxQ l 0 (j + 1)) (idxQ l 1 (j + 1)) (idxQ l 2 (j + 1))):=Lib.hid (by
      rw [idxQ_yes hlt (show l[j].pr = 0 by rw [← HX.out];exact hpr),idxQ_no hlt (show l[j].pr ≠ 1 by rw [← HX.out,hpr];decide),idxQ_no hlt (show l[j].pr ≠ 2 by rw [← HX.out,hpr];decide)]
      rw [eX]
      exact ⟨blk_other kc5 (show w.heap.size ≠ w.heap.size + 1 by omega),Q5.out⟩)
     rw [← eX]
     clear eX hpr Q5 kc5 kb5 b5 nq5
     go_wp2
     go_roundw
     case rel => exact ⟨j + 1,(.slice a5 ((idxQ l 0 j).length + 1) c5),s1,s2,by go_num,by omega,bX,QX⟩
     case measure => simp [intOf];omega
    refine AllReadyH.cons rfl (fun K hK => ?_) AllReadyH.nil
    go_simp
    refine hK.out _ _ (fun o => blk_cell (blk_alloc kbd0 _) o) (fun _ => ?_)
    clear hK K
    (try simp only[Act.put,jA,jB,jC,jD,jE,jF])
    obtain ⟨V,eV⟩ : ∃ v,v = d0.alloc (.cells #[.int .i64 j] 3):=⟨_,rfl⟩
    obtain ⟨n1,en⟩ : ∃ v,v = d0.heap.size:=⟨_,rfl⟩
    have kbV : blk V c0 = some #[.int .i64 x.no,.int .u64 x.sq,.int .i64 x.of,.int .i64 x.de,.int .i64 x.pr,.int .i64 x.bo,.int .i64 x.li,.int .i64 x.to,.string x.da]:=(by rw [eV];exact blk_alloc kbd0 _)
    have bV : Below w.heap.size w V:=(by rw [eV];exact bd0.alloc bd0.size _)
    have hdV : Below d0.heap.size d0 V:=(by rw [eV];exact (Below.refl _ _).alloc (Nat.le_refl _) _)
    have QV:=Lib.hid (QD.out.below hdV)
    have kcV:=blk_below hdV kcd0
    have zV : blk V n1 = some #[.int .i64 j]:=(by rw [eV,en];exact blk_alloc_new _ _ _ rfl)
    have cV:=blk_lt kbV
    rw [← eV,← en]
    clear eV en hdV
    have nqV:=kn QV.out.1
    refine jR 7 (fun K hK => ?_)
    go_simp
    refine hK.out _ _ (fun o => blk_cell (kbV) o) (fun _ => ?_)
    clear hK K
    (try simp only[Act.put,jA,jB,jC,jD,jE,jF])
    refine jR 10 (fun K hK => ?_)
    refine wp_append_fresh (.tmp 23) (.tmp 25) 22 rfl (w.heap.size + 2) 3 i0 (.int .i64 0) 1 8 Tryd.underlying22 Hi.out Hz0.out Hz1.out Hz2.out rfl (by decide) s0 (idxQ l 0 j).length (rowC ic (idxQ l 0 j)) rfl QV.out.2.1 ⟨n1,0,none⟩ 1 1 [.int .i64 j] rfl rfl (fun jj u hj => (by rw [Addr.add_mid,Nat.zero_add,blk_cell zV];simpa using hj)) (ic_one (j : Int)) (by decide) (by unfold maxLen;omega) (by omega) (by have:=QV.out.1;have:=blk_lt this;omega) ?_
    intro v' W5 ho hg hf
    have ho2 : W5.ownsRow (w.heap.size + 1 + 1) 3 1 v' (idxQ l 0 j ++ [(j : Int)]).length (rowC ic (idxQ l 0 j ++ [(j : Int)])):=(by rw [List.length_append,rowC_append,rowC_one];exact ho)
    have kb5 : blk W5 c0 = some #[.int .i64 x.no,.int .u64 x.sq,.int .i64 x.of,.int .i64 x.de,.int .i64 x.pr,.int .i64 x.bo,.int .i64 x.li,.int .i64 x.to,.string x.da]:=(blk_kept (hg.block c0 cV (fun e => by have:=LS0.out c0 e.symm;omega))).trans kbV
    have b5 : Below w.heap.size w W5:=bV.grown hg bV.size (fun k e => by have:=((QV.out.2.1).lt k e).1;omega)
    have kc5 : blk W5 w.heap.size = some #[.slice (some ⟨b,off,none⟩) l.length cap]:=(blk_kept (hg.block _ (blk_lt kcV) (fun e => by have:=((QV.out.2.1).lt _ e.symm).1;omega))).trans kcV
    have Q5:=Lib.hid (QV.out.put0 hg hf ho2)
    have nq5:=kn (show blk W5 (w.heap.size + 1) = some #[s0,s1,s2] from (blk_kept (hg.block _ (blk_lt QV.out.1) (fun e => by have:=((QV.out.2.1).lt _ e.symm).1;omega))).trans QV.out.1)
    obtain ⟨a5,c5,rfl,_,_⟩:=srow_of_owns ic_len ho2
    have h9:=Q5.out
    rw [List.length_append,List.length_singleton] at h9
    replace Q5:=Lib.hid h9
    clear h9
    refine hK.out _ _ (fun o => blk_cell (kb5) o) (fun _ => ?_)
    clear hK K hg hf ho ho2
    (try simp only[Act.put,jA,jB,jC,jD,jE,jF])
    refine jK (v:=?_) 11 ?_ ?_
    rotate_left;focus(intro W h;(try dsimp only at h);go_simp;(try with_reducible rfl));(try simp only[Act.put,jA,jB,jC,jD,jE,jF])
    refine jR 12 (fun K hK => ?_)
    go_simp
    refine hK.out _ _ (fun o => blk_cell (blk_other kb5 (show c0 ≠ w.heap.size + 1 by omega)) o) (fun _ => ?_)
    clear hK K
    (try simp only[Act.put,jA,jB,jC,jD,jE,jF])
    refine wpAnyH_done (by kernel_rfl) ?_ _
    obtain ⟨X,eX⟩ : ∃ v,v = W5.setCell ⟨w.heap.size + 1,0,none⟩ (.slice a5 ((idxQ l 0 j).length + 1) c5):=⟨_,rfl⟩
    have bX : Below w.heap.size w X:=(by rw [eX];exact b5.setCell (Nat.le_succ _) _)
    have QX : Hid (blk X w.heap.size = some #[.slice (some ⟨b,off,none⟩) l.length cap] ∧ Q3 X (w.heap.size + 1) (.slice a5 ((idxQ l 0 j).length + 1) c5) s1 s2 (idxQ l 0 (j + 1)) (idxQ l 1 (j + 1)) (idxQ l 2 (j + 1))):=Lib.hid (by
     rw [idxQ_yes hlt (show l[j].pr = 0 by rw [← HX.out];exact hpr),idxQ_no hlt (show l[j].pr ≠ 1 by rw [← HX.out,hpr];decide),idxQ_no hlt (show l[j].pr ≠ 2 by rw [← HX.out,hpr];decide)]
     rw [eX]
     exact ⟨blk_other kc5 (show w.heap.size ≠ w.heap.size + 1 by omega),Q5.out⟩)
    rw [← eX]
    clear eX hpr Q5 kc5 kb5 b5 nq5
    go_wp2
    go_roundw
    case rel => exact ⟨j + 1,(.slice a5 ((idxQ l 0 j).length + 1) c5),s1,s2,by go_num,by omega,bX,QX⟩
    case measure => simp [intOf];omega
   ·clear hpx
    refine jK (v:=?_) 0 ?_ ?_
    rotate_left;focus(intro W h;(try dsimp only at h);go_simp;(try with_reducible rfl));(try simp only[Act.put,jA,jB,jC,jD,jE,jF])
    refine jK (v:=?_) 1 ?_ ?_
    rotate_left;focus(intro W h;(try dsimp only at h);go_simp;(try with_reducible rfl));(try simp only[Act.put,jA,jB,jC,jD,jE,jF])
    refine jK (v:=?_) 2 ?_ ?_
    rotate_left;focus(intro W h;(try dsimp only at h);go_simp;(try with_reducible rfl));(try simp only[Act.put,jA,jB,jC,jD,jE,jF])
    refine jK (v:=?_) 3 ?_ ?_
    rotate_left;focus(intro W h;(try dsimp only at h);go_simp;(try with_reducible rfl));(try simp only[Act.put,jA,jB,jC,jD,jE,jF])
    refine jK (v:=?_) 4 ?_ ?_
    rotate_left;focus(intro W h;(try dsimp only at h);go_simp;(try with_reducible rfl));(try simp only[Act.put,jA,jB,jC,jD,jE,jF])
    refine jK (v:=?_) 5 ?_ ?_
    rotate_left;focus(intro W h;(try dsimp only at h);go_simp;(try with_reducible rfl));(try simp only[Act.put,jA,jB,jC,jD,jE,jF])
    refine jK (v:=?_) 6 ?_ ?_
    rotate_left;focus(intro W h;(try dsimp only at h);go_simp;(try with_reducible rfl));(try simp only[Act.put,jA,jB,jC,jD,jE,jF])
    refine jK (v:=?_) 8 ?_ ?_
    rotate_left;focus(intro W h;(try dsimp only at h);go_simp;(try with_reducible rfl));(try simp only[Act.put,jA,jB,jC,jD,jE,jF])
    refine wpAnyH_ready (rs:=[7,9]) (by kernel_rfl) (by simp) ?_
    refine AllReadyH.cons rfl (fun K hK => ?_) ?_
    ·skip
     go_simp
     refine hK.out _ _ (fun o => blk_cell (kbd0) o) (fun _ => ?_)
     clear hK K
     (try simp only[Act.put,jA,jB,jC,jD,jE,jF])
     refine jR 9 (fun K hK => ?_)
     go_simp
     refine hK.out _ _ (fun o => blk_cell (blk_alloc kbd0 _) o) (fun _ => ?_)
     clear hK K
     (try simp only[Act.put,jA,jB,jC,jD,jE,jF])
     obtain ⟨V,eV⟩ : ∃ v,v = d0.alloc (.cells #[.int .i64 j] 3):=⟨_,rfl⟩
     obtain ⟨n1,en⟩ : ∃ v,v = d0.heap.size:=⟨_,rfl⟩
     have kbV : blk V c0 = some #[.int .i64 x.no,.int .u64 x.sq,.int .i64 x.of,.int .i64 x.de,.int .i64 x.pr,.int .i64 x.bo,.int .i64 x.li,.int .i64 x.to,.string x.da]:=(by rw [eV];exact blk_alloc kbd0 _)
     have bV : Below w.heap.size w V:=(by rw [eV];exact bd0.alloc bd0.size _)
     have hdV : Below d0.heap.size d0 V:=(by rw [eV];exact (Below.refl _ _).alloc (Nat.le_refl _) _)
     have QV:=Lib.hid (QD.out.below hdV)
     have kcV:=blk_below hdV kcd0
     have zV : blk V n1 = some #[.int .i64 j]:=(by rw [eV,en];exact blk_alloc_new _ _ _ rfl)
     have cV:=blk_lt kbV
     rw [← eV,← en]
     clear eV en hdV
     have nqV:=kn QV.out.1
     refine jR 10 (fun K hK => ?_)
     refine wp_append_fresh (.tmp 23) (.tmp 25) 22 rfl (w.heap.size + 2) 3 i0 (.int .i64 0) 1 8 Tryd.underlying22 Hi.out Hz0.out Hz1.out Hz2.out rfl (by decide) s1 (idxQ l 1 j).length (rowC ic (idxQ l 1 j)) rfl QV.out.2.2.1 ⟨n1,0,none⟩ 1 1 [.int .i64 j] rfl rfl (fun jj u hj => (by rw [Addr.add_mid,Nat.zero_add,blk_cell zV];simpa using hj)) (ic_one (j : Int)) (by decide) (by unfold maxLen;omega) (by omega) (by have:=QV.out.1;have:=blk_lt this;omega) ?_
     intro v' W5 ho hg hf
     have ho2 : W5.ownsRow (w.heap.size + 1 + 1) 3 1 v' (idxQ l 1 j ++ [(j : Int)]).length (rowC ic (idxQ l 1 j ++ [(j : Int)])):=(by rw [List.length_append,rowC_append,rowC_one];exact ho)
     have kb5 : blk W5 c0 = some #[.int .i64 x.no,.int .u64 x.sq,.int .i64 x.of,.int .i64 x.de,.int .i64 x.pr,.int .i64 x.bo,.int .i64 x.li,.int .i64 x.to,.string x.da]:=(blk_kept (hg.block c0 cV (fun e => by have:=LS1.out c0 e.symm;omega))).trans kbV
     have b5 : Below w.heap.size w W5:=bV.grown hg bV.size (fun k e => by have:=((QV.out.2.2.1).lt k e).1;omega)
     have kc5 : blk W5 w.heap.size = some #[.slice (some ⟨b,off,none⟩) l.length cap]:=(blk_kept (hg.block _ (blk_lt kcV) (fun e => by have:=((QV.out.2.2.1).lt _ e.symm).1;omega))).trans kcV
     have Q5:=Lib.hid (QV.out.put1 hg hf ho2)
     have nq5:=kn (show blk W5 (w.heap.size + 1) = some #[s0,s1,s2] from (blk_kept (hg.block _ (blk_lt QV.out.1) (fun e => by have:=((QV.out.2.2.1).lt _ e.symm).1;omega))).trans QV.out.1)
     obtain ⟨a5,c5,rfl,_,_⟩:=srow_of_owns ic_len ho2
     have h9:=Q5.out
     rw [List.length_append,List.length_singleton] at h9
     replace Q5:=Lib.hid h9
     clear h9
     refine hK.out _ _ (fun o => blk_cell (kb5) o) (fun _ => ?_)
     clear hK K hg hf ho ho2
     (try simp only[Act.put,jA,jB,jC,jD,jE,jF])
     refine jK (v:=?_) 11 ?_ ?_
     rotate_left;focus(intro W h;(try dsimp only at h);go_simp;(try with_reducible rfl));(try simp only[Act.put,jA,jB,jC,jD,jE,jF])
     refine jR 12 (fun K hK => ?_)
     go_simp
     refine hK.out _ _ (fun o => blk_cell (blk_other kb5 (show c0 ≠ w.heap.size + 1 by omega)) o) (fun _ => ?_)
     clear hK K
     (try simp only[Act.put,jA,jB,jC,jD,jE,jF])
     refine wpAnyH_done (by kernel_rfl) ?_ _
     obtain ⟨X,eX⟩ : ∃ v,v = W5.setCell ⟨w.heap.size + 1,1,none⟩ (.slice a5 ((idxQ l 1 j).length + 1) c5):=⟨_,rfl⟩
     have bX : Below w.heap.size w X:=(by rw [eX];exact b5.setCell (Nat.le_succ _) _)
     have QX : Hid (blk X w.heap.size = some #[.slice (some ⟨b,off,none⟩) l.length cap] ∧ Q3 X (w.heap.size + 1) s0 (.slice a5 ((idxQ l 1 j).length + 1) c5) s2 (idxQ l 0 (j + 1)) (idxQ l 1 (j + 1)) (idxQ l 2 (j + 1))):=Lib.hid (by
      rw [idxQ_no hlt (show l[j].pr ≠ 0 by rw [← HX.out,hpr];decide),idxQ_yes hlt (show l[j].pr = 1 by rw [← HX.out];exact hpr),idxQ_no hlt (show l[j].pr ≠ 2 by rw [← HX.out,hpr];decide)]
      rw [eX]
      exact ⟨blk_other kc5 (show w.heap.size ≠ w.heap.size + 1 by omega),Q5.out⟩)
     rw [← eX]
     clear eX hpr Q5 kc5 kb5 b5 nq5
     go_wp2
     go_roundw
     case rel => exact ⟨j + 1,s0,(.slice a5 ((idxQ l 1 j).length + 1) c5),s2,by go_num,by omega,bX,QX⟩
     case measure => simp [intOf];omega
    refine AllReadyH.cons rfl (fun K hK => ?_) AllReadyH.nil
    go_simp
    refine hK.out _ _ (fun o => blk_cell (blk_alloc kbd0 _) o) (fun _ => ?_)
    clear hK K
    (try simp only[Act.put,jA,jB,jC,jD,jE,jF])
    obtain ⟨V,eV⟩ : ∃ v,v = d0.alloc (.cells #[.int .i64 j] 3):=⟨_,rfl⟩
    obtain ⟨n1,en⟩ : ∃ v,v = d0.heap.size:=⟨_,rfl⟩
    have kbV : blk V c0 = some #[.int .i64 x.no,.int .u64 x.sq,.int .i64 x.of,.int .i64 x.de,.int .i64 x.pr,.int .i64 x.bo,.int .i64 x.li,.int .i64 x.to,.string x.da]:=(by rw [eV];exact blk_alloc kbd0 _)
    have bV : Below w.heap.size w V:=(by rw [eV];exact bd0.alloc bd0.size _)
    have hdV : Below d0.heap.size d0 V:=(by rw [eV];exact (Below.refl _ _).alloc (Nat.le_refl _) _)
    have QV:=Lib.hid (QD.out.below hdV)
    have kcV:=blk_below hdV kcd0
    have zV : blk V n1 = some #[.int .i64 j]:=(by rw [eV,en];exact blk_alloc_new _ _ _ rfl)
    have cV:=blk_lt kbV
    rw [← eV,← en]
    clear eV en hdV
    have nqV:=kn QV.out.1
    refine jR 7 (fun K hK => ?_)
    go_simp
    refine hK.out _ _ (fun o => blk_cell (kbV) o) (fun _ => ?_)
    clear hK K
    (try simp only[Act.put,jA,jB,jC,jD,jE,jF])
    refine jR 10 (fun K hK => ?_)
    refine wp_append_fresh (.tmp 23) (.tmp 25) 22 rfl (w.heap.size + 2) 3 i0 (.int .i64 0) 1 8 Tryd.underlying22 Hi.out Hz0.out Hz1.out Hz2.out rfl (by decide) s1 (idxQ l 1 j).length (rowC ic (idxQ l 1 j)) rfl QV.out.2.2.1 ⟨n1,0,none⟩ 1 1 [.int .i64 j] rfl rfl (fun jj u hj => (by rw [Addr.add_mid,Nat.zero_add,blk_cell zV];simpa using hj)) (ic_one (j : Int)) (by decide) (by unfold maxLen;omega) (by omega) (by have:=QV.out.1;have:=blk_lt this;omega) ?_
    intro v' W5 ho hg hf
    have ho2 : W5.ownsRow (w.heap.size + 1 + 1) 3 1 v' (idxQ l 1 j ++ [(j : Int)]).length (rowC ic (idxQ l 1 j ++ [(j : Int)])):=(by rw [List.length_append,rowC_append,rowC_one];exact ho)
    have kb5 : blk W5 c0 = some #[.int .i64 x.no,.int .u64 x.sq,.int .i64 x.of,.int .i64 x.de,.int .i64 x.pr,.int .i64 x.bo,.int .i64 x.li,.int .i64 x.to,.string x.da]:=(blk_kept (hg.block c0 cV (fun e => by have:=LS1.out c0 e.symm;omega))).trans kbV
    have b5 : Below w.heap.size w W5:=bV.grown hg bV.size (fun k e => by have:=((QV.out.2.2.1).lt k e).1;omega)
    have kc5 : blk W5 w.heap.size = some #[.slice (some ⟨b,off,none⟩) l.length cap]:=(blk_kept (hg.block _ (blk_lt kcV) (fun e => by have:=((QV.out.2.2.1).lt _ e.symm).1;omega))).trans kcV
    have Q5:=Lib.hid (QV.out.put1 hg hf ho2)
    have nq5:=kn (show blk W5 (w.heap.size + 1) = some #[s0,s1,s2] from (blk_kept (hg.block _ (blk_lt QV.out.1) (fun e => by have:=((QV.out.2.2.1).lt _ e.symm).1;omega))).trans QV.out.1)
    obtain ⟨a5,c5,rfl,_,_⟩:=srow_of_owns ic_len ho2
    have h9:=Q5.out
    rw [List.length_append,List.length_singleton] at h9
    replace Q5:=Lib.hid h9
    clear h9
    refine hK.out _ _ (fun o => blk_cell (kb5) o) (fun _ => ?_)
    clear hK K hg hf ho ho2
    (try simp only[Act.put,jA,jB,jC,jD,jE,jF])
    refine jK (v:=?_) 11 ?_ ?_
    rotate_left;focus(intro W h;(try dsimp only at h);go_simp;(try with_reducible rfl));(try simp only[Act.put,jA,jB,jC,jD,jE,jF])
    refine jR 12 (fun K hK => ?_)
    go_simp
    refine hK.out _ _ (fun o => blk_cell (blk_other kb5 (show c0 ≠ w.heap.size + 1 by omega)) o) (fun _ => ?_)
    clear hK K
    (try simp only[Act.put,jA,jB,jC,jD,jE,jF])
    refine wpAnyH_done (by kernel_rfl) ?_ _
    obtain ⟨X,eX⟩ : ∃ v,v = W5.setCell ⟨w.heap.size + 1,1,none⟩ (.slice a5 ((idxQ l 1 j).length + 1) c5):=⟨_,rfl⟩
    have bX : Below w.heap.size w X:=(by rw [eX];exact b5.setCell (Nat.le_succ _) _)
    have QX : Hid (blk X w.heap.size = some #[.slice (some ⟨b,off,none⟩) l.length cap] ∧ Q3 X (w.heap.size + 1) s0 (.slice a5 ((idxQ l 1 j).length + 1) c5) s2 (idxQ l 0 (j + 1)) (idxQ l 1 (j + 1)) (idxQ l 2 (j + 1))):=Lib.hid (by
     rw [idxQ_no hlt (show l[j].pr ≠ 0 by rw [← HX.out,hpr];decide),idxQ_yes hlt (show l[j].pr = 1 by rw [← HX.out];exact hpr),idxQ_no hlt (show l[j].pr ≠ 2 by rw [← HX.out,hpr];decide)]
     rw [eX]
     exact ⟨blk_other kc5 (show w.heap.size ≠ w.heap.size + 1 by omega),Q5.out⟩)
    rw [← eX]
    clear eX hpr Q5 kc5 kb5 b5 nq5
    go_wp2
    go_roundw
    case rel => exact ⟨j + 1,s0,(.slice a5 ((idxQ l 1 j).length + 1) c5),s2,by go_num,by omega,bX,QX⟩
    case measure => simp [intOf];omega
   ·clear hpx
    refine jK (v:=?_) 0 ?_ ?_
    rotate_left;focus(intro W h;(try dsimp only at h);go_simp;(try with_reducible rfl));(try simp only[Act.put,jA,jB,jC,jD,jE,jF])
    refine jK (v:=?_) 1 ?_ ?_
    rotate_left;focus(intro W h;(try dsimp only at h);go_simp;(try with_reducible rfl));(try simp only[Act.put,jA,jB,jC,jD,jE,jF])
    refine jK (v:=?_) 2 ?_ ?_
    rotate_left;focus(intro W h;(try dsimp only at h);go_simp;(try with_reducible rfl));(try simp only[Act.put,jA,jB,jC,jD,jE,jF])
    refine jK (v:=?_) 3 ?_ ?_
    rotate_left;focus(intro W h;(try dsimp only at h);go_simp;(try with_reducible rfl));(try simp only[Act.put,jA,jB,jC,jD,jE,jF])
    refine jK (v:=?_) 4 ?_ ?_
    rotate_left;focus(intro W h;(try dsimp only at h);go_simp;(try with_reducible rfl));(try simp only[Act.put,jA,jB,jC,jD,jE,jF])
    refine jK (v:=?_) 5 ?_ ?_
    rotate_left;focus(intro W h;(try dsimp only at h);go_simp;(try with_reducible rfl));(try simp only[Act.put,jA,jB,jC,jD,jE,jF])
    refine jK (v:=?_) 6 ?_ ?_
    rotate_left;focus(intro W h;(try dsimp only at h);go_simp;(try with_reducible rfl));(try simp only[Act.put,jA,jB,jC,jD,jE,jF])
    refine jK (v:=?_) 8 ?_ ?_
    rotate_left;focus(intro W h;(try dsimp only at h);go_simp;(try with_reducible rfl));(try simp only[Act.put,jA,jB,jC,jD,jE,jF])
    refine wpAnyH_ready (rs:=[7,9]) (by kernel_rfl) (by simp) ?_
    refine AllReadyH.cons rfl (fun K hK => ?_) ?_
    ·skip
     go_simp
     refine hK.out _ _ (fun o => blk_cell (kbd0) o) (fun _ => ?_)
     clear hK K
     (try simp only[Act.put,jA,jB,jC,jD,jE,jF])
     refine jR 9 (fun K hK => ?_)
     go_simp
     refine hK.out _ _ (fun o => blk_cell (blk_alloc kbd0 _) o) (fun _ => ?_)
     clear hK K
     (try simp only[Act.put,jA,jB,jC,jD,jE,jF])
     obtain ⟨V,eV⟩ : ∃ v,v = d0.alloc (.cells #[.int .i64 j] 3):=⟨_,rfl⟩
     obtain ⟨n1,en⟩ : ∃ v,v = d0.heap.size:=⟨_,rfl⟩
     have kbV : blk V c0 = some #[.int .i64 x.no,.int .u64 x.sq,.int .i64 x.of,.int .i64 x.de,.int .i64 x.pr,.int .i64 x.bo,.int .i64 x.li,.int .i64 x.to,.string x.da]:=(by rw [eV];exact blk_alloc kbd0 _)
     have bV : Below w.heap.size w V:=(by rw [eV];exact bd0.alloc bd0.size _)
     have hdV : Below d0.heap.size d0 V:=(by rw [eV];exact (Below.refl _ _).alloc (Nat.le_refl _) _)
     have QV:=Lib.hid (QD.out.below hdV)
     have kcV:=blk_below hdV kcd0
     have zV : blk V n1 = some #[.int .i64 j]:=(by rw [eV,en];exact blk_alloc_new _ _ _ rfl)
     have cV:=blk_lt kbV
     rw [← eV,← en]
     clear eV en hdV
     have nqV:=kn QV.out.1
     refine jR 10 (fun K hK => ?_)
     refine wp_append_fresh (.tmp 23) (.tmp 25) 22 rfl (w.heap.size + 2) 3 i0 (.int .i64 0) 1 8 Tryd.underlying22 Hi.out Hz0.out Hz1.out Hz2.out rfl (by decide) s2 (idxQ l 2 j).length (rowC ic (idxQ l 2 j)) rfl QV.out.2.2.2.1 ⟨n1,0,none⟩ 1 1 [.int .i64 j] rfl rfl (fun jj u hj => (by rw [Addr.add_mid,Nat.zero_add,blk_cell zV];simpa using hj)) (ic_one (j : Int)) (by decide) (by unfold maxLen;omega) (by omega) (by have:=QV.out.1;have:=blk_lt this;omega) ?_
     intro v' W5 ho hg hf
     have ho2 : W5.ownsRow (w.heap.size + 1 + 1) 3 1 v' (idxQ l 2 j ++ [(j : Int)]).length (rowC ic (idxQ l 2 j ++ [(j : Int)])):=(by rw [List.length_append,rowC_append,rowC_one];exact ho)
     have kb5 : blk W5 c0 = some #[.int .i64 x.no,.int .u64 x.sq,.int .i64 x.of,.int .i64 x.de,.int .i64 x.pr,.int .i64 x.bo,.int .i64 x.li,.int .i64 x.to,.string x.da]:=(blk_kept (hg.block c0 cV (fun e => by have:=LS2.out c0 e.symm;omega))).trans kbV
     have b5 : Below w.heap.size w W5:=bV.grown hg bV.size (fun k e => by have:=((QV.out.2.2.2.1).lt k e).1;omega)
     have kc5 : blk W5 w.heap.size = some #[.slice (some ⟨b,off,none⟩) l.length cap]:=(blk_kept (hg.block _ (blk_lt kcV) (fun e => by have:=((QV.out.2.2.2.1).lt _ e.symm).1;omega))).trans kcV
     have Q5:=Lib.hid (QV.out.put2 hg hf ho2)
     have nq5:=kn (show blk W5 (w.heap.size + 1) = some #[s0,s1,s2] from (blk_kept (hg.block _ (blk_lt QV.out.1) (fun e => by have:=((QV.out.2.2.2.1).lt _ e.symm).1;omega))).trans QV.out.1)
     obtain ⟨a5,c5,rfl,_,_⟩:=srow_of_owns ic_len ho2
     have h9:=Q5.out
     rw [List.length_append,List.length_singleton] at h9
     replace Q5:=Lib.hid h9
     clear h9
     refine hK.out _ _ (fun o => blk_cell (kb5) o) (fun _ => ?_)
     clear hK K hg hf ho ho2
     (try simp only[Act.put,jA,jB,jC,jD,jE,jF])
     refine jK (v:=?_) 11 ?_ ?_
     rotate_left;focus(intro W h;(try dsimp only at h);go_simp;(try with_reducible rfl));(try simp only[Act.put,jA,jB,jC,jD,jE,jF])
     refine jR 12 (fun K hK => ?_)
     go_simp
     refine hK.out _ _ (fun o => blk_cell (blk_other kb5 (show c0 ≠ w.heap.size + 1 by omega)) o) (fun _ => ?_)
     clear hK K
     (try simp only[Act.put,jA,jB,jC,jD,jE,jF])
     refine wpAnyH_done (by kernel_rfl) ?_ _
     obtain ⟨X,eX⟩ : ∃ v,v = W5.setCell ⟨w.heap.size + 1,2,none⟩ (.slice a5 ((idxQ l 2 j).length + 1) c5):=⟨_,rfl⟩
     have bX : Below w.heap.size w X:=(by rw [eX];exact b5.setCell (Nat.le_succ _) _)
     have QX : Hid (blk X w.heap.size = some #[.slice (some ⟨b,off,none⟩) l.length cap] ∧ Q3 X (w.heap.size + 1) s0 s1 (.slice a5 ((idxQ l 2 j).length + 1) c5) (idxQ l 0 (j + 1)) (idxQ l 1 (j + 1)) (idxQ l 2 (j + 1))):=Lib.hid (by
      rw [idxQ_no hlt (show l[j].pr ≠ 0 by rw [← HX.out,hpr];decide),idxQ_no hlt (show l[j].pr ≠ 1 by rw [← HX.out,hpr];decide),idxQ_yes hlt (show l[j].pr = 2 by rw [← HX.out];exact hpr)]
      rw [eX]
      exact ⟨blk_other kc5 (show w.heap.size ≠ w.heap.size + 1 by omega),Q5.out⟩)
     rw [← eX]
     clear eX hpr Q5 kc5 kb5 b5 nq5
     go_wp2
     go_roundw
     case rel => exact ⟨j + 1,s0,s1,(.slice a5 ((idxQ l 2 j).length + 1) c5),by go_num,by omega,bX,QX⟩
     case measure => simp [intOf];omega
    refine AllReadyH.cons rfl (fun K hK => ?_) AllReadyH.nil
    go_simp
    refine hK.out _ _ (fun o => blk_cell (blk_alloc kbd0 _) o) (fun _ => ?_)
    clear hK K
    (try simp only[Act.put,jA,jB,jC,jD,jE,jF])
    obtain ⟨V,eV⟩ : ∃ v,v = d0.alloc (.cells #[.int .i64 j] 3):=⟨_,rfl⟩
    obtain ⟨n1,en⟩ : ∃ v,v = d0.heap.size:=⟨_,rfl⟩
    have kbV : blk V c0 = some #[.int .i64 x.no,.int .u64 x.sq,.int .i64 x.of,.int .i64 x.de,.int .i64 x.pr,.int .i64 x.bo,.int .i64 x.li,.int .i64 x.to,.string x.da]:=(by rw [eV];exact blk_alloc kbd0 _)
    have bV : Below w.heap.size w V:=(by rw [eV];exact bd0.alloc bd0.size _)
    have hdV : Below d0.heap.size d0 V:=(by rw [eV];exact (Below.refl _ _).alloc (Nat.le_refl _) _)
    have QV:=Lib.hid (QD.out.below hdV)
    have kcV:=blk_below hdV kcd0
    have zV : blk V n1 = some #[.int .i64 j]:=(by rw [eV,en];exact blk_alloc_new _ _ _ rfl)
    have cV:=blk_lt kbV
    rw [← eV,← en]
    clear eV en hdV
    have nqV:=kn QV.out.1
    refine jR 7 (fun K hK => ?_)
    go_simp
    refine hK.out _ _ (fun o => blk_cell (kbV) o) (fun _ => ?_)
    clear hK K
    (try simp only[Act.put,jA,jB,jC,jD,jE,jF])
    refine jR 10 (fun K hK => ?_)
    refine wp_append_fresh (.tmp 23) (.tmp 25) 22 rfl (w.heap.size + 2) 3 i0 (.int .i64 0) 1 8 Tryd.underlying22 Hi.out Hz0.out Hz1.out Hz2.out rfl (by decide) s2 (idxQ l 2 j).length (rowC ic (idxQ l 2 j)) rfl QV.out.2.2.2.1 ⟨n1,0,none⟩ 1 1 [.int .i64 j] rfl rfl (fun jj u hj => (by rw [Addr.add_mid,Nat.zero_add,blk_cell zV];simpa using hj)) (ic_one (j : Int)) (by decide) (by unfold maxLen;omega) (by omega) (by have:=QV.out.1;have:=blk_lt this;omega) ?_
    intro v' W5 ho hg hf
    have ho2 : W5.ownsRow (w.heap.size + 1 + 1) 3 1 v' (idxQ l 2 j ++ [(j : Int)]).length (rowC ic (idxQ l 2 j ++ [(j : Int)])):=(by rw [List.length_append,rowC_append,rowC_one];exact ho)
    have kb5 : blk W5 c0 = some #[.int .i64 x.no,.int .u64 x.sq,.int .i64 x.of,.int .i64 x.de,.int .i64 x.pr,.int .i64 x.bo,.int .i64 x.li,.int .i64 x.to,.string x.da]:=(blk_kept (hg.block c0 cV (fun e => by have:=LS2.out c0 e.symm;omega))).trans kbV
    have b5 : Below w.heap.size w W5:=bV.grown hg bV.size (fun k e => by have:=((QV.out.2.2.2.1).lt k e).1;omega)
    have kc5 : blk W5 w.heap.size = some #[.slice (some ⟨b,off,none⟩) l.length cap]:=(blk_kept (hg.block _ (blk_lt kcV) (fun e => by have:=((QV.out.2.2.2.1).lt _ e.symm).1;omega))).trans kcV
    have Q5:=Lib.hid (QV.out.put2 hg hf ho2)
    have nq5:=kn (show blk W5 (w.heap.size + 1) = some #[s0,s1,s2] from (blk_kept (hg.block _ (blk_lt QV.out.1) (fun e => by have:=((QV.out.2.2.2.1).lt _ e.symm).1;omega))).trans QV.out.1)
    obtain ⟨a5,c5,rfl,_,_⟩:=srow_of_owns ic_len ho2
    have h9:=Q5.out
    rw [List.length_append,List.length_singleton] at h9
    replace Q5:=Lib.hid h9
    clear h9
    refine hK.out _ _ (fun o => blk_cell (kb5) o) (fun _ => ?_)
    clear hK K hg hf ho ho2
    (try simp only[Act.put,jA,jB,jC,jD,jE,jF])
    refine jK (v:=?_) 11 ?_ ?_
    rotate_left;focus(intro W h;(try dsimp only at h);go_simp;(try with_reducible rfl));(try simp only[Act.put,jA,jB,jC,jD,jE,jF])
    refine jR 12 (fun K hK => ?_)
    go_simp
    refine hK.out _ _ (fun o => blk_cell (blk_other kb5 (show c0 ≠ w.heap.size + 1 by omega)) o) (fun _ => ?_)
    clear hK K
    (try simp only[Act.put,jA,jB,jC,jD,jE,jF])
    refine wpAnyH_done (by kernel_rfl) ?_ _
    obtain ⟨X,eX⟩ : ∃ v,v = W5.setCell ⟨w.heap.size + 1,2,none⟩ (.slice a5 ((idxQ l 2 j).length + 1) c5):=⟨_,rfl⟩
    have bX : Below w.heap.size w X:=(by rw [eX];exact b5.setCell (Nat.le_succ _) _)
    have QX : Hid (blk X w.heap.size = some #[.slice (some ⟨b,off,none⟩) l.length cap] ∧ Q3 X (w.heap.size + 1) s0 s1 (.slice a5 ((idxQ l 2 j).length + 1) c5) (idxQ l 0 (j + 1)) (idxQ l 1 (j + 1)) (idxQ l 2 (j + 1))):=Lib.hid (by
     rw [idxQ_no hlt (show l[j].pr ≠ 0 by rw [← HX.out,hpr];decide),idxQ_no hlt (show l[j].pr ≠ 1 by rw [← HX.out,hpr];decide),idxQ_yes hlt (show l[j].pr = 2 by rw [← HX.out];exact hpr)]
     rw [eX]
     exact ⟨blk_other kc5 (show w.heap.size ≠ w.heap.size + 1 by omega),Q5.out⟩)
    rw [← eX]
    clear eX hpr Q5 kc5 kb5 b5 nq5
    go_wp2
    go_roundw
    case rel => exact ⟨j + 1,s0,s1,(.slice a5 ((idxQ l 2 j).length + 1) c5),by go_num,by omega,bX,QX⟩
    case measure => simp [intOf];omega
  ·obtain rfl : j = l.length:=by omega
   obtain ⟨kc,kq,o0,o1,o2,a01,a02,a12⟩:=HQ.out
   obtain ⟨p0,e0,rfl,_,_⟩:=srow_of_owns ic_len o0
   obtain ⟨p1,e1,rfl,_,_⟩:=srow_of_owns ic_len o1
   obtain ⟨p2,e2,rfl,_,_⟩:=srow_of_owns ic_len o2
   have hm : ∀ p : Int,∀ x ∈ idxQ l p l.length,∃ i : Nat,x = i ∧ i < l.length:=fun p x hx => by obtain ⟨i,h1,h2,h3,_⟩:=idxQ_mem.1 hx;exact ⟨i,h1,h3⟩
   have lq : ∀ p : Int,(idxQ l p l.length).length ≤ 20:=fun p => Nat.le_trans (idxQ_len l p _) hl
   have hb : 0 < l.length → ∀ b off,a = some ⟨b,off,none⟩ → b < w.heap.size + 1 + 1:=fun h0 b off e => by obtain ⟨bb,bo,ea,lb,_⟩:=HR.out.2.2.2 h0;rw [ea] at e;cases e;omega
   have HD0 : HdQ w.heap.size a cap l wr:=⟨kc,HR.out.below hB⟩
   have n0:=kn kq
   have G0:=Lib.hid (sortOwn_any w.heap.size a cap l (idxQ l 0 l.length) p0 e0 (w.heap.size + 1 + 1) (lq 0) HI.out (hm 0) wr HD0 (by omega) hb o0)
   go_wp2
   refine wp_loop_rounds 4 ?_
   rw [rounds_succ]
   go_wp2_with (go_at_call 70;(with_reducible refine (G0.out).mono ?_);rintro e wA ⟨rfl,h0,S0,HD1⟩)
   have L0:=o0.lt
   have kq1 : blk wA (w.heap.size + 1) = some #[.slice p0 (idxQ l 0 l.length).length e0,.slice p1 (idxQ l 1 l.length).length e1,.slice p2 (idxQ l 2 l.length).length e2]:=(blk_kept (h0.block _ (blk_lt kq) (fun e => by have:=(L0 _ e.symm).1;omega))).trans kq
   have hB1 : Below w.heap.size w wA:=(hB).grown h0 (hB).size (fun k e => by have:=(L0 k e).1;omega)
   replace o1:=owns_keptE o1 h0 (fun k e e2 => a01 k e2 e)
   replace o2:=owns_keptE o2 h0 (fun k e e2 => a02 k e2 e)
   clear n0
   have n1:=kn kq1
   have G1:=Lib.hid (sortOwn_any w.heap.size a cap l (idxQ l 1 l.length) p1 e1 (w.heap.size + 1 + 1) (lq 1) HI.out (hm 1) wA HD1 (by omega) hb o1)
   rw [rounds_succ]
   go_wp2_with (go_at_call 70;(with_reducible refine (G1.out).mono ?_);rintro e wB ⟨rfl,h1,S1,HD2⟩)
   have L1:=o1.lt
   have kq2 : blk wB (w.heap.size + 1) = some #[.slice p0 (idxQ l 0 l.length).length e0,.slice p1 (idxQ l 1 l.length).length e1,.slice p2 (idxQ l 2 l.length).length e2]:=(blk_kept (h1.block _ (blk_lt kq1) (fun e => by have:=(L1 _ e.symm).1;omega))).trans kq1
   have hB2 : Below w.heap.size w wB:=(hB1).grown h1 (hB1).size (fun k e => by have:=(L1 k e).1;omega)
   replace o2:=owns_keptE o2 h1 (fun k e e2 => a12 k e2 e)
   replace S0:=SRow.keptE S0 h1 (fun b off e e2 => by subst e;exact a01 b rfl e2)
   clear n1
   have n2:=kn kq2
   have G2:=Lib.hid (sortOwn_any w.heap.size a cap l (idxQ l 2 l.length) p2 e2 (w.heap.size + 1 + 1) (lq 2) HI.out (hm 2) wB HD2 (by omega) hb o2)
   rw [rounds_succ]
   go_wp2_with (go_at_call 70;(with_reducible refine (G2.out).mono ?_);rintro e wC ⟨rfl,h2,S2,HD3⟩)
   have L2:=o2.lt
   have kq3 : blk wC (w.heap.size + 1) = some #[.slice p0 (idxQ l 0 l.length).length e0,.slice p1 (idxQ l 1 l.length).length e1,.slice p2 (idxQ l 2 l.length).length e2]:=(blk_kept (h2.block _ (blk_lt kq2) (fun e => by have:=(L2 _ e.symm).1;omega))).trans kq2
   have hB3 : Below w.heap.size w wC:=(hB2).grown h2 (hB2).size (fun k e => by have:=(L2 k e).1;omega)
   replace S0:=SRow.keptE S0 h2 (fun b off e e2 => by subst e;exact a02 b rfl e2)
   replace S1:=SRow.keptE S1 h2 (fun b off e e2 => by subst e;exact a12 b rfl e2)
   clear n2
   have n3:=kn kq3
   have u0 : upR (w.heap.size + 1) p0:=fun b off e => by subst e;have:=(L0 b rfl).1;omega
   have u1 : upR (w.heap.size + 1) p1:=fun b off e => by subst e;have:=(L1 b rfl).1;omega
   have u2 : upR (w.heap.size + 1) p2:=fun b off e => by subst e;have:=(L2 b rfl).1;omega
   have HS0:=Lib.hid S0;have HS1:=Lib.hid S1;have HS2:=Lib.hid S2
   clear S0 S1 S2 o0 o1 o2 h0 h1 h2 L0 L1 L2
   rw [rounds_succ]
   go_wp2
   go_ret
   have q0 : (queS l 0).length = (idxQ l 0 l.length).length:=isort_length _ _
   have q1 : (queS l 1).length = (idxQ l 1 l.length).length:=isort_length _ _
   have q2 : (queS l 2).length = (idxQ l 2 l.length).length:=isort_length _ _
   exact ⟨w.heap.size + 1,rfl,Nat.le_succ _,⟨p0,e0,p1,e1,p2,e2,blk_lt kq3,by rw [q0,q1,q2];exact range_of_blk kq3 0 _ rfl,HS0.out,HS1.out,HS2.out,u0,u1,u2⟩,hB3⟩
def SameB (g : Nat) (W W' : World) : Prop:=W.heap.size ≤ W'.heap.size ∧ ∀ b,b < W.heap.size → b ≠ g → W'.heap[b]? = W.heap[b]?
theorem SameB.refl (g : Nat) (W : World) : SameB g W W:=⟨Nat.le_refl _,fun _ _ _ => rfl⟩
theorem SameB.trans {g : Nat} {W W1 W2 : World} (h : SameB g W W1) (h2 : SameB g W1 W2) : SameB g W W2:=⟨Nat.le_trans h.1 h2.1,fun b hb hg => (h2.2 b (Nat.lt_of_lt_of_le hb h.1) hg).trans (h.2 b hb hg)⟩
theorem SameB.of {g : Nat} {W W' : World} (h : Below W.heap.size W W') : SameB g W W':=⟨h.size,fun b hb _ => h.block b hb⟩
theorem SameB.set {g : Nat} {W W' : World} (h : SameB g W W') (o : Nat) (v : Value) : SameB g W (W'.setCell ⟨g,o,none⟩ v):=⟨by simpa using h.1,fun b hb hg => (Below.heap_setCell W' ⟨g,o,none⟩ v b hg).trans (h.2 b hb hg)⟩
theorem SameB.grown {g : Nat} {W W1 W2 : World} {row : Option Nat} (h : SameB g W W1) (h2 : W1.grownBy W2 row) (hr : ∀ k,row = some k → W.heap.size ≤ k) : SameB g W W2 :=
  ⟨Nat.le_trans h.1 h2.size,fun b hb hg => (h2.block b (Nat.lt_of_lt_of_le hb h.1) (fun e => by have:=hr b e.symm;omega)).trans (h.2 b hb hg)⟩
theorem blk_same {g b : Nat} {W W' : World} {c : Array Value} (h : blk W b = some c) (hb : b ≠ g) (hs : SameB g W W') : blk W' b = some c:=(blk_kept (hs.2 b (blk_lt h) hb)).trans h
theorem range_same {g b o : Nat} {W W' : World} {cs : List Value} (hb : b < W.heap.size) (h : W.rangeAt b o cs) (hg : b ≠ g) (hs : SameB g W W') : W'.rangeAt b o cs:=fun j v hv => by
  rw [World.cell?_of_block (w:=W) (hs.2 b hb hg)]
  exact h j v hv
def neA {α : Type} (g : Nat) (a : Option Addr) (l : List α) : Prop:=0 < l.length → ∀ b off,a = some ⟨b,off,none⟩ → b ≠ g
theorem SRow.sameB {α : Type} {enc : α → List Value} {k g : Nat} {W W' : World} {a : Option Addr} {cap : Nat} {l : List α} (h : SRow enc k W a cap l) (hs : SameB g W W') (hne : neA g a l) : SRow enc k W' a cap l:=by
  obtain ⟨h1,h2,h3,h4⟩:=h
  refine ⟨h1,h2,h3,fun h0 => ?_⟩
  obtain ⟨b,off,e,hlt,hc⟩:=h4 h0
  exact ⟨b,off,e,Nat.lt_of_lt_of_le hlt hs.1,fun i hi => range_same hlt (hc i hi) (hne h0 b off e) hs⟩
theorem SRow.lt {α : Type} {enc : α → List Value} {k : Nat} {W : World} {a : Option Addr} {cap : Nat} {l : List α} (h : SRow enc k W a cap l) (h0 : 0 < l.length) {b off : Nat} (e : a = some ⟨b,off,none⟩) : b < W.heap.size:=by
  obtain ⟨b',off',e',hlt,_⟩:=h.2.2.2 h0
  rw [e'] at e;cases e;exact hlt
theorem SRow.neNew {α : Type} {enc : α → List Value} {k g : Nat} {W : World} {a : Option Addr} {cap : Nat} {l : List α} (h : SRow enc k W a cap l) (hg : W.heap.size ≤ g) : neA g a l:=fun h0 b off e => by have:=h.lt h0 e;omega
theorem upR.neA {α : Type} {B g : Nat} {a : Option Addr} (h : upR B a) (hg : g < B) (l : List α) : neA g a l:=fun _ b off e => by have:=h b off e;omega
def QAtN (W : World) (g g2 ob : Nat) (q0 q1 q2 : List Int) : Prop:=∃ a0 c0 a1 c1 a2 c2,(ob ≠ g ∧ ob ≠ g2) ∧ ob < W.heap.size ∧ W.rangeAt ob 0 [.slice a0 q0.length c0,.slice a1 q1.length c1,.slice a2 q2.length c2] ∧ SRow ic 1 W a0 c0 q0 ∧ SRow ic 1 W a1 c1 q1 ∧ SRow ic 1 W a2 c2 q2 ∧ (neA g a0 q0 ∧ neA g2 a0 q0) ∧ (neA g a1 q1 ∧ neA g2 a1 q1) ∧ (neA g a2 q2 ∧ neA g2 a2 q2)
theorem QAtN.sameB {W W' : World} {g g2 ob : Nat} {q0 q1 q2 : List Int} (h : QAtN W g g2 ob q0 q1 q2) (hs : SameB g W W') : QAtN W' g g2 ob q0 q1 q2:=by
  obtain ⟨a0,c0,a1,c1,a2,c2,h1,h2,h3,h4,h5,h6,h7,h8,h9⟩:=h
  exact ⟨a0,c0,a1,c1,a2,c2,h1,Nat.lt_of_lt_of_le h2 hs.1,range_same h2 h3 h1.1 hs,h4.sameB hs h7.1,h5.sameB hs h8.1,h6.sameB hs h9.1,h7,h8,h9⟩
theorem QAtN.swap {W : World} {g g2 ob : Nat} {q0 q1 q2 : List Int} (h : QAtN W g g2 ob q0 q1 q2) : QAtN W g2 g ob q0 q1 q2:=by
  obtain ⟨a0,c0,a1,c1,a2,c2,h1,h2,h3,h4,h5,h6,h7,h8,h9⟩:=h
  exact ⟨a0,c0,a1,c1,a2,c2,h1.symm,h2,h3,h4,h5,h6,h7.symm,h8.symm,h9.symm⟩
theorem QAtN.at {W : World} {g g2 ob : Nat} {q0 q1 q2 : List Int} (h : QAtN W g g2 ob q0 q1 q2) : QAt W ob q0 q1 q2:=by
  obtain ⟨a0,c0,a1,c1,a2,c2,h1,h2,h3,h4,h5,h6,h7,h8,h9⟩:=h
  exact ⟨a0,c0,a1,c1,a2,c2,h2,h3,h4,h5,h6⟩
theorem QAtU.new {W : World} {g g2 ob : Nat} {q0 q1 q2 : List Int} (h : QAtU W ob q0 q1 q2) (hg : W.heap.size ≤ g) (hg2 : g2 < ob) : QAtN W g g2 ob q0 q1 q2:=by
  obtain ⟨a0,c0,a1,c1,a2,c2,h2,h3,h4,h5,h6,h7,h8,h9⟩:=h
  exact ⟨a0,c0,a1,c1,a2,c2,⟨by omega,by omega⟩,h2,h3,h4,h5,h6,⟨h4.neNew hg,h7.neA hg2 _⟩,⟨h5.neNew hg,h8.neA hg2 _⟩,⟨h6.neNew hg,h9.neA hg2 _⟩⟩
theorem heap_setCells {b d : Nat} (hd : d ≠ b) : ∀ (vs : List Value) (o : Nat) (w : World),(w.setCells b o vs).heap[d]? = w.heap[d]?
  | [],o,w => rfl
  | v :: r,o,w => (heap_setCells hd r (o + 1) _).trans (Below.heap_setCell w ⟨b,o,none⟩ v d hd)
section
variable {P : Program} {ops : Array Oper} {rest : List Oper} {o : Oper} {a : Act} {w : World}
theorem wp_store_midB {K : Act → World → Prop} {Q : Exit → Act → World → Prop} (ty : TypeId) (x y : Operand) (b off : Nat) (c c' cells : Array Value) (hb : blk w b = some c) (ho : o.op = .store ty x y)
    (hx : a.eval x = .pointer (some ⟨b,off,none⟩)) (hy : a.eval y = .agg cells) (hsz : off + cells.size ≤ c.size) (hi : (P.info? ty).map (·.size) = some cells.size) (h1 : cells.all (·.oneCell') = true)
    (hc : setMid c off cells.toList = c')
    (h : ∀ w',blk w' b = some c' → SameB b w w' → (∀ B w0,B ≤ b → Below B w0 w → Below B w0 w') → w'.heap.size = w.heap.size → K (a.put o.dst undef) w') : o.wp P a w K Q:=by
  refine wp_store_mid ty x y ho b off cells hx hy (there_of_blk hb hsz) hi h1 ?_
  exact h _ (hc ▸ blk_setCells _ _ _ _ hb) ⟨by rw [size_setCells];exact Nat.le_refl _,fun d _ hd => heap_setCells hd _ _ _⟩ (fun B w0 hB hw => below_setCells hB _ _ _ hw) (size_setCells _ _ _)
theorem wpList_store_midW {Q : Exit → Act → World → Prop} (ty : TypeId) (x y : Operand) (b off : Nat) (c c' cells : Array Value) (hb : blk w b = some c) (hgd : o.guard = none) (ho : o.op = .store ty x y)
    (hx : a.eval x = .pointer (some ⟨b,off,none⟩)) (hy : a.eval y = .agg cells) (hsz : off + cells.size ≤ c.size) (hi : (P.info? ty).map (·.size) = some cells.size) (h1 : cells.all (·.oneCell') = true)
    (hc : setMid c off cells.toList = c')
    (h : ∀ w',blk w' b = some c' → SameB b w w' → (∀ B w0,B ≤ b → Below B w0 w → Below B w0 w') → w'.heap.size = w.heap.size → wpList P ops Q rest (a.put o.dst undef) w') : wpList P ops Q (o :: rest) a w :=
  wpList_plain hgd fun _ hK => wp_store_midB ty x y b off c c' cells hb ho hx hy hsz hi h1 hc (fun w' h1 h2 h3 h4 => hK _ _ (h w' h1 h2 h3 h4))
end
def WayAt (W : World) (c : Array Value) (x : Wy) : Prop:=∃ aw cw ad cd ap cp al cl ob cq az cz,
  c = #[.slice aw 3 cw,.int .i64 x.dr.q,.slice ad 3 cd,.int .i64 x.dr.t,.slice ap 3 cp,.slice al x.l.length cl,.slice (some ⟨ob,0,none⟩) 3 cq,.slice az x.sz.length cz,.int .u64 x.us,.int .i64 x.bu,.int .i64 x.by'] ∧
  3 ≤ cq ∧ cq ≤ maxLen ∧ SRow ic 1 W aw cw x.dr.w ∧ SRow ic 1 W ad cd x.dr.d ∧ SRow ic 1 W ap cp x.ps ∧ SRow bn 9 W al cl x.l ∧ QAt W ob (quA x 0) (quA x 1) (quA x 2) ∧ SRow ic 1 W az cz x.sz
theorem WayAt.below {W W' : World} {c : Array Value} {x : Wy} (h : WayAt W c x) (hb : Below W.heap.size W W') : WayAt W' c x:=by
  obtain ⟨aw,cw,ad,cd,ap,cp,al,cl,ob,cq,az,cz,e,h1,h2,h3,h4,h5,h6,h7,h8⟩:=h
  exact ⟨aw,cw,ad,cd,ap,cp,al,cl,ob,cq,az,cz,e,h1,h2,h3.below hb,h4.below hb,h5.below hb,h6.below hb,h7.below hb,h8.below hb⟩
def neS {α : Type} (S : Nat → Prop) (a : Option Addr) (l : List α) : Prop:=0 < l.length → ∀ b off,a = some ⟨b,off,none⟩ → ¬ S b
theorem neS.neA {α : Type} {S : Nat → Prop} {a : Option Addr} {l : List α} (h : neS S a l) {g : Nat} (hg : S g) : neA g a l:=fun h0 b off e hb => h h0 b off e (hb ▸ hg)
theorem neS.mono {α : Type} {S T : Nat → Prop} {a : Option Addr} {l : List α} (h : neS S a l) (hT : ∀ b,T b → S b) : neS T a l:=fun h0 b off e hb => h h0 b off e (hT b hb)
theorem upR.neS {α : Type} {B : Nat} {S : Nat → Prop} {a : Option Addr} (h : upR B a) (hS : ∀ b,S b → b < B) (l : List α) : neS S a l:=fun _ b off e hb => by have:=h b off e;have:=hS b hb;omega
theorem SRow.neS {α : Type} {enc : α → List Value} {k : Nat} {S : Nat → Prop} {W : World} {a : Option Addr} {cap : Nat} {l : List α} (h : SRow enc k W a cap l) (hS : ∀ b,S b → W.heap.size ≤ b) : neS S a l:=fun h0 b off e hb => by have:=h.lt h0 e;have:=hS b hb;omega
def or2 (S : Nat → Prop) (g g2 : Nat) : Nat → Prop:=fun b => b = g ∨ b = g2 ∨ S b
theorem or2_1 {S : Nat → Prop} {g g2 : Nat} : or2 S g g2 g:=.inl rfl
theorem or2_2 {S : Nat → Prop} {g g2 : Nat} : or2 S g g2 g2:=.inr (.inl rfl)
theorem or2_3 {S : Nat → Prop} {g g2 : Nat} : ∀ b,S b → or2 S g g2 b:=fun _ h => .inr (.inr h)
def QAtS (S : Nat → Prop) (W : World) (ob : Nat) (q0 q1 q2 : List Int) : Prop:=∃ a0 c0 a1 c1 a2 c2,¬ S ob ∧ ob < W.heap.size ∧ W.rangeAt ob 0 [.slice a0 q0.length c0,.slice a1 q1.length c1,.slice a2 q2.length c2] ∧ SRow ic 1 W a0 c0 q0 ∧ SRow ic 1 W a1 c1 q1 ∧ SRow ic 1 W a2 c2 q2 ∧ neS S a0 q0 ∧ neS S a1 q1 ∧ neS S a2 q2
theorem QAtS.sameB {S : Nat → Prop} {W W' : World} {g ob : Nat} {q0 q1 q2 : List Int} (h : QAtS S W ob q0 q1 q2) (hs : SameB g W W') (hg : S g) : QAtS S W' ob q0 q1 q2:=by
  obtain ⟨a0,c0,a1,c1,a2,c2,h1,h2,h3,h4,h5,h6,h7,h8,h9⟩:=h
  exact ⟨a0,c0,a1,c1,a2,c2,h1,Nat.lt_of_lt_of_le h2 hs.1,range_same h2 h3 (fun e => h1 (e ▸ hg)) hs,h4.sameB hs (h7.neA hg),h5.sameB hs (h8.neA hg),h6.sameB hs (h9.neA hg),h7,h8,h9⟩
theorem QAtS.below {S : Nat → Prop} {W W' : World} {ob : Nat} {q0 q1 q2 : List Int} (h : QAtS S W ob q0 q1 q2) (hb : Below W.heap.size W W') : QAtS S W' ob q0 q1 q2:=by
  obtain ⟨a0,c0,a1,c1,a2,c2,h1,h2,h3,h4,h5,h6,h7,h8,h9⟩:=h
  exact ⟨a0,c0,a1,c1,a2,c2,h1,Nat.lt_of_lt_of_le h2 hb.size,range_below h2 h3 hb,h4.below hb,h5.below hb,h6.below hb,h7,h8,h9⟩
theorem QAtS.mono {S T : Nat → Prop} {W : World} {ob : Nat} {q0 q1 q2 : List Int} (h : QAtS S W ob q0 q1 q2) (hT : ∀ b,T b → S b) : QAtS T W ob q0 q1 q2:=by
  obtain ⟨a0,c0,a1,c1,a2,c2,h1,h2,h3,h4,h5,h6,h7,h8,h9⟩:=h
  exact ⟨a0,c0,a1,c1,a2,c2,fun h => h1 (hT _ h),h2,h3,h4,h5,h6,h7.mono hT,h8.mono hT,h9.mono hT⟩
theorem QAtS.at {S : Nat → Prop} {W : World} {ob : Nat} {q0 q1 q2 : List Int} (h : QAtS S W ob q0 q1 q2) : QAt W ob q0 q1 q2:=by
  obtain ⟨a0,c0,a1,c1,a2,c2,h1,h2,h3,h4,h5,h6,h7,h8,h9⟩:=h
  exact ⟨a0,c0,a1,c1,a2,c2,h2,h3,h4,h5,h6⟩
theorem QAtU.newS {S : Nat → Prop} {W : World} {ob : Nat} {q0 q1 q2 : List Int} (h : QAtU W ob q0 q1 q2) (hS : ∀ b,S b → W.heap.size ≤ b ∨ b < ob) : QAtS S W ob q0 q1 q2:=by
  obtain ⟨a0,c0,a1,c1,a2,c2,h2,h3,h4,h5,h6,h7,h8,h9⟩:=h
  have H : ∀ {a : Option Addr} {c : Nat} {q : List Int},SRow ic 1 W a c q → upR ob a → neS S a q:=fun r u h0 b off e hb => by
    have:=r.lt h0 e;have:=u b off e;have:=hS b hb;omega
  exact ⟨a0,c0,a1,c1,a2,c2,fun h => by have:=hS _ h;omega,h2,h3,h4,h5,h6,H h4 h7,H h5 h8,H h6 h9⟩
theorem QAt.newS {S : Nat → Prop} {W : World} {ob : Nat} {q0 q1 q2 : List Int} (h : QAt W ob q0 q1 q2) (hS : ∀ b,S b → W.heap.size ≤ b) : QAtS S W ob q0 q1 q2:=by
  obtain ⟨a0,c0,a1,c1,a2,c2,h2,h3,h4,h5,h6⟩:=h
  exact ⟨a0,c0,a1,c1,a2,c2,fun h => by have:=hS _ h;omega,h2,h3,h4,h5,h6,h4.neS hS,h5.neS hS,h6.neS hS⟩
def WayS (S : Nat → Prop) (W : World) (c : Array Value) (x : Wy) : Prop:=∃ aw cw ad cd ap cp al cl ob cq az cz,
  c = #[.slice aw 3 cw,.int .i64 x.dr.q,.slice ad 3 cd,.int .i64 x.dr.t,.slice ap 3 cp,.slice al x.l.length cl,.slice (some ⟨ob,0,none⟩) 3 cq,.slice az x.sz.length cz,.int .u64 x.us,.int .i64 x.bu,.int .i64 x.by'] ∧
  3 ≤ cq ∧ cq ≤ maxLen ∧ SRow ic 1 W aw cw x.dr.w ∧ SRow ic 1 W ad cd x.dr.d ∧ SRow ic 1 W ap cp x.ps ∧ SRow bn 9 W al cl x.l ∧ QAtS S W ob (quA x 0) (quA x 1) (quA x 2) ∧ SRow ic 1 W az cz x.sz ∧
  neS S aw x.dr.w ∧ neS S ad x.dr.d ∧ neS S ap x.ps ∧ neS S al x.l ∧ neS S az x.sz
theorem WayS.at {S : Nat → Prop} {W : World} {c : Array Value} {x : Wy} (h : WayS S W c x) : WayAt W c x:=by
  obtain ⟨aw,cw,ad,cd,ap,cp,al,cl,ob,cq,az,cz,e,h1,h2,h3,h4,h5,h6,h7,h8,_⟩:=h
  exact ⟨aw,cw,ad,cd,ap,cp,al,cl,ob,cq,az,cz,e,h1,h2,h3,h4,h5,h6,h7.at,h8⟩
theorem WayS.below {S : Nat → Prop} {W W' : World} {c : Array Value} {x : Wy} (h : WayS S W c x) (hb : Below W.heap.size W W') : WayS S W' c x:=by
  obtain ⟨aw,cw,ad,cd,ap,cp,al,cl,ob,cq,az,cz,e,h1,h2,h3,h4,h5,h6,h7,h8,n1,n2,n3,n4,n5⟩:=h
  exact ⟨aw,cw,ad,cd,ap,cp,al,cl,ob,cq,az,cz,e,h1,h2,h3.below hb,h4.below hb,h5.below hb,h6.below hb,h7.below hb,h8.below hb,n1,n2,n3,n4,n5⟩
theorem WayS.sameB {S : Nat → Prop} {W W' : World} {g : Nat} {c : Array Value} {x : Wy} (h : WayS S W c x) (hs : SameB g W W') (hg : S g) : WayS S W' c x:=by
  obtain ⟨aw,cw,ad,cd,ap,cp,al,cl,ob,cq,az,cz,e,h1,h2,h3,h4,h5,h6,h7,h8,n1,n2,n3,n4,n5⟩:=h
  exact ⟨aw,cw,ad,cd,ap,cp,al,cl,ob,cq,az,cz,e,h1,h2,h3.sameB hs (n1.neA hg),h4.sameB hs (n2.neA hg),h5.sameB hs (n3.neA hg),h6.sameB hs (n4.neA hg),h7.sameB hs hg,h8.sameB hs (n5.neA hg),n1,n2,n3,n4,n5⟩
theorem WayS.mono {S T : Nat → Prop} {W : World} {c : Array Value} {x : Wy} (h : WayS S W c x) (hT : ∀ b,T b → S b) : WayS T W c x:=by
  obtain ⟨aw,cw,ad,cd,ap,cp,al,cl,ob,cq,az,cz,e,h1,h2,h3,h4,h5,h6,h7,h8,n1,n2,n3,n4,n5⟩:=h
  exact ⟨aw,cw,ad,cd,ap,cp,al,cl,ob,cq,az,cz,e,h1,h2,h3,h4,h5,h6,h7.mono hT,h8,n1.mono hT,n2.mono hT,n3.mono hT,n4.mono hT,n5.mono hT⟩
theorem neS.or {α : Type} {S : Nat → Prop} {W : World} {enc : α → List Value} {k : Nat} {a : Option Addr} {cap : Nat} {l : List α} (h : neS S a l) (r : SRow enc k W a cap l) {g g2 : Nat} (hg : W.heap.size ≤ g) (hg2 : W.heap.size ≤ g2) : neS (or2 S g g2) a l:=fun h0 b off e hb => by
  have h9:=r.lt h0 e
  rcases hb with rfl|rfl|hb
  · omega
  · omega
  · exact h h0 b off e hb
theorem WayS.or {S : Nat → Prop} {W : World} {g g2 : Nat} {c : Array Value} {x : Wy} (h : WayS S W c x) (hg : W.heap.size ≤ g) (hg2 : W.heap.size ≤ g2) : WayS (or2 S g g2) W c x:=by
  obtain ⟨aw,cw,ad,cd,ap,cp,al,cl,ob,cq,az,cz,e,h1,h2,h3,h4,h5,h6,h7,h8,n1,n2,n3,n4,n5⟩:=h
  obtain ⟨a0,c0,a1,c1,a2,c2,k1,k2,k3,k4,k5,k6,k7,k8,k9⟩:=h7
  refine ⟨aw,cw,ad,cd,ap,cp,al,cl,ob,cq,az,cz,e,h1,h2,h3,h4,h5,h6,⟨a0,c0,a1,c1,a2,c2,?_,k2,k3,k4,k5,k6,k7.or k4 hg hg2,k8.or k5 hg hg2,k9.or k6 hg hg2⟩,h8,n1.or h3 hg hg2,n2.or h4 hg hg2,n3.or h5 hg hg2,n4.or h6 hg hg2,n5.or h8 hg hg2⟩
  rintro (rfl|rfl|hb)
  · omega
  · omega
  · exact k1 hb
def ExitS (S : Nat → Prop) (W : World) (c : Array Value) (r : Rr) (ps : List Int) : Prop:=∃ aw cw ad cd ap cp,c = #[.slice aw 3 cw,.int .i64 r.q,.slice ad 3 cd,.int .i64 r.t,.slice ap 3 cp] ∧ SRow ic 1 W aw cw r.w ∧ SRow ic 1 W ad cd r.d ∧ SRow ic 1 W ap cp ps ∧ neS S aw r.w ∧ neS S ad r.d ∧ neS S ap ps
theorem ExitS.below {S : Nat → Prop} {W W' : World} {c : Array Value} {r : Rr} {ps : List Int} (h : ExitS S W c r ps) (hb : Below W.heap.size W W') : ExitS S W' c r ps:=by
  obtain ⟨aw,cw,ad,cd,ap,cp,e,h1,h2,h3,n⟩:=h
  exact ⟨aw,cw,ad,cd,ap,cp,e,h1.below hb,h2.below hb,h3.below hb,n⟩
theorem ExitS.sameB {S : Nat → Prop} {W W' : World} {g : Nat} {c : Array Value} {r : Rr} {ps : List Int} (h : ExitS S W c r ps) (hs : SameB g W W') (hg : S g) : ExitS S W' c r ps:=by
  obtain ⟨aw,cw,ad,cd,ap,cp,e,h1,h2,h3,n1,n2,n3⟩:=h
  exact ⟨aw,cw,ad,cd,ap,cp,e,h1.sameB hs (n1.neA hg),h2.sameB hs (n2.neA hg),h3.sameB hs (n3.neA hg),n1,n2,n3⟩
theorem ExitS.mono {S T : Nat → Prop} {W : World} {c : Array Value} {r : Rr} {ps : List Int} (h : ExitS S W c r ps) (hT : ∀ b,T b → S b) : ExitS T W c r ps:=by
  obtain ⟨aw,cw,ad,cd,ap,cp,e,h1,h2,h3,n1,n2,n3⟩:=h
  exact ⟨aw,cw,ad,cd,ap,cp,e,h1,h2,h3,n1.mono hT,n2.mono hT,n3.mono hT⟩
theorem ExitS.or {S : Nat → Prop} {W : World} {g g2 : Nat} {c : Array Value} {r : Rr} {ps : List Int} (h : ExitS S W c r ps) (hg : W.heap.size ≤ g) (hg2 : W.heap.size ≤ g2) : ExitS (or2 S g g2) W c r ps:=by
  obtain ⟨aw,cw,ad,cd,ap,cp,e,h1,h2,h3,n1,n2,n3⟩:=h
  exact ⟨aw,cw,ad,cd,ap,cp,e,h1,h2,h3,n1.or h1 hg hg2,n2.or h2 hg hg2,n3.or h3 hg hg2⟩
def RetO (S : Nat → Prop) (x : Wy) (w : World) (e : Ending) (w' : World) : Prop:=∃ c,e = .returned (.tuple #[.agg c,.int .i64 0]) ∧ WayS S w' c x ∧ Below w.heap.size w w'
set_option maxHeartbeats 6400000 in
theorem open_ok (aw : Option Addr) (cw : Nat) (ad : Option Addr) (cd : Nat) (ap : Option Addr) (cp : Nat) (ws ds : List Int) (q t : Int) (ps : List Int) (al : Option Addr) (cl : Nat) (l : List Bn) (us bu by' : Int) (hl : l.length ≤ 20) (hI : ∀ x ∈ l,BnI x) (hp : ∀ x ∈ l,0 ≤ x.pr ∧ x.pr ≤ 2) (hda : ∀ x ∈ l,x.da.size ≤ maxLen) (hsq : ∀ x ∈ l,0 ≤ x.sq)
  (h3 : ws.length = 3) (h3d : ds.length = 3) (h3p : ps.length = 3) (hk : chkX ⟨ws,ds,q,t⟩ ps = 0) (hls : lstE l = 0) (hbu : 0 ≤ bu) (hby : 0 ≤ by' ∧ by' ≤ 100)
  (w : World) (hT : HTab w) (hw : SRow ic 1 w aw cw ws) (hd : SRow ic 1 w ad cd ds) (hps : SRow ic 1 w ap cp ps) (hrow : SRow bn 9 w al cl l)
  (S : Nat → Prop) (hS : ∀ b,S b → b < w.heap.size) (nw : neS S aw ws) (nd : neS S ad ds) (nl : neS S al l) :
  Calls Tryd.prog 38 #[.agg #[.slice aw 3 cw,.int .i64 q,.slice ad 3 cd,.int .i64 t,.slice ap 3 cp],.slice al l.length cl,.int .u64 us,.int .i64 bu,.int .i64 by'] w fun e w' => RetO S ⟨⟨ws,ds,q,t⟩,ps,l,[queS l 0,queS l 1,queS l 2],sizesE l,us,bu,by'⟩ w e w':=by
 obtain ⟨i0,hi,hz0,hz1,hz2⟩:=info_parts infoI64
 have Hi:=Lib.hid hi;have Hz0:=Lib.hid hz0;have Hz1:=Lib.hid hz1;have Hz2:=Lib.hid hz2
 clear hi hz0 hz1 hz2
 have GK:=Lib.hid (fun W (hB : Below w.heap.size w W) => (show Calls Tryd.prog 23 #[.agg #[.slice aw 3 cw,.int .i64 q,.slice ad 3 cd,.int .i64 t,.slice ap 3 cp]] W fun e w' => e = .returned (.int .i64 0) ∧ Below W.heap.size W w' from by
  have h9:=xchk_any aw cw ad cd ap cp ⟨ws,ds,q,t⟩ ps W (hw.below hB) (hd.below hB) (hps.below hB)
  rw [hk] at h9
  simp only [h3,h3d,h3p] at h9
  exact h9))
 have GL:=Lib.hid (fun W (hB : Below w.heap.size w W) => (show Calls Tryd.prog 45 #[.slice al l.length cl] W fun e w' => e = .returned (.int .i64 0) ∧ Below W.heap.size W w' from by
  have h9:=list_any al cl l hda W (hrow.below hB)
  rw [hls] at h9
  exact h9))
 have GC:=Lib.hid (fun W (hB : Below w.heap.size w W) => (show Calls Tryd.prog 60 #[.slice ap 3 cp] W fun e w' => ∃ v,e = .returned v ∧ w'.ownsRow W.heap.size 3 1 v ps.length (rowC ic ps) ∧ Below W.heap.size W w' from by
  have h9:=cloneI_any ap cp ps (by omega) W (hps.below hB)
  rw [h3p] at h9
  rw [h3p]
  exact (show (fun e w' => OwnI ps W e w') = _ by funext e w';unfold OwnI;rw [h3p]) ▸ h9))
 have GQ:=Lib.hid (fun W (hB : Below w.heap.size w W) => queues_any al cl l hl hI hp W (hrow.below hB))
 have HR:=Lib.hid hrow;have HI:=Lib.hid hI;have HDA:=Lib.hid hda;have HSQ:=Lib.hid hsq;have HT:=Lib.hid hT
 have HW:=Lib.hid hw;have HD:=Lib.hid hd;have NS:=Lib.hid (And.intro hS (And.intro nw (And.intro nd nl)))
 have hcap:=hrow.1
 have hmax:=hrow.2.1
 unfold maxLen at hmax
 have t0 : ((0 : Int) == 0) = true:=rfl
 have t1 : ((0 : Int) != 0) = false:=rfl
 have t2 : decide (bu < 0) = false:=decide_eq_false (by omega)
 have t3 : decide (by' < 0) = false:=decide_eq_false (by omega)
 have t4 : decide (100 < by') = false:=decide_eq_false (by omega)
 have H3:=Lib.hid h3p
 clear hS nw nd nl hI hp hda hsq hk hls hbu hby hT hw hd hps hrow h3 h3d
 go_enter Tryd.func38,Tryd.ntmps38
 go_upto_region 9 with (first|(go_at_call 23;(with_reducible refine (GK.out _ (by (repeat(first|(with_reducible first|assumption|exact Below.refl _ _|refine je ?_|refine jl ?_)|((with_reducible refine jp ?_ ?_);first|focus(dsimp only;assumption)|focus(simp;done)|focus(dsimp only;omega))|(with_reducible refine bt ?_ (by assumption)))))).mono ?_);rintro e u2 ⟨rfl,h2⟩;(have b2 : Below w.heap.size w u2:=by (repeat(first|(with_reducible first|assumption|exact Below.refl _ _|refine je ?_|refine jl ?_)|((with_reducible refine jp ?_ ?_);first|focus(dsimp only;assumption)|focus(simp;done)|focus(dsimp only;omega))|(with_reducible refine bt ?_ (by assumption)))));(have k2 : blk u2 w.heap.size = some #[.slice aw 3 cw,.int .i64 q,.slice ad 3 cd,.int .i64 t,.slice ap 3 cp]:=blk_below h2 (blk_alloc (blk_alloc_new _ _ _ rfl) _));(have z2 : blk u2 (w.heap.size + 1) = some #[.slice none 0 0,.int .i64 0,.slice none 0 0,.int .i64 0,.slice none 0 0,.slice none 0 0,.slice none 0 0,.slice none 0 0,.int .u64 0,.int .i64 0,.int .i64 0]:=blk_below h2 (blk_alloc_new _ _ _ (by simp)));clear h2)|(go_at_call 45;(with_reducible refine (GL.out _ b2).mono ?_);rintro e u3 ⟨rfl,h3⟩;(have b3:=bt b2 h3);(have k3:=blk_below h3 k2);(have z3:=blk_below h3 z2);(have n3:=kn k3);clear h3 k2 z2 b2)|(go_at_call 60;(with_reducible refine (GC.out _ b3).mono ?_);rintro e u4 ⟨vv,rfl,ho4,h4⟩;(have z3':=blk_lt z3);obtain ⟨a1,c1,rfl,R4,_⟩:=srow_of_owns ic_len ho4;(have A4 : upR u3.heap.size a1:=fun b off e => by subst e;exact (ho4.lt b rfl).1);(have b4:=bt b3 h4);(have k4:=blk_below h4 k3);(have z4:=blk_below h4 z3);(have n4:=kn k4);clear h4 k3 z3 b3 n3 ho4))
 obtain ⟨V,eV⟩ : ∃ v,v = u4.setCell ⟨w.heap.size,4,none⟩ (.slice a1 3 c1):=⟨_,rfl⟩
 have kV : blk V w.heap.size = some #[.slice aw 3 cw,.int .i64 q,.slice ad 3 cd,.int .i64 t,.slice a1 3 c1]:=(by rw [eV];exact blk_set k4)
 have zV : blk V (w.heap.size + 1) = some #[.slice none 0 0,.int .i64 0,.slice none 0 0,.int .i64 0,.slice none 0 0,.slice none 0 0,.slice none 0 0,.slice none 0 0,.int .u64 0,.int .i64 0,.int .i64 0]:=(by rw [eV];exact blk_other z4 (show w.heap.size + 1 ≠ w.heap.size by omega))
 have bV : Below w.heap.size w V:=(by rw [eV];exact b4.setCell (Nat.le_refl _) _)
 have RV : SRow ic 1 V a1 c1 ps:=(by rw [eV];exact R4.setOtherE (A4.ne (by omega)) _ _)
 rw [← eV]
 clear eV k4 z4 b4 R4 n4
 refine wp_region_held_drew (S:=fun W => ∀ o,W.cell? ⟨w.heap.size,o,none⟩ = (#[.slice aw 3 cw,.int .i64 q,.slice ad 3 cd,.int .i64 t,.slice a1 3 c1] : Array Value)[o]?) (by kernel_rfl) (fun o => blk_cell (blk_drew kV) o) (fun hHeld => ?_)
 obtain ⟨d0,ed⟩ : ∃ v,v = V.drew:=⟨_,rfl⟩
 have kd0 : blk d0 w.heap.size = some #[.slice aw 3 cw,.int .i64 q,.slice ad 3 cd,.int .i64 t,.slice a1 3 c1]:=(by rw [ed];exact blk_drew kV)
 have zd0 : blk d0 (w.heap.size + 1) = some #[.slice none 0 0,.int .i64 0,.slice none 0 0,.int .i64 0,.slice none 0 0,.slice none 0 0,.slice none 0 0,.slice none 0 0,.int .u64 0,.int .i64 0,.int .i64 0]:=(by rw [ed];exact blk_drew zV)
 have bd0 : Below w.heap.size w d0:=(by rw [ed];exact bV.drew)
 have Rd0 : SRow ic 1 d0 a1 c1 ps:=(by rw [ed];exact RV)
 rw [← ed] at hHeld ⊢
 clear ed kV zV bV RV
 refine jK (v:=?_) 1 ?_ ?_
 rotate_left;focus(intro W h;(try dsimp only at h);go_simp;(try with_reducible rfl));(try simp only[Act.put,jA,jB,jC,jD,jE,jF])
 refine jK (v:=?_) 2 ?_ ?_
 rotate_left;focus(intro W h;(try dsimp only at h);go_simp;(try with_reducible rfl));(try simp only[Act.put,jA,jB,jC,jD,jE,jF])
 refine jK (v:=?_) 4 ?_ ?_
 rotate_left;focus(intro W h;(try dsimp only at h);go_simp;(try with_reducible rfl));(try simp only[Act.put,jA,jB,jC,jD,jE,jF])
 refine jK (v:=?_) 5 ?_ ?_
 rotate_left;focus(intro W h;(try dsimp only at h);go_simp;(try with_reducible rfl));(try simp only[Act.put,jA,jB,jC,jD,jE,jF])
 refine jK (v:=?_) 6 ?_ ?_
 rotate_left;focus(intro W h;(try dsimp only at h);go_simp;(try with_reducible rfl));(try simp only[Act.put,jA,jB,jC,jD,jE,jF])
 refine jK (v:=?_) 0 ?_ ?_
 rotate_left;focus(intro W h;(try dsimp only at h);go_simp;(try with_reducible rfl));(try simp only[Act.put,jA,jB,jC,jD,jE,jF])
 refine wpAnyH_ready (rs:=[3,8]) (by kernel_rfl) (by simp) ?_
 refine AllReadyH.cons rfl (fun K hK => ?_) ?_
 ·skip
  go_simp
  go_at_call 46
  (with_reducible refine (GQ.out _ bd0).mono ?_)
  rintro e uq ⟨ob,rfl,lob,HQ,hB⟩
  (try go_wp2_with fail)
  have kuq:=blk_below hB kd0
  have zuq:=blk_below hB zd0
  have buq:=bt bd0 hB
  have Ruq:=Rd0.below hB
  clear hB
  refine hK.out _ _ (fun o => blk_cell kuq o) (fun _ => ?_)
  clear hK K
  (try simp only[Act.put,jA,jB,jC,jD,jE,jF])
  refine jK (v:=?_) 7 ?_ ?_
  rotate_left;focus(intro W h;(try dsimp only at h);go_simp;(try with_reducible rfl));(try simp only[Act.put,jA,jB,jC,jD,jE,jF])
  refine jR 8 (fun K hK => ?_)
  go_simp
  obtain ⟨ua,ea⟩ : ∃ v,v = uq.alloc (.cells #[.slice none 0 0,.int .i64 0,.slice none 0 0,.int .i64 0,.slice none 0 0,.slice none 0 0,.slice none 0 0,.slice none 0 0,.int .u64 0,.int .i64 0,.int .i64 0] 70):=⟨_,rfl⟩
  obtain ⟨g,eg⟩ : ∃ v,v = uq.heap.size:=⟨_,rfl⟩
  have hB : Below uq.heap.size uq ua:=(by rw [ea];exact (Below.refl _ _).alloc (Nat.le_refl _) _)
  have kua:=blk_below hB kuq
  have zua:=blk_below hB zuq
  have bua:=bt buq hB
  have Rua:=Ruq.below hB
  have yua : blk ua g = some #[.slice none 0 0,.int .i64 0,.slice none 0 0,.int .i64 0,.slice none 0 0,.slice none 0 0,.slice none 0 0,.slice none 0 0,.int .u64 0,.int .i64 0,.int .i64 0]:=(by rw [ea];exact blk_alloc_new _ _ _ eg)
  have zg : w.heap.size + 1 < g:=(by rw [eg];exact blk_lt zuq)
  have nR : neA g a1 ps:=Ruq.neNew (by rw [eg];exact Nat.le_refl _)
  have NQ : QAtS (or2 S g (w.heap.size + 1)) ua ob (queS l 0) (queS l 1) (queS l 2):=(HQ.newS (by have h1:=bd0.size;have h2:=blk_lt zd0;rintro b (rfl|rfl|h) <;> (try have h9:=NS.out.1 b h) <;> omega)).below hB
  rw [← ea,← eg]
  clear ea eg hB
  refine hK.out _ _ (fun o => blk_cell kua o) (fun _ => ?_)
  clear hK K
  (try simp only[Act.put,jA,jB,jC,jD,jE,jF])
  refine jR 9 (fun K hK => ?_)
  refine wp_store_midB 70 (.tmp 13) (.tmp 53) g 0 #[.slice none 0 0,.int .i64 0,.slice none 0 0,.int .i64 0,.slice none 0 0,.slice none 0 0,.slice none 0 0,.slice none 0 0,.int .u64 0,.int .i64 0,.int .i64 0] #[.slice aw 3 cw,.int .i64 q,.slice ad 3 cd,.int .i64 t,.slice a1 3 c1,.slice al l.length cl,.slice (some ⟨ob,0,none⟩) 3 3,.slice none 0 0,.int .u64 us,.int .i64 bu,.int .i64 by'] #[.slice aw 3 cw,.int .i64 q,.slice ad 3 cd,.int .i64 t,.slice a1 3 c1,.slice al l.length cl,.slice (some ⟨ob,0,none⟩) 3 3,.slice none 0 0,.int .u64 us,.int .i64 bu,.int .i64 by'] yua rfl rfl rfl (by simp) (by kernel_rfl) (by kernel_rfl) (by kernel_rfl) ?_
  intro U yU sU BU zU9
  have kU:=blk_same kua (show w.heap.size ≠ g by omega) sU
  have zU:=blk_same zua (show w.heap.size + 1 ≠ g by omega) sU
  have bU:=BU _ _ (show w.heap.size ≤ g by omega) bua
  have RU:=Rua.sameB sU nR
  have NU:=NQ.sameB sU or2_1
  clear sU BU zU9
  refine hK.out _ _ (fun o => blk_cell kU o) (fun _ => ?_)
  clear hK K
  (try simp only[Act.put,jA,jB,jC,jD,jE,jF])
  refine wpAnyH_done (by kernel_rfl) ?_ _
  have OU : U.ownsRow U.heap.size 3 1 (.slice none 0 0) 0 []:=World.ownsRow_nil _ _ _ _
  have gU:=blk_lt yU
  have sU9:=bU.size
  have nR2:=Lib.hid (A4.neA (show w.heap.size + 1 < u3.heap.size from z3') ps)
  have nS2:=Lib.hid (A4.neS (S:=S) (fun b h => by have:=NS.out.1 b h;have:=z3';omega) ps)
  have KU:=Lib.hid (And.intro (SameB.refl g U) (And.intro yU OU))
  have ZU:=Lib.hid (And.intro zU (And.intro RU NU))
  have nR9:=Lib.hid nR
  clear yU OU zU RU NU nR
  go_wp2
  go_loopw [56] (fun i wr => ∃ (j : Nat) (s : Value),i = .int .i64 j ∧ j ≤ l.length ∧ Below w.heap.size w wr ∧ Hid (SameB g U wr ∧ blk wr g = some #[.slice aw 3 cw,.int .i64 q,.slice ad 3 cd,.int .i64 t,.slice a1 3 c1,.slice al l.length cl,.slice (some ⟨ob,0,none⟩) 3 3,s,.int .u64 us,.int .i64 bu,.int .i64 by'] ∧ wr.ownsRow U.heap.size 3 1 s j (rowC ic ((sizesE l).take j)))) (fun i _ => l.length - (intOf i).toNat)
  case atStart => exact ⟨0,.slice none 0 0,rfl,Nat.zero_le _,bU,KU⟩
  case round =>
   clear KU bU
   obtain ⟨j,s,rfl,hj,hB,HK⟩:=hrel
   by_cases hlt : j < l.length
   ·have hltz : (j : Int) < (l.length : Int):=by omega
    obtain ⟨b,off,hab,hbl,hcs⟩:=HR.out.2.2.2 (by omega)
    subst hab
    obtain ⟨x,hx⟩ : ∃ x,x = l[j]:=⟨_,rfl⟩
    have hr:=hcs j hlt
    rw [← hx] at hr
    have hrw:=range_below hbl hr hB
    have bwr : b < wr.heap.size:=Nat.lt_of_lt_of_le hbl hB.size
    have hs : (sizesE l).take (j + 1) = (sizesE l).take j ++ [szB x]:=by
     rw [hx]
     unfold sizesE
     rw [List.take_add_one,List.getElem?_map,List.getElem?_eq_getElem hlt];rfl
    obtain ⟨z,hz⟩ : ∃ z,z = sizeC x.no x.sq x.of x.de x.pr x.bo x.li x.to x.da.size:=⟨_,rfl⟩
    have hI:=HSQ.out x (by rw [hx];exact List.getElem_mem _)
    have hda:=HDA.out x (by rw [hx];exact List.getElem_mem _)
    have gs : ∀ W,HTab W → Calls Tryd.prog 61 #[.agg #[.int .i64 x.no,.int .u64 x.sq,.int .i64 x.of,.int .i64 x.de,.int .i64 x.pr,.int .i64 x.bo,.int .i64 x.li,.int .i64 x.to,.string x.da]] W fun e w' => e = .returned (.tuple #[.int .i64 z.1,.int .i64 z.2]) ∧ Below W.heap.size W w':=fun W h => by
     rw [hz];exact sizeB_any x.no x.sq x.of x.de x.pr x.bo x.li x.to x.da hda hI W h
    have hz1 : szB x = z.1:=by rw [hz];rfl
    rw [hz1] at hs
    obtain ⟨n,hn⟩ : ∃ n,n = z.1:=⟨_,rfl⟩
    rw [← hn] at hs gs
    obtain ⟨z2,hz2⟩ : ∃ n,n = z.2:=⟨_,rfl⟩
    rw [← hz2] at gs
    have HS:=Lib.hid hs
    replace gs:=Lib.hid gs
    have lj : ((sizesE l).take j).length = j:=by rw [List.length_take];unfold sizesE;rw [List.length_map];omega
    have LJ:=Lib.hid lj
    clear hx hr hcs hs hz hz1 hI hda hn hz2 z lj
    go_upto_region 12 with fail
    refine wp_region_tail0 1 ?_
    intro W0 hE hN
    have hrW : W0.rangeAt b (off + j * 9) (bn x):=(by rw [hE.out];exact hrw)
    have hBW : Below w.heap.size w W0:=(by rw [hE.out];exact hB)
    have hKW:=HK
    rw [← hE.out] at hKW
    have bW : b < W0.heap.size:=(by rw [hE.out];exact bwr)
    clear hE hrw hB bwr HK
    simp only [List.take_succ_cons,List.take_zero,List.drop_succ_cons,List.drop_zero]
    repeat (go_big_quiet_step (fail))
    refine wpQuiet_nil ?_
    rintro _ ⟨x',rfl⟩
    have hr1:=range_below bW hrW x'.ok
    have hB1:=bt hBW x'.ok
    have hK1:=Lib.hid (And.intro (hKW.out.1.trans (SameB.of x'.ok)) (And.intro (blk_below x'.ok hKW.out.2.1) (owns_belowS hKW.out.2.2 x'.ok)))
    obtain ⟨u,hu⟩ : ∃ u,u = x'.wd:=⟨_,rfl⟩
    rw [← hu] at hr1 hB1 hK1 ⊢
    clear hu x' hN hrW hBW bW hKW
    refine wpList_load_mid rfl 38 (.tmp 58) rfl b (off + j * 9) rfl (bn x) _ hr1 Tryd.underlying38 rfl (by kernel_rfl) ?_
    conv => arg 5;simp [Act.put]
    refine Go.Great.wpList_allocTo rfl (some 15) rfl (.pointer (some ⟨u.heap.size,0,none⟩)) (.cells #[.int .i64 0,.int .u64 0,.int .i64 0,.int .i64 0,.int .i64 0,.int .i64 0,.int .i64 0,.int .i64 0,.string ⟨#[]⟩] 38) (by kernel_rfl) ?_
    conv => arg 5;simp [Act.put]
    refine wpList_store_midB 38 (.tmp 15) (.tmp 59) u.heap.size 0 #[.int .i64 0,.int .u64 0,.int .i64 0,.int .i64 0,.int .i64 0,.int .i64 0,.int .i64 0,.int .i64 0,.string ⟨#[]⟩] #[.int .i64 x.no,.int .u64 x.sq,.int .i64 x.of,.int .i64 x.de,.int .i64 x.pr,.int .i64 x.bo,.int .i64 x.li,.int .i64 x.to,.string x.da] #[.int .i64 x.no,.int .u64 x.sq,.int .i64 x.of,.int .i64 x.de,.int .i64 x.pr,.int .i64 x.bo,.int .i64 x.li,.int .i64 x.to,.string x.da] (blk_alloc_new _ _ _ rfl) rfl rfl rfl rfl (by simp) (by kernel_rfl) (by kernel_rfl) (by kernel_rfl) ?_
    intro w1 kb1 o1 B1 z1
    conv => arg 5;simp [Act.put]
    have hb1 : Below w.heap.size w w1:=B1 _ _ hB1.size (hB1.alloc hB1.size _)
    have hBu : Below u.heap.size u w1:=B1 _ _ (Nat.le_refl _) ((Below.refl _ _).alloc (Nat.le_refl _) _)
    have hK2:=Lib.hid (And.intro (hK1.out.1.trans (SameB.of hBu)) (And.intro (blk_below hBu hK1.out.2.1) (owns_belowS hK1.out.2.2 hBu)))
    obtain ⟨c0,hc0⟩ : ∃ c,c = u.heap.size:=⟨_,rfl⟩
    rw [← hc0] at kb1 ⊢
    have nb1:=kn kb1
    clear o1 B1 z1 hr1 hB1 hBu hK1 hc0 u
    have hmx : n = n:=rfl
    go_wp2_with (first|(go_at_call 61;(with_reducible refine (gs.out _ (HT.out.on hb1)).mono ?_);rintro e w3 ⟨rfl,h3⟩;(have b3:=bt hb1 h3);(have y3:=blk_below h3 hK2.out.2.1);(have n3:=kn y3);(have S3:=hK2.out.1.trans (SameB.of h3));(have O3:=Lib.hid (owns_belowS hK2.out.2.2 h3));clear hK2 h3)|(at_builtin;go_loud ((refine wpList_append_own _ rfl _ _ 22 rfl U.heap.size 3 i0 (.int .i64 0) 1 8 Tryd.underlying22 Hi.out Hz0.out Hz1.out Hz2.out rfl (by decide) s j (rowC ic ((sizesE l).take j)) rfl (O3.out.alloc _) ⟨w3.heap.size,0,none⟩ 1 1 [.int .i64 n] rfl rfl (fun jj u hj => (by rw [Addr.add_mid,Nat.zero_add,blk_cell (blk_alloc_new w3 #[.int .i64 n] 3 rfl)];simpa using hj)) (ic_one n) (by unfold maxLen;omega) (by omega) (by have:=S3.1;simp;omega) ?_);(intro v' w5 ho5 hg5 _);(have ho6 : w5.ownsRow U.heap.size 3 1 v' ((sizesE l).take (j + 1)).length (rowC ic ((sizesE l).take (j + 1))):=by rw [HS.out,List.length_append,LJ.out,rowC_append,rowC_one];exact ho5);obtain ⟨a5,c5,rfl,_,_⟩:=srow_of_owns ic_len ho6;(have l5 : ((sizesE l).take (j + 1)).length = j + 1:=by rw [HS.out,List.length_append,LJ.out];rfl);rw [l5] at ho6;(try rw [l5]);(have S5 : SameB g U w5:=((S3.trans (SameB.of ((Below.refl _ _).alloc (Nat.le_refl _) _))).grown hg5 (fun k e => (O3.out.lt k e).1)));(have b5 : Below w.heap.size w w5:=(b3.alloc b3.size _).grown hg5 (by simp;exact Nat.le_trans b3.size (Nat.le_succ _)) (fun k e => by have:=(O3.out.lt k e).1;omega));(have y5:=(blk_kept (hg5.block g (by have:=blk_lt y3;simp;omega) (fun e => by have:=(O3.out.lt g e.symm).1;omega))).trans (blk_alloc y3 (.cells #[.int .i64 n] 3)));(have n5:=kn y5);(have O6:=Lib.hid ho6);(have L5:=Lib.hid l5);clear ho5 ho6 hg5 n3 y3 l5)))
    obtain ⟨X,eX⟩ : ∃ v,v = w5.setCell ⟨g,7,none⟩ (.slice a5 (j + 1) c5):=⟨_,rfl⟩
    have KX : Hid (SameB g U X ∧ blk X g = some #[.slice aw 3 cw,.int .i64 q,.slice ad 3 cd,.int .i64 t,.slice a1 3 c1,.slice (some ⟨b,off,none⟩) l.length cl,.slice (some ⟨ob,0,none⟩) 3 3,.slice a5 (j + 1) c5,.int .u64 us,.int .i64 bu,.int .i64 by'] ∧ X.ownsRow U.heap.size 3 1 (.slice a5 (j + 1) c5) (j + 1) (rowC ic ((sizesE l).take (j + 1)))):=Lib.hid (by rw [eX];exact ⟨S5.set _ _,blk_set y5,owns_setO O6.out gU _ _⟩)
    have bX : Below w.heap.size w X:=by rw [eX];exact b5.setCell (show w.heap.size ≤ g by omega) _
    (try rw [L5.out])
    rw [← eX]
    clear eX n5 y5 S5 b5 O6
    go_roundw
    case rel => exact ⟨j + 1,.slice a5 (j + 1) c5,by go_num,by omega,bX,KX⟩
    case measure => simp [intOf];omega
   ·obtain rfl : j = l.length:=by omega
    obtain ⟨S9,y9,o9⟩:=HK.out
    have e9 : (sizesE l).take l.length = sizesE l:=List.take_of_length_le (by unfold sizesE;simp)
    have lz : l.length = (sizesE l).length:=by unfold sizesE;rw [List.length_map]
    rw [e9] at o9
    have o8 : wr.ownsRow U.heap.size 3 1 s (sizesE l).length (rowC ic (sizesE l)):=by rw [← lz];exact o9
    obtain ⟨az,cz,rfl,RZ,_⟩:=srow_of_owns ic_len o8
    have uz : upR U.heap.size az:=fun b off e => by subst e;exact (o8.lt b rfl).1
    have z9:=blk_same ZU.out.1 (show w.heap.size + 1 ≠ g by omega) S9
    have RP:=ZU.out.2.1.sameB S9 nR9.out
    have RQ:=ZU.out.2.2.sameB S9 or2_1
    have FIN:=Lib.hid (And.intro RP (And.intro RQ (And.intro RZ uz)))
    clear o9 o8 e9 lz HK S9 RP RQ RZ uz
    go_upto_region 16 with fail
    refine wp_region_tail0 0 ?_
    intro W0 hE hN
    have y0 : blk W0 g = some #[.slice aw 3 cw,.int .i64 q,.slice ad 3 cd,.int .i64 t,.slice a1 3 c1,.slice al l.length cl,.slice (some ⟨ob,0,none⟩) 3 3,.slice az (sizesE l).length cz,.int .u64 us,.int .i64 bu,.int .i64 by']:=(by rw [hE.out];exact y9)
    have z0 : blk W0 (w.heap.size + 1) = some #[.slice none 0 0,.int .i64 0,.slice none 0 0,.int .i64 0,.slice none 0 0,.slice none 0 0,.slice none 0 0,.slice none 0 0,.int .u64 0,.int .i64 0,.int .i64 0]:=(by rw [hE.out];exact z9)
    have b0 : Below w.heap.size w W0:=(by rw [hE.out];exact hB)
    have FN:=FIN
    rw [← hE.out] at FN
    clear hE y9 z9 hB FIN
    simp only [List.take_succ_cons,List.take_zero,List.drop_succ_cons,List.drop_zero]
    refine wpQuiet_nil ?_
    rintro _ ⟨x',rfl⟩
    have y1:=blk_below x'.ok y0
    have z1:=blk_below x'.ok z0
    have b1:=bt b0 x'.ok
    have F1:=Lib.hid (And.intro (FN.out.1.below x'.ok) (And.intro (FN.out.2.1.below x'.ok) (And.intro (FN.out.2.2.1.below x'.ok) FN.out.2.2.2)))
    obtain ⟨u,hu⟩ : ∃ u,u = x'.wd:=⟨_,rfl⟩
    rw [← hu] at y1 z1 b1 F1 ⊢
    clear hu x' hN y0 z0 b0 FN
    refine wpList_load_mid rfl 70 (.tmp 13) rfl g 0 rfl [.slice aw 3 cw,.int .i64 q,.slice ad 3 cd,.int .i64 t,.slice a1 3 c1,.slice al l.length cl,.slice (some ⟨ob,0,none⟩) 3 3,.slice az (sizesE l).length cz,.int .u64 us,.int .i64 bu,.int .i64 by'] _ (range_of_blk y1 0 _ rfl) Tryd.underlying70 rfl (by kernel_rfl) ?_
    conv => arg 5;simp [Act.put]
    refine wpList_store_midW 70 (.tmp 10) (.tmp 72) (w.heap.size + 1) 0 #[.slice none 0 0,.int .i64 0,.slice none 0 0,.int .i64 0,.slice none 0 0,.slice none 0 0,.slice none 0 0,.slice none 0 0,.int .u64 0,.int .i64 0,.int .i64 0] #[.slice aw 3 cw,.int .i64 q,.slice ad 3 cd,.int .i64 t,.slice a1 3 c1,.slice al l.length cl,.slice (some ⟨ob,0,none⟩) 3 3,.slice az (sizesE l).length cz,.int .u64 us,.int .i64 bu,.int .i64 by'] #[.slice aw 3 cw,.int .i64 q,.slice ad 3 cd,.int .i64 t,.slice a1 3 c1,.slice al l.length cl,.slice (some ⟨ob,0,none⟩) 3 3,.slice az (sizesE l).length cz,.int .u64 us,.int .i64 bu,.int .i64 by'] z1 rfl rfl rfl rfl (by simp) (by kernel_rfl) (by kernel_rfl) (by kernel_rfl) ?_
    intro X kX sX BX zX
    conv => arg 5;simp [Act.put]
    have bX:=BX _ _ (Nat.le_succ w.heap.size) b1
    go_wp2
    refine ret_blk (b:=w.heap.size + 1) (c:=#[.slice aw 3 cw,.int .i64 q,.slice ad 3 cd,.int .i64 t,.slice a1 3 c1,.slice al l.length cl,.slice (some ⟨ob,0,none⟩) 3 3,.slice az (sizesE l).length cz,.int .u64 us,.int .i64 bu,.int .i64 by']) (v:=.tuple #[.agg #[.slice aw 3 cw,.int .i64 q,.slice ad 3 cd,.int .i64 t,.slice a1 3 c1,.slice al l.length cl,.slice (some ⟨ob,0,none⟩) 3 3,.slice az (sizesE l).length cz,.int .u64 us,.int .i64 bu,.int .i64 by'],.int .i64 0]) kX (fun W' hc => by simp [results,Tryd.results38,go_sem,hc]) rfl ?_
    refine ⟨_,rfl,⟨aw,cw,ad,cd,a1,c1,al,cl,ob,3,az,cz,rfl,Nat.le_refl _,by unfold maxLen;omega,HW.out.below bX,HD.out.below bX,F1.out.1.sameB sX nR2.out,HR.out.below bX,(F1.out.2.1.sameB sX or2_2).mono or2_3,F1.out.2.2.1.sameB sX (F1.out.2.2.2.neA (by omega) _),NS.out.2.1,NS.out.2.2.1,nS2.out,NS.out.2.2.2,F1.out.2.2.2.neS (fun b h => by have:=NS.out.1 b h;omega) _⟩,bX⟩
 refine AllReadyH.cons rfl (fun K hK => ?_) AllReadyH.nil
 go_simp
 obtain ⟨ua,ea⟩ : ∃ v,v = d0.alloc (.cells #[.slice none 0 0,.int .i64 0,.slice none 0 0,.int .i64 0,.slice none 0 0,.slice none 0 0,.slice none 0 0,.slice none 0 0,.int .u64 0,.int .i64 0,.int .i64 0] 70):=⟨_,rfl⟩
 obtain ⟨g,eg⟩ : ∃ v,v = d0.heap.size:=⟨_,rfl⟩
 have hB : Below d0.heap.size d0 ua:=(by rw [ea];exact (Below.refl _ _).alloc (Nat.le_refl _) _)
 have kua:=blk_below hB kd0
 have zua:=blk_below hB zd0
 have bua:=bt bd0 hB
 have Rua:=Rd0.below hB
 have yua : blk ua g = some #[.slice none 0 0,.int .i64 0,.slice none 0 0,.int .i64 0,.slice none 0 0,.slice none 0 0,.slice none 0 0,.slice none 0 0,.int .u64 0,.int .i64 0,.int .i64 0]:=(by rw [ea];exact blk_alloc_new _ _ _ eg)
 have zg : w.heap.size + 1 < g:=(by rw [eg];exact blk_lt zd0)
 have nR : neA g a1 ps:=Rd0.neNew (by rw [eg];exact Nat.le_refl _)
 rw [← ea,← eg]
 clear ea eg hB
 refine hK.out _ _ (fun o => blk_cell kua o) (fun _ => ?_)
 clear hK K
 (try simp only[Act.put,jA,jB,jC,jD,jE,jF])
 refine jR 3 (fun K hK => ?_)
 go_simp
 go_at_call 46
 (with_reducible refine (GQ.out _ bua).mono ?_)
 rintro e uq ⟨ob,rfl,lob,HQ,hB⟩
 (try go_wp2_with fail)
 have kuq:=blk_below hB kua
 have zuq:=blk_below hB zua
 have buq:=bt bua hB
 have Ruq:=Rua.below hB
 have yuq:=blk_below hB yua
 have NQ : QAtS (or2 S g (w.heap.size + 1)) uq ob (queS l 0) (queS l 1) (queS l 2):=HQ.newS (by have h1:=blk_lt yua;have h2:=bd0.size;have h3:=blk_lt zd0;have h4:=bua.size;rintro b (rfl|rfl|h) <;> (try have h9:=NS.out.1 b h) <;> omega)
 clear hB
 refine hK.out _ _ (fun o => blk_cell kuq o) (fun _ => ?_)
 clear hK K
 (try simp only[Act.put,jA,jB,jC,jD,jE,jF])
 refine jK (v:=?_) 7 ?_ ?_
 rotate_left;focus(intro W h;(try dsimp only at h);go_simp;(try with_reducible rfl));(try simp only[Act.put,jA,jB,jC,jD,jE,jF])
 refine jR 9 (fun K hK => ?_)
 refine wp_store_midB 70 (.tmp 13) (.tmp 53) g 0 #[.slice none 0 0,.int .i64 0,.slice none 0 0,.int .i64 0,.slice none 0 0,.slice none 0 0,.slice none 0 0,.slice none 0 0,.int .u64 0,.int .i64 0,.int .i64 0] #[.slice aw 3 cw,.int .i64 q,.slice ad 3 cd,.int .i64 t,.slice a1 3 c1,.slice al l.length cl,.slice (some ⟨ob,0,none⟩) 3 3,.slice none 0 0,.int .u64 us,.int .i64 bu,.int .i64 by'] #[.slice aw 3 cw,.int .i64 q,.slice ad 3 cd,.int .i64 t,.slice a1 3 c1,.slice al l.length cl,.slice (some ⟨ob,0,none⟩) 3 3,.slice none 0 0,.int .u64 us,.int .i64 bu,.int .i64 by'] yuq rfl rfl rfl (by simp) (by kernel_rfl) (by kernel_rfl) (by kernel_rfl) ?_
 intro U yU sU BU zU9
 have kU:=blk_same kuq (show w.heap.size ≠ g by omega) sU
 have zU:=blk_same zuq (show w.heap.size + 1 ≠ g by omega) sU
 have bU:=BU _ _ (show w.heap.size ≤ g by omega) buq
 have RU:=Ruq.sameB sU nR
 have NU:=NQ.sameB sU or2_1
 clear sU BU zU9
 refine hK.out _ _ (fun o => blk_cell kU o) (fun _ => ?_)
 clear hK K
 (try simp only[Act.put,jA,jB,jC,jD,jE,jF])
 refine wpAnyH_done (by kernel_rfl) ?_ _
 have OU : U.ownsRow U.heap.size 3 1 (.slice none 0 0) 0 []:=World.ownsRow_nil _ _ _ _
 have gU:=blk_lt yU
 have sU9:=bU.size
 have nR2:=Lib.hid (A4.neA (show w.heap.size + 1 < u3.heap.size from z3') ps)
 have nS2:=Lib.hid (A4.neS (S:=S) (fun b h => by have:=NS.out.1 b h;have:=z3';omega) ps)
 have KU:=Lib.hid (And.intro (SameB.refl g U) (And.intro yU OU))
 have ZU:=Lib.hid (And.intro zU (And.intro RU NU))
 have nR9:=Lib.hid nR
 clear yU OU zU RU NU nR
 go_wp2
 go_loopw [56] (fun i wr => ∃ (j : Nat) (s : Value),i = .int .i64 j ∧ j ≤ l.length ∧ Below w.heap.size w wr ∧ Hid (SameB g U wr ∧ blk wr g = some #[.slice aw 3 cw,.int .i64 q,.slice ad 3 cd,.int .i64 t,.slice a1 3 c1,.slice al l.length cl,.slice (some ⟨ob,0,none⟩) 3 3,s,.int .u64 us,.int .i64 bu,.int .i64 by'] ∧ wr.ownsRow U.heap.size 3 1 s j (rowC ic ((sizesE l).take j)))) (fun i _ => l.length - (intOf i).toNat)
 case atStart => exact ⟨0,.slice none 0 0,rfl,Nat.zero_le _,bU,KU⟩
 case round =>
  clear KU bU
  obtain ⟨j,s,rfl,hj,hB,HK⟩:=hrel
  by_cases hlt : j < l.length
  ·have hltz : (j : Int) < (l.length : Int):=by omega
   obtain ⟨b,off,hab,hbl,hcs⟩:=HR.out.2.2.2 (by omega)
   subst hab
   obtain ⟨x,hx⟩ : ∃ x,x = l[j]:=⟨_,rfl⟩
   have hr:=hcs j hlt
   rw [← hx] at hr
   have hrw:=range_below hbl hr hB
   have bwr : b < wr.heap.size:=Nat.lt_of_lt_of_le hbl hB.size
   have hs : (sizesE l).take (j + 1) = (sizesE l).take j ++ [szB x]:=by
    rw [hx]
    unfold sizesE
    rw [List.take_add_one,List.getElem?_map,List.getElem?_eq_getElem hlt];rfl
   obtain ⟨z,hz⟩ : ∃ z,z = sizeC x.no x.sq x.of x.de x.pr x.bo x.li x.to x.da.size:=⟨_,rfl⟩
   have hI:=HSQ.out x (by rw [hx];exact List.getElem_mem _)
   have hda:=HDA.out x (by rw [hx];exact List.getElem_mem _)
   have gs : ∀ W,HTab W → Calls Tryd.prog 61 #[.agg #[.int .i64 x.no,.int .u64 x.sq,.int .i64 x.of,.int .i64 x.de,.int .i64 x.pr,.int .i64 x.bo,.int .i64 x.li,.int .i64 x.to,.string x.da]] W fun e w' => e = .returned (.tuple #[.int .i64 z.1,.int .i64 z.2]) ∧ Below W.heap.size W w':=fun W h => by
    rw [hz];exact sizeB_any x.no x.sq x.of x.de x.pr x.bo x.li x.to x.da hda hI W h
   have hz1 : szB x = z.1:=by rw [hz];rfl
   rw [hz1] at hs
   obtain ⟨n,hn⟩ : ∃ n,n = z.1:=⟨_,rfl⟩
   rw [← hn] at hs gs
   obtain ⟨z2,hz2⟩ : ∃ n,n = z.2:=⟨_,rfl⟩
   rw [← hz2] at gs
   have HS:=Lib.hid hs
   replace gs:=Lib.hid gs
   have lj : ((sizesE l).take j).length = j:=by rw [List.length_take];unfold sizesE;rw [List.length_map];omega
   have LJ:=Lib.hid lj
   clear hx hr hcs hs hz hz1 hI hda hn hz2 z lj
   go_upto_region 12 with fail
   refine wp_region_tail0 1 ?_
   intro W0 hE hN
   have hrW : W0.rangeAt b (off + j * 9) (bn x):=(by rw [hE.out];exact hrw)
   have hBW : Below w.heap.size w W0:=(by rw [hE.out];exact hB)
   have hKW:=HK
   rw [← hE.out] at hKW
   have bW : b < W0.heap.size:=(by rw [hE.out];exact bwr)
   clear hE hrw hB bwr HK
   simp only [List.take_succ_cons,List.take_zero,List.drop_succ_cons,List.drop_zero]
   repeat (go_big_quiet_step (fail))
   refine wpQuiet_nil ?_
   rintro _ ⟨x',rfl⟩
   have hr1:=range_below bW hrW x'.ok
   have hB1:=bt hBW x'.ok
   have hK1:=Lib.hid (And.intro (hKW.out.1.trans (SameB.of x'.ok)) (And.intro (blk_below x'.ok hKW.out.2.1) (owns_belowS hKW.out.2.2 x'.ok)))
   obtain ⟨u,hu⟩ : ∃ u,u = x'.wd:=⟨_,rfl⟩
   rw [← hu] at hr1 hB1 hK1 ⊢
   clear hu x' hN hrW hBW bW hKW
   refine wpList_load_mid rfl 38 (.tmp 58) rfl b (off + j * 9) rfl (bn x) _ hr1 Tryd.underlying38 rfl (by kernel_rfl) ?_
   conv => arg 5;simp [Act.put]
   refine Go.Great.wpList_allocTo rfl (some 15) rfl (.pointer (some ⟨u.heap.size,0,none⟩)) (.cells #[.int .i64 0,.int .u64 0,.int .i64 0,.int .i64 0,.int .i64 0,.int .i64 0,.int .i64 0,.int .i64 0,.string ⟨#[]⟩] 38) (by kernel_rfl) ?_
   conv => arg 5;simp [Act.put]
   refine wpList_store_midB 38 (.tmp 15) (.tmp 59) u.heap.size 0 #[.int .i64 0,.int .u64 0,.int .i64 0,.int .i64 0,.int .i64 0,.int .i64 0,.int .i64 0,.int .i64 0,.string ⟨#[]⟩] #[.int .i64 x.no,.int .u64 x.sq,.int .i64 x.of,.int .i64 x.de,.int .i64 x.pr,.int .i64 x.bo,.int .i64 x.li,.int .i64 x.to,.string x.da] #[.int .i64 x.no,.int .u64 x.sq,.int .i64 x.of,.int .i64 x.de,.int .i64 x.pr,.int .i64 x.bo,.int .i64 x.li,.int .i64 x.to,.string x.da] (blk_alloc_new _ _ _ rfl) rfl rfl rfl rfl (by simp) (by kernel_rfl) (by kernel_rfl) (by kernel_rfl) ?_
   intro w1 kb1 o1 B1 z1
   conv => arg 5;simp [Act.put]
   have hb1 : Below w.heap.size w w1:=B1 _ _ hB1.size (hB1.alloc hB1.size _)
   have hBu : Below u.heap.size u w1:=B1 _ _ (Nat.le_refl _) ((Below.refl _ _).alloc (Nat.le_refl _) _)
   have hK2:=Lib.hid (And.intro (hK1.out.1.trans (SameB.of hBu)) (And.intro (blk_below hBu hK1.out.2.1) (owns_belowS hK1.out.2.2 hBu)))
   obtain ⟨c0,hc0⟩ : ∃ c,c = u.heap.size:=⟨_,rfl⟩
   rw [← hc0] at kb1 ⊢
   have nb1:=kn kb1
   clear o1 B1 z1 hr1 hB1 hBu hK1 hc0 u
   have hmx : n = n:=rfl
   go_wp2_with (first|(go_at_call 61;(with_reducible refine (gs.out _ (HT.out.on hb1)).mono ?_);rintro e w3 ⟨rfl,h3⟩;(have b3:=bt hb1 h3);(have y3:=blk_below h3 hK2.out.2.1);(have n3:=kn y3);(have S3:=hK2.out.1.trans (SameB.of h3));(have O3:=Lib.hid (owns_belowS hK2.out.2.2 h3));clear hK2 h3)|(at_builtin;go_loud ((refine wpList_append_own _ rfl _ _ 22 rfl U.heap.size 3 i0 (.int .i64 0) 1 8 Tryd.underlying22 Hi.out Hz0.out Hz1.out Hz2.out rfl (by decide) s j (rowC ic ((sizesE l).take j)) rfl (O3.out.alloc _) ⟨w3.heap.size,0,none⟩ 1 1 [.int .i64 n] rfl rfl (fun jj u hj => (by rw [Addr.add_mid,Nat.zero_add,blk_cell (blk_alloc_new w3 #[.int .i64 n] 3 rfl)];simpa using hj)) (ic_one n) (by unfold maxLen;omega) (by omega) (by have:=S3.1;simp;omega) ?_);(intro v' w5 ho5 hg5 _);(have ho6 : w5.ownsRow U.heap.size 3 1 v' ((sizesE l).take (j + 1)).length (rowC ic ((sizesE l).take (j + 1))):=by rw [HS.out,List.length_append,LJ.out,rowC_append,rowC_one];exact ho5);obtain ⟨a5,c5,rfl,_,_⟩:=srow_of_owns ic_len ho6;(have l5 : ((sizesE l).take (j + 1)).length = j + 1:=by rw [HS.out,List.length_append,LJ.out];rfl);rw [l5] at ho6;(try rw [l5]);(have S5 : SameB g U w5:=((S3.trans (SameB.of ((Below.refl _ _).alloc (Nat.le_refl _) _))).grown hg5 (fun k e => (O3.out.lt k e).1)));(have b5 : Below w.heap.size w w5:=(b3.alloc b3.size _).grown hg5 (by simp;exact Nat.le_trans b3.size (Nat.le_succ _)) (fun k e => by have:=(O3.out.lt k e).1;omega));(have y5:=(blk_kept (hg5.block g (by have:=blk_lt y3;simp;omega) (fun e => by have:=(O3.out.lt g e.symm).1;omega))).trans (blk_alloc y3 (.cells #[.int .i64 n] 3)));(have n5:=kn y5);(have O6:=Lib.hid ho6);(have L5:=Lib.hid l5);clear ho5 ho6 hg5 n3 y3 l5)))
   obtain ⟨X,eX⟩ : ∃ v,v = w5.setCell ⟨g,7,none⟩ (.slice a5 (j + 1) c5):=⟨_,rfl⟩
   have KX : Hid (SameB g U X ∧ blk X g = some #[.slice aw 3 cw,.int .i64 q,.slice ad 3 cd,.int .i64 t,.slice a1 3 c1,.slice (some ⟨b,off,none⟩) l.length cl,.slice (some ⟨ob,0,none⟩) 3 3,.slice a5 (j + 1) c5,.int .u64 us,.int .i64 bu,.int .i64 by'] ∧ X.ownsRow U.heap.size 3 1 (.slice a5 (j + 1) c5) (j + 1) (rowC ic ((sizesE l).take (j + 1)))):=Lib.hid (by rw [eX];exact ⟨S5.set _ _,blk_set y5,owns_setO O6.out gU _ _⟩)
   have bX : Below w.heap.size w X:=by rw [eX];exact b5.setCell (show w.heap.size ≤ g by omega) _
   (try rw [L5.out])
   rw [← eX]
   clear eX n5 y5 S5 b5 O6
   go_roundw
   case rel => exact ⟨j + 1,.slice a5 (j + 1) c5,by go_num,by omega,bX,KX⟩
   case measure => simp [intOf];omega
  ·obtain rfl : j = l.length:=by omega
   obtain ⟨S9,y9,o9⟩:=HK.out
   have e9 : (sizesE l).take l.length = sizesE l:=List.take_of_length_le (by unfold sizesE;simp)
   have lz : l.length = (sizesE l).length:=by unfold sizesE;rw [List.length_map]
   rw [e9] at o9
   have o8 : wr.ownsRow U.heap.size 3 1 s (sizesE l).length (rowC ic (sizesE l)):=by rw [← lz];exact o9
   obtain ⟨az,cz,rfl,RZ,_⟩:=srow_of_owns ic_len o8
   have uz : upR U.heap.size az:=fun b off e => by subst e;exact (o8.lt b rfl).1
   have z9:=blk_same ZU.out.1 (show w.heap.size + 1 ≠ g by omega) S9
   have RP:=ZU.out.2.1.sameB S9 nR9.out
   have RQ:=ZU.out.2.2.sameB S9 or2_1
   have FIN:=Lib.hid (And.intro RP (And.intro RQ (And.intro RZ uz)))
   clear o9 o8 e9 lz HK S9 RP RQ RZ uz
   go_upto_region 16 with fail
   refine wp_region_tail0 0 ?_
   intro W0 hE hN
   have y0 : blk W0 g = some #[.slice aw 3 cw,.int .i64 q,.slice ad 3 cd,.int .i64 t,.slice a1 3 c1,.slice al l.length cl,.slice (some ⟨ob,0,none⟩) 3 3,.slice az (sizesE l).length cz,.int .u64 us,.int .i64 bu,.int .i64 by']:=(by rw [hE.out];exact y9)
   have z0 : blk W0 (w.heap.size + 1) = some #[.slice none 0 0,.int .i64 0,.slice none 0 0,.int .i64 0,.slice none 0 0,.slice none 0 0,.slice none 0 0,.slice none 0 0,.int .u64 0,.int .i64 0,.int .i64 0]:=(by rw [hE.out];exact z9)
   have b0 : Below w.heap.size w W0:=(by rw [hE.out];exact hB)
   have FN:=FIN
   rw [← hE.out] at FN
   clear hE y9 z9 hB FIN
   simp only [List.take_succ_cons,List.take_zero,List.drop_succ_cons,List.drop_zero]
   refine wpQuiet_nil ?_
   rintro _ ⟨x',rfl⟩
   have y1:=blk_below x'.ok y0
   have z1:=blk_below x'.ok z0
   have b1:=bt b0 x'.ok
   have F1:=Lib.hid (And.intro (FN.out.1.below x'.ok) (And.intro (FN.out.2.1.below x'.ok) (And.intro (FN.out.2.2.1.below x'.ok) FN.out.2.2.2)))
   obtain ⟨u,hu⟩ : ∃ u,u = x'.wd:=⟨_,rfl⟩
   rw [← hu] at y1 z1 b1 F1 ⊢
   clear hu x' hN y0 z0 b0 FN
   refine wpList_load_mid rfl 70 (.tmp 13) rfl g 0 rfl [.slice aw 3 cw,.int .i64 q,.slice ad 3 cd,.int .i64 t,.slice a1 3 c1,.slice al l.length cl,.slice (some ⟨ob,0,none⟩) 3 3,.slice az (sizesE l).length cz,.int .u64 us,.int .i64 bu,.int .i64 by'] _ (range_of_blk y1 0 _ rfl) Tryd.underlying70 rfl (by kernel_rfl) ?_
   conv => arg 5;simp [Act.put]
   refine wpList_store_midW 70 (.tmp 10) (.tmp 72) (w.heap.size + 1) 0 #[.slice none 0 0,.int .i64 0,.slice none 0 0,.int .i64 0,.slice none 0 0,.slice none 0 0,.slice none 0 0,.slice none 0 0,.int .u64 0,.int .i64 0,.int .i64 0] #[.slice aw 3 cw,.int .i64 q,.slice ad 3 cd,.int .i64 t,.slice a1 3 c1,.slice al l.length cl,.slice (some ⟨ob,0,none⟩) 3 3,.slice az (sizesE l).length cz,.int .u64 us,.int .i64 bu,.int .i64 by'] #[.slice aw 3 cw,.int .i64 q,.slice ad 3 cd,.int .i64 t,.slice a1 3 c1,.slice al l.length cl,.slice (some ⟨ob,0,none⟩) 3 3,.slice az (sizesE l).length cz,.int .u64 us,.int .i64 bu,.int .i64 by'] z1 rfl rfl rfl rfl (by simp) (by kernel_rfl) (by kernel_rfl) (by kernel_rfl) ?_
   intro X kX sX BX zX
   conv => arg 5;simp [Act.put]
   have bX:=BX _ _ (Nat.le_succ w.heap.size) b1
   go_wp2
   refine ret_blk (b:=w.heap.size + 1) (c:=#[.slice aw 3 cw,.int .i64 q,.slice ad 3 cd,.int .i64 t,.slice a1 3 c1,.slice al l.length cl,.slice (some ⟨ob,0,none⟩) 3 3,.slice az (sizesE l).length cz,.int .u64 us,.int .i64 bu,.int .i64 by']) (v:=.tuple #[.agg #[.slice aw 3 cw,.int .i64 q,.slice ad 3 cd,.int .i64 t,.slice a1 3 c1,.slice al l.length cl,.slice (some ⟨ob,0,none⟩) 3 3,.slice az (sizesE l).length cz,.int .u64 us,.int .i64 bu,.int .i64 by'],.int .i64 0]) kX (fun W' hc => by simp [results,Tryd.results38,go_sem,hc]) rfl ?_
   refine ⟨_,rfl,⟨aw,cw,ad,cd,a1,c1,al,cl,ob,3,az,cz,rfl,Nat.le_refl _,by unfold maxLen;omega,HW.out.below bX,HD.out.below bX,F1.out.1.sameB sX nR2.out,HR.out.below bX,(F1.out.2.1.sameB sX or2_2).mono or2_3,F1.out.2.2.1.sameB sX (F1.out.2.2.2.neA (by omega) _),NS.out.2.1,NS.out.2.2.1,nS2.out,NS.out.2.2.2,F1.out.2.2.2.neS (fun b h => by have:=NS.out.1 b h;omega) _⟩,bX⟩
end Go.Proofs.YtkaehoihpgelnaaDoor
