/- Parts of a proof, printed by a program of mine out of my texts: EgOwn. -/
import Derived.Test.YtkaehoihpgelnaaDoorCM
import Derived.Test.YtkaehoihpgelnaaDoorCR
import Derived.Test.YtkaehoihpgelnaaDoorCW
set_option linter.unusedSimpArgs false
set_option linter.unusedVariables false
set_option maxRecDepth 100000
namespace Go.Proofs.YtkaehoihpgelnaaDoor
open Go.RowKit
set_option maxHeartbeats 1600000 in
theorem ownI_pos (a : Option Addr) (cap : Nat) (l : List Int) (hl : l.length ≤ 100000) (h0 : 0 < l.length) (w : World) (hrow : SRow ic 1 w a cap l) :
    Calls Tryd.prog 52 #[.slice a l.length cap] w fun e w' => OwnI l w e w':=by
  obtain ⟨b,off,rfl,hlt,hc⟩:=hrow.2.2.2 h0
  have CC:=Lib.hid (fun (j : Nat) (u : Value) (hj : (rowC ic l)[j]? = some u) => row_cellsE hrow hj)
  obtain ⟨i0,hi,hz0,hz1,hz2⟩:=info_parts infoI64
  have Hi:=Lib.hid hi;have Hz0:=Lib.hid hz0;have Hz1:=Lib.hid hz1;have Hz2:=Lib.hid hz2
  clear hi hz0 hz1 hz2 hc hrow
  go_enter Tryd.func52,Tryd.ntmps52
  go_wp2_with (at_builtin;refine wpList_append_own _ rfl _ _ 22 rfl w.heap.size 3 i0 (.int .i64 0) 1 8 Tryd.underlying22 Hi.out Hz0.out Hz1.out Hz2.out rfl (by decide) _ 0 [] rfl (own_emptyE w _) ⟨b,off,none⟩ l.length cap (rowC ic l) rfl (ic_lensE l) (fun j u hj => (by rw [Addr.add_mid,((Below.refl w.heap.size w).alloc (Nat.le_refl _) _).cell (p:=⟨b,off + j,none⟩) hlt];exact CC.out j u hj)) (ic_onesE l) (by unfold maxLen;omega) (by omega) (by simp) ?_;intro v' wb hown2 hgrow2 _)
  go_ret
  refine ⟨_,rfl,?_,?_⟩
  · simpa using hown2
  · exact ((Below.refl _ _).alloc (Nat.le_refl _) _).grown hgrow2 (by simp) (fun k e => (own_emptyE w 3).lt k e |>.1)
set_option maxHeartbeats 1600000 in
theorem ownI_nil (a : Option Addr) (cap : Nat) (hn : a = none → cap = 0) (w : World) :
    Calls Tryd.prog 52 #[.slice a 0 cap] w fun e w' => OwnI [] w e w':=by
  obtain ⟨i0,hi,hz0,hz1,hz2⟩:=info_parts infoI64
  have Hi:=Lib.hid hi;have Hz0:=Lib.hid hz0;have Hz1:=Lib.hid hz1;have Hz2:=Lib.hid hz2
  clear hi hz0 hz1 hz2
  cases a with
  | none =>
    obtain rfl:=hn rfl
    clear hn
    go_enter Tryd.func52,Tryd.ntmps52
    go_wp2_with (at_builtin;refine wpList_append_own_none rfl _ _ 22 rfl w.heap.size 3 i0 1 Tryd.underlying22 Hi.out _ 0 [] rfl (own_emptyE w _) rfl ?_)
    go_ret
    exact ⟨_,rfl,own_emptyE w _,by (repeat(first|(with_reducible first|assumption|exact Below.refl _ _|refine je ?_|refine jl ?_)|((with_reducible refine jp ?_ ?_);first|focus(dsimp only;assumption)|focus(simp;done)|focus(dsimp only;omega))|(with_reducible refine bt ?_ (by assumption))))⟩
  | some ad =>
    clear hn
    go_enter Tryd.func52,Tryd.ntmps52
    go_wp2_with (at_builtin;refine wpList_append_own _ rfl _ _ 22 rfl w.heap.size 3 i0 (.int .i64 0) 1 8 Tryd.underlying22 Hi.out Hz0.out Hz1.out Hz2.out rfl (by decide) _ 0 [] rfl (own_emptyE w _) ad 0 cap [] rfl rfl (fun j u hj => by simp at hj) (by simp) (by unfold maxLen;omega) (by omega) (by simp) ?_;intro v' wb hown2 hgrow2 _)
    go_ret
    refine ⟨_,rfl,?_,?_⟩
    · exact (by simpa using hown2 : wb.ownsRow w.heap.size 3 1 v' 0 [])
    · exact ((Below.refl _ _).alloc (Nat.le_refl _) _).grown hgrow2 (by simp) (fun k e => (own_emptyE w 3).lt k e |>.1)
theorem ownI_any (a : Option Addr) (cap : Nat) (l : List Int) (hl : l.length ≤ 100000) (w : World) (hrow : SRow ic 1 w a cap l) :
    Calls Tryd.prog 52 #[.slice a l.length cap] w fun e w' => OwnI l w e w':=by
  rcases Nat.eq_zero_or_pos l.length with h|h
  · obtain rfl:=List.length_eq_zero_iff.1 h
    exact ownI_nil a cap hrow.2.2.1 w
  · exact ownI_pos a cap l hl h w hrow
theorem own_set {w W : World} (o : Nat) (v : Value) {K Z : Array Value} {ws ds ps : List Int} {a1 a2 a3 : Option Addr} {c1 c2 c3 : Nat} (k : blk W w.heap.size = some K) (z : blk W (w.heap.size + 1) = some Z) (b : Below w.heap.size w W)
    (A1 : upR (w.heap.size + 2) a1) (A2 : upR (w.heap.size + 2) a2) (A3 : upR (w.heap.size + 2) a3) (R1 : Hid (SRow ic 1 W a1 c1 ws)) (R2 : Hid (SRow ic 1 W a2 c2 ds)) (R3 : Hid (SRow ic 1 W a3 c3 ps)) :
    blk (W.setCell ⟨w.heap.size,o,none⟩ v) w.heap.size = some (K.setIfInBounds o v) ∧ blk (W.setCell ⟨w.heap.size,o,none⟩ v) (w.heap.size + 1) = some Z ∧ Below w.heap.size w (W.setCell ⟨w.heap.size,o,none⟩ v) ∧
    Hid (SRow ic 1 (W.setCell ⟨w.heap.size,o,none⟩ v) a1 c1 ws) ∧ Hid (SRow ic 1 (W.setCell ⟨w.heap.size,o,none⟩ v) a2 c2 ds) ∧ Hid (SRow ic 1 (W.setCell ⟨w.heap.size,o,none⟩ v) a3 c3 ps):=by
  have h : w.heap.size < w.heap.size + 2:=by omega
  exact ⟨blk_set k,blk_other z (show w.heap.size + 1 ≠ w.heap.size by omega),b.setCell (Nat.le_refl _) _,Lib.hid (R1.out.setOtherE (A1.ne h) _ _),Lib.hid (R2.out.setOtherE (A2.ne h) _ _),Lib.hid (R3.out.setOtherE (A3.ne h) _ _)⟩
theorem own_sets {w W : World} (q t : Int) {z0 z1 z2 z3 z4 : Value} {ws ds ps : List Int} {a1 a2 a3 : Option Addr} {c1 c2 c3 : Nat} (z : blk W (w.heap.size + 1) = some #[z0,z1,z2,z3,z4]) (R1 : Hid (SRow ic 1 W a1 c1 ws)) (R2 : Hid (SRow ic 1 W a2 c2 ds)) (R3 : Hid (SRow ic 1 W a3 c3 ps))
    (A1 : upR (w.heap.size + 2) a1) (A2 : upR (w.heap.size + 2) a2) (A3 : upR (w.heap.size + 2) a3) (b : Below w.heap.size w W) :
    blk (((((W.setCell ⟨w.heap.size + 1,0,none⟩ (.slice a1 ws.length c1)).setCell ⟨w.heap.size + 1,1,none⟩ (.int .i64 q)).setCell ⟨w.heap.size + 1,2,none⟩ (.slice a2 ds.length c2)).setCell ⟨w.heap.size + 1,3,none⟩ (.int .i64 t)).setCell ⟨w.heap.size + 1,4,none⟩ (.slice a3 ps.length c3)) (w.heap.size + 1) = some #[.slice a1 ws.length c1,.int .i64 q,.slice a2 ds.length c2,.int .i64 t,.slice a3 ps.length c3] ∧
    SRow ic 1 (((((W.setCell ⟨w.heap.size + 1,0,none⟩ (.slice a1 ws.length c1)).setCell ⟨w.heap.size + 1,1,none⟩ (.int .i64 q)).setCell ⟨w.heap.size + 1,2,none⟩ (.slice a2 ds.length c2)).setCell ⟨w.heap.size + 1,3,none⟩ (.int .i64 t)).setCell ⟨w.heap.size + 1,4,none⟩ (.slice a3 ps.length c3)) a1 c1 ws ∧
    SRow ic 1 (((((W.setCell ⟨w.heap.size + 1,0,none⟩ (.slice a1 ws.length c1)).setCell ⟨w.heap.size + 1,1,none⟩ (.int .i64 q)).setCell ⟨w.heap.size + 1,2,none⟩ (.slice a2 ds.length c2)).setCell ⟨w.heap.size + 1,3,none⟩ (.int .i64 t)).setCell ⟨w.heap.size + 1,4,none⟩ (.slice a3 ps.length c3)) a2 c2 ds ∧
    SRow ic 1 (((((W.setCell ⟨w.heap.size + 1,0,none⟩ (.slice a1 ws.length c1)).setCell ⟨w.heap.size + 1,1,none⟩ (.int .i64 q)).setCell ⟨w.heap.size + 1,2,none⟩ (.slice a2 ds.length c2)).setCell ⟨w.heap.size + 1,3,none⟩ (.int .i64 t)).setCell ⟨w.heap.size + 1,4,none⟩ (.slice a3 ps.length c3)) a3 c3 ps ∧ upR w.heap.size a1 ∧ upR w.heap.size a2 ∧ upR w.heap.size a3 ∧
    Below w.heap.size w (((((W.setCell ⟨w.heap.size + 1,0,none⟩ (.slice a1 ws.length c1)).setCell ⟨w.heap.size + 1,1,none⟩ (.int .i64 q)).setCell ⟨w.heap.size + 1,2,none⟩ (.slice a2 ds.length c2)).setCell ⟨w.heap.size + 1,3,none⟩ (.int .i64 t)).setCell ⟨w.heap.size + 1,4,none⟩ (.slice a3 ps.length c3)):=by
  have h : w.heap.size + 1 < w.heap.size + 2:=by omega
  have n1:=A1.ne h
  have n2:=A2.ne h
  have n3:=A3.ne h
  refine ⟨?_,?_,?_,?_,A1.mono (Nat.le_add_right _ _),A2.mono (Nat.le_add_right _ _),A3.mono (Nat.le_add_right _ _),?_⟩
  · have h9:=blk_set (i:=4) (v:=.slice a3 ps.length c3) (blk_set (i:=3) (v:=.int .i64 t) (blk_set (i:=2) (v:=.slice a2 ds.length c2) (blk_set (i:=1) (v:=.int .i64 q) (blk_set (i:=0) (v:=.slice a1 ws.length c1) z))))
    exact h9
  · exact ((((R1.out.setOtherE n1 _ _).setOtherE n1 _ _).setOtherE n1 _ _).setOtherE n1 _ _).setOtherE n1 _ _
  · exact ((((R2.out.setOtherE n2 _ _).setOtherE n2 _ _).setOtherE n2 _ _).setOtherE n2 _ _).setOtherE n2 _ _
  · exact ((((R3.out.setOtherE n3 _ _).setOtherE n3 _ _).setOtherE n3 _ _).setOtherE n3 _ _).setOtherE n3 _ _
  · exact ((((b.setCell (Nat.le_succ _) _).setCell (Nat.le_succ _) _).setCell (Nat.le_succ _) _).setCell (Nat.le_succ _) _).setCell (Nat.le_succ _) _
set_option maxHeartbeats 6400000 in
theorem xown_any (aw : Option Addr) (cw : Nat) (ad : Option Addr) (cd : Nat) (ap : Option Addr) (cp : Nat) (ws ds ps : List Int) (q t : Int) (l1 : ws.length ≤ 100000) (l2 : ds.length ≤ 100000) (l3 : ps.length ≤ 100000) (w : World) (hw : SRow ic 1 w aw cw ws) (hd : SRow ic 1 w ad cd ds) (hp : SRow ic 1 w ap cp ps) :
  Calls Tryd.prog 24 #[.agg #[.slice aw ws.length cw,.int .i64 q,.slice ad ds.length cd,.int .i64 t,.slice ap ps.length cp]] w fun e w' => ∃ a1 c1 a2 c2 a3 c3,e = .returned (.agg #[.slice a1 ws.length c1,.int .i64 q,.slice a2 ds.length c2,.int .i64 t,.slice a3 ps.length c3]) ∧ SRow ic 1 w' a1 c1 ws ∧ SRow ic 1 w' a2 c2 ds ∧ SRow ic 1 w' a3 c3 ps ∧ upR w.heap.size a1 ∧ upR w.heap.size a2 ∧ upR w.heap.size a3 ∧ Below w.heap.size w w':=by
 have G1:=Lib.hid (fun W (hB : Below w.heap.size w W) => ownI_any aw cw ws l1 W (hw.below hB))
 have G2:=Lib.hid (fun W (hB : Below w.heap.size w W) => ownI_any ad cd ds l2 W (hd.below hB))
 have G3:=Lib.hid (fun W (hB : Below w.heap.size w W) => ownI_any ap cp ps l3 W (hp.below hB))
 clear hw hd hp l1 l2 l3
 go_enter Tryd.func24,Tryd.ntmps24
 go_wp2_with fail
 refine wp_region_held_drew (S:=fun _ => True) (by kernel_rfl) trivial (fun _ => ?_)
 obtain ⟨d0,ed⟩ : ∃ v,v = ((w.alloc (.cells #[.slice aw ws.length cw,.int .i64 q,.slice ad ds.length cd,.int .i64 t,.slice ap ps.length cp] 28)).alloc (.cells #[.slice none 0 0,.int .i64 0,.slice none 0 0,.int .i64 0,.slice none 0 0] 28)).drew:=⟨_,rfl⟩
 have bd0 : Below w.heap.size w d0:=(by rw [ed];exact (((Below.refl _ _).alloc (Nat.le_refl _) _).alloc (by simp) _).drew)
 have kd0 : blk d0 w.heap.size = some #[.slice aw ws.length cw,.int .i64 q,.slice ad ds.length cd,.int .i64 t,.slice ap ps.length cp]:=(by rw [ed];exact blk_drew (blk_alloc (blk_alloc_new _ _ _ rfl) _))
 have zd0 : blk d0 (w.heap.size + 1) = some #[.slice none 0 0,.int .i64 0,.slice none 0 0,.int .i64 0,.slice none 0 0]:=(by rw [ed];exact blk_drew (blk_alloc_new _ _ _ (by simp)))
 rw [← ed]
 clear ed
 have nd0:=kn kd0
 have hTr : True:=trivial
 refine jK (v:=?_) 0 ?_ ?_
 rotate_left;focus(intro W h;(try dsimp only at h);go_simp;(try with_reducible rfl));(try simp only[Act.put,jA,jB,jC,jD,jE,jF])
 refine jK (v:=?_) 1 ?_ ?_
 rotate_left;focus(intro W h;(try dsimp only at h);go_simp;(try with_reducible rfl));(try simp only[Act.put,jA,jB,jC,jD,jE,jF])
 refine jK (v:=?_) 4 ?_ ?_
 rotate_left;focus(intro W h;(try dsimp only at h);go_simp;(try with_reducible rfl));(try simp only[Act.put,jA,jB,jC,jD,jE,jF])
 refine jK (v:=?_) 5 ?_ ?_
 rotate_left;focus(intro W h;(try dsimp only at h);go_simp;(try with_reducible rfl));(try simp only[Act.put,jA,jB,jC,jD,jE,jF])
 refine jK (v:=?_) 8 ?_ ?_
 rotate_left;focus(intro W h;(try dsimp only at h);go_simp;(try with_reducible rfl));(try simp only[Act.put,jA,jB,jC,jD,jE,jF])
 refine wpAnyH_ready (rs:=[2,6,9]) (by kernel_rfl) (by simp) ?_
 refine AllReadyH.cons rfl (fun K hK => ?_) ?_
 ·skip
  go_simp
  refine hK.out _ _ trivial (fun _ => ?_)
  clear hK K
  (try simp only[Act.put,jA,jB,jC,jD,jE,jF])
  refine wpAnyH_ready (rs:=[3,6,9]) (by kernel_rfl) (by simp) ?_
  refine AllReadyH.cons rfl (fun K hK => ?_) ?_
  ·skip
   go_simp
   go_at_call 52
   (with_reducible refine (G1.out _ bd0).mono ?_)
   rintro e U1 ⟨vv,rfl,ho,hB⟩
   obtain ⟨a1,c1,rfl,R1,_⟩:=srow_of_owns ic_len ho
   (try go_wp2_with fail)
   have A1 : upR (w.heap.size + 2) a1:=fun b off e => by subst e;have:=(ho.lt b rfl).1;have:=blk_lt zd0;omega
   have kU1:=blk_below hB kd0
   have zU1:=blk_below hB zd0
   have bU1:=bt bd0 hB
   have nU1:=kn kU1
   have R1U1:=Lib.hid R1
   clear R1 ho
   clear hB
   refine hK.out _ _ trivial (fun _ => ?_)
   clear hK K
   (try simp only[Act.put,jA,jB,jC,jD,jE,jF])
   refine wpAnyH_ready (rs:=[6,9]) (by kernel_rfl) (by simp) ?_
   refine AllReadyH.cons rfl (fun K hK => ?_) ?_
   ·skip
    go_simp
    refine hK.out _ _ trivial (fun _ => ?_)
    clear hK K
    (try simp only[Act.put,jA,jB,jC,jD,jE,jF])
    refine wpAnyH_ready (rs:=[7,9]) (by kernel_rfl) (by simp) ?_
    refine AllReadyH.cons rfl (fun K hK => ?_) ?_
    ·skip
     go_simp
     go_at_call 52
     (with_reducible refine (G2.out _ bU1).mono ?_)
     rintro e U2 ⟨vv,rfl,ho,hB⟩
     obtain ⟨a2,c2,rfl,R2,_⟩:=srow_of_owns ic_len ho
     (try go_wp2_with fail)
     have A2 : upR (w.heap.size + 2) a2:=fun b off e => by subst e;have:=(ho.lt b rfl).1;have:=blk_lt zU1;omega
     have kU2:=blk_below hB kU1
     have zU2:=blk_below hB zU1
     have bU2:=bt bU1 hB
     have nU2:=kn kU2
     have R2U2:=Lib.hid R2
     clear R2 ho
     have R1U2:=Lib.hid (R1U1.out.below hB)
     clear hB
     refine hK.out _ _ trivial (fun _ => ?_)
     clear hK K
     (try simp only[Act.put,jA,jB,jC,jD,jE,jF])
     refine jR 9 (fun K hK => ?_)
     go_simp
     refine hK.out _ _ trivial (fun _ => ?_)
     clear hK K
     (try simp only[Act.put,jA,jB,jC,jD,jE,jF])
     refine jK (v:=?_) 11 ?_ ?_
     rotate_left;focus(intro W h;(try dsimp only at h);go_simp;(try with_reducible rfl));(try simp only[Act.put,jA,jB,jC,jD,jE,jF])
     refine jK (v:=?_) 12 ?_ ?_
     rotate_left;focus(intro W h;(try dsimp only at h);go_simp;(try with_reducible rfl));(try simp only[Act.put,jA,jB,jC,jD,jE,jF])
     refine jR 10 (fun K hK => ?_)
     go_simp
     go_at_call 52
     (with_reducible refine (G3.out _ bU2).mono ?_)
     rintro e U3 ⟨vv,rfl,ho,hB⟩
     obtain ⟨a3,c3,rfl,R3,_⟩:=srow_of_owns ic_len ho
     (try go_wp2_with fail)
     have A3 : upR (w.heap.size + 2) a3:=fun b off e => by subst e;have:=(ho.lt b rfl).1;have:=blk_lt zU2;omega
     have kU3:=blk_below hB kU2
     have zU3:=blk_below hB zU2
     have bU3:=bt bU2 hB
     have nU3:=kn kU3
     have R3U3:=Lib.hid R3
     clear R3 ho
     have R1U3:=Lib.hid (R1U2.out.below hB)
     have R2U3:=Lib.hid (R2U2.out.below hB)
     clear hB
     refine hK.out _ _ trivial (fun _ => ?_)
     clear hK K
     (try simp only[Act.put,jA,jB,jC,jD,jE,jF])
     refine jR 13 (fun K hK => ?_)
     go_simp
     obtain ⟨x1,ex1⟩ : ∃ v,v = U3.setCell ⟨w.heap.size,0,none⟩ (.slice a1 ws.length c1):=⟨_,rfl⟩
     have q9:=own_set 0 (.slice a1 ws.length c1) kU3 zU3 bU3 A1 A2 A3 R1U3 R2U3 R3U3
     rw [← ex1] at q9
     obtain ⟨q8,zx1,bx1,R1x1,R2x1,R3x1⟩:=q9
     have kx1 : blk x1 w.heap.size = some #[.slice a1 ws.length c1,.int .i64 q,.slice ad ds.length cd,.int .i64 t,.slice ap ps.length cp]:=q8
     clear q8
     rw [← ex1]
     clear ex1
     have nx1:=kn kx1
     refine hK.out _ _ trivial (fun _ => ?_)
     clear hK K
     (try simp only[Act.put,jA,jB,jC,jD,jE,jF])
     refine jK (v:=?_) 14 ?_ ?_
     rotate_left;focus(intro W h;(try dsimp only at h);go_simp;(try with_reducible rfl));(try simp only[Act.put,jA,jB,jC,jD,jE,jF])
     refine jK (v:=?_) 15 ?_ ?_
     rotate_left;focus(intro W h;(try dsimp only at h);go_simp;(try with_reducible rfl));(try simp only[Act.put,jA,jB,jC,jD,jE,jF])
     refine jR 16 (fun K hK => ?_)
     go_simp
     obtain ⟨x2,ex2⟩ : ∃ v,v = x1.setCell ⟨w.heap.size,2,none⟩ (.slice a2 ds.length c2):=⟨_,rfl⟩
     have q9:=own_set 2 (.slice a2 ds.length c2) kx1 zx1 bx1 A1 A2 A3 R1x1 R2x1 R3x1
     rw [← ex2] at q9
     obtain ⟨q8,zx2,bx2,R1x2,R2x2,R3x2⟩:=q9
     have kx2 : blk x2 w.heap.size = some #[.slice a1 ws.length c1,.int .i64 q,.slice a2 ds.length c2,.int .i64 t,.slice ap ps.length cp]:=q8
     clear q8
     rw [← ex2]
     clear ex2
     have nx2:=kn kx2
     refine hK.out _ _ trivial (fun _ => ?_)
     clear hK K
     (try simp only[Act.put,jA,jB,jC,jD,jE,jF])
     refine jK (v:=?_) 17 ?_ ?_
     rotate_left;focus(intro W h;(try dsimp only at h);go_simp;(try with_reducible rfl));(try simp only[Act.put,jA,jB,jC,jD,jE,jF])
     refine jR 18 (fun K hK => ?_)
     go_simp
     obtain ⟨x3,ex3⟩ : ∃ v,v = x2.setCell ⟨w.heap.size,4,none⟩ (.slice a3 ps.length c3):=⟨_,rfl⟩
     have q9:=own_set 4 (.slice a3 ps.length c3) kx2 zx2 bx2 A1 A2 A3 R1x2 R2x2 R3x2
     rw [← ex3] at q9
     obtain ⟨q8,zx3,bx3,R1x3,R2x3,R3x3⟩:=q9
     have kx3 : blk x3 w.heap.size = some #[.slice a1 ws.length c1,.int .i64 q,.slice a2 ds.length c2,.int .i64 t,.slice a3 ps.length c3]:=q8
     clear q8
     rw [← ex3]
     clear ex3
     have nx3:=kn kx3
     have mX:=kn zx3
     refine hK.out _ _ trivial (fun _ => ?_)
     clear hK K
     (try simp only[Act.put,jA,jB,jC,jD,jE,jF])
     refine wpAnyH_done (by kernel_rfl) ?_ _
     go_wp2
     have F9:=own_sets q t zx3 R1x3 R2x3 R3x3 A1 A2 A3 bx3
     exact ret_blk (v:=.agg #[.slice a1 ws.length c1,.int .i64 q,.slice a2 ds.length c2,.int .i64 t,.slice a3 ps.length c3]) F9.1 (fun W' hc => by simp [results,Tryd.results24,go_sem,hc]) rfl ⟨a1,c1,a2,c2,a3,c3,rfl,F9.2⟩
    refine AllReadyH.cons rfl (fun K hK => ?_) AllReadyH.nil
    go_simp
    refine hK.out _ _ trivial (fun _ => ?_)
    clear hK K
    (try simp only[Act.put,jA,jB,jC,jD,jE,jF])
    refine jK (v:=?_) 11 ?_ ?_
    rotate_left;focus(intro W h;(try dsimp only at h);go_simp;(try with_reducible rfl));(try simp only[Act.put,jA,jB,jC,jD,jE,jF])
    refine jK (v:=?_) 12 ?_ ?_
    rotate_left;focus(intro W h;(try dsimp only at h);go_simp;(try with_reducible rfl));(try simp only[Act.put,jA,jB,jC,jD,jE,jF])
    refine jR 7 (fun K hK => ?_)
    go_simp
    go_at_call 52
    (with_reducible refine (G2.out _ bU1).mono ?_)
    rintro e U2 ⟨vv,rfl,ho,hB⟩
    obtain ⟨a2,c2,rfl,R2,_⟩:=srow_of_owns ic_len ho
    (try go_wp2_with fail)
    have A2 : upR (w.heap.size + 2) a2:=fun b off e => by subst e;have:=(ho.lt b rfl).1;have:=blk_lt zU1;omega
    have kU2:=blk_below hB kU1
    have zU2:=blk_below hB zU1
    have bU2:=bt bU1 hB
    have nU2:=kn kU2
    have R2U2:=Lib.hid R2
    clear R2 ho
    have R1U2:=Lib.hid (R1U1.out.below hB)
    clear hB
    refine hK.out _ _ trivial (fun _ => ?_)
    clear hK K
    (try simp only[Act.put,jA,jB,jC,jD,jE,jF])
    refine jR 10 (fun K hK => ?_)
    go_simp
    go_at_call 52
    (with_reducible refine (G3.out _ bU2).mono ?_)
    rintro e U3 ⟨vv,rfl,ho,hB⟩
    obtain ⟨a3,c3,rfl,R3,_⟩:=srow_of_owns ic_len ho
    (try go_wp2_with fail)
    have A3 : upR (w.heap.size + 2) a3:=fun b off e => by subst e;have:=(ho.lt b rfl).1;have:=blk_lt zU2;omega
    have kU3:=blk_below hB kU2
    have zU3:=blk_below hB zU2
    have bU3:=bt bU2 hB
    have nU3:=kn kU3
    have R3U3:=Lib.hid R3
    clear R3 ho
    have R1U3:=Lib.hid (R1U2.out.below hB)
    have R2U3:=Lib.hid (R2U2.out.below hB)
    clear hB
    refine hK.out _ _ trivial (fun _ => ?_)
    clear hK K
    (try simp only[Act.put,jA,jB,jC,jD,jE,jF])
    refine jR 13 (fun K hK => ?_)
    go_simp
    obtain ⟨x1,ex1⟩ : ∃ v,v = U3.setCell ⟨w.heap.size,0,none⟩ (.slice a1 ws.length c1):=⟨_,rfl⟩
    have q9:=own_set 0 (.slice a1 ws.length c1) kU3 zU3 bU3 A1 A2 A3 R1U3 R2U3 R3U3
    rw [← ex1] at q9
    obtain ⟨q8,zx1,bx1,R1x1,R2x1,R3x1⟩:=q9
    have kx1 : blk x1 w.heap.size = some #[.slice a1 ws.length c1,.int .i64 q,.slice ad ds.length cd,.int .i64 t,.slice ap ps.length cp]:=q8
    clear q8
    rw [← ex1]
    clear ex1
    have nx1:=kn kx1
    refine hK.out _ _ trivial (fun _ => ?_)
    clear hK K
    (try simp only[Act.put,jA,jB,jC,jD,jE,jF])
    refine jK (v:=?_) 14 ?_ ?_
    rotate_left;focus(intro W h;(try dsimp only at h);go_simp;(try with_reducible rfl));(try simp only[Act.put,jA,jB,jC,jD,jE,jF])
    refine jK (v:=?_) 15 ?_ ?_
    rotate_left;focus(intro W h;(try dsimp only at h);go_simp;(try with_reducible rfl));(try simp only[Act.put,jA,jB,jC,jD,jE,jF])
    refine jR 16 (fun K hK => ?_)
    go_simp
    obtain ⟨x2,ex2⟩ : ∃ v,v = x1.setCell ⟨w.heap.size,2,none⟩ (.slice a2 ds.length c2):=⟨_,rfl⟩
    have q9:=own_set 2 (.slice a2 ds.length c2) kx1 zx1 bx1 A1 A2 A3 R1x1 R2x1 R3x1
    rw [← ex2] at q9
    obtain ⟨q8,zx2,bx2,R1x2,R2x2,R3x2⟩:=q9
    have kx2 : blk x2 w.heap.size = some #[.slice a1 ws.length c1,.int .i64 q,.slice a2 ds.length c2,.int .i64 t,.slice ap ps.length cp]:=q8
    clear q8
    rw [← ex2]
    clear ex2
    have nx2:=kn kx2
    refine hK.out _ _ trivial (fun _ => ?_)
    clear hK K
    (try simp only[Act.put,jA,jB,jC,jD,jE,jF])
    refine jK (v:=?_) 17 ?_ ?_
    rotate_left;focus(intro W h;(try dsimp only at h);go_simp;(try with_reducible rfl));(try simp only[Act.put,jA,jB,jC,jD,jE,jF])
    refine jR 18 (fun K hK => ?_)
    go_simp
    obtain ⟨x3,ex3⟩ : ∃ v,v = x2.setCell ⟨w.heap.size,4,none⟩ (.slice a3 ps.length c3):=⟨_,rfl⟩
    have q9:=own_set 4 (.slice a3 ps.length c3) kx2 zx2 bx2 A1 A2 A3 R1x2 R2x2 R3x2
    rw [← ex3] at q9
    obtain ⟨q8,zx3,bx3,R1x3,R2x3,R3x3⟩:=q9
    have kx3 : blk x3 w.heap.size = some #[.slice a1 ws.length c1,.int .i64 q,.slice a2 ds.length c2,.int .i64 t,.slice a3 ps.length c3]:=q8
    clear q8
    rw [← ex3]
    clear ex3
    have nx3:=kn kx3
    have mX:=kn zx3
    refine hK.out _ _ trivial (fun _ => ?_)
    clear hK K
    (try simp only[Act.put,jA,jB,jC,jD,jE,jF])
    refine wpAnyH_done (by kernel_rfl) ?_ _
    go_wp2
    have F9:=own_sets q t zx3 R1x3 R2x3 R3x3 A1 A2 A3 bx3
    exact ret_blk (v:=.agg #[.slice a1 ws.length c1,.int .i64 q,.slice a2 ds.length c2,.int .i64 t,.slice a3 ps.length c3]) F9.1 (fun W' hc => by simp [results,Tryd.results24,go_sem,hc]) rfl ⟨a1,c1,a2,c2,a3,c3,rfl,F9.2⟩
   refine AllReadyH.cons rfl (fun K hK => ?_) AllReadyH.nil
   go_simp
   refine hK.out _ _ trivial (fun _ => ?_)
   clear hK K
   (try simp only[Act.put,jA,jB,jC,jD,jE,jF])
   refine jR 6 (fun K hK => ?_)
   go_simp
   refine hK.out _ _ trivial (fun _ => ?_)
   clear hK K
   (try simp only[Act.put,jA,jB,jC,jD,jE,jF])
   refine jK (v:=?_) 11 ?_ ?_
   rotate_left;focus(intro W h;(try dsimp only at h);go_simp;(try with_reducible rfl));(try simp only[Act.put,jA,jB,jC,jD,jE,jF])
   refine jK (v:=?_) 12 ?_ ?_
   rotate_left;focus(intro W h;(try dsimp only at h);go_simp;(try with_reducible rfl));(try simp only[Act.put,jA,jB,jC,jD,jE,jF])
   refine jR 7 (fun K hK => ?_)
   go_simp
   go_at_call 52
   (with_reducible refine (G2.out _ bU1).mono ?_)
   rintro e U2 ⟨vv,rfl,ho,hB⟩
   obtain ⟨a2,c2,rfl,R2,_⟩:=srow_of_owns ic_len ho
   (try go_wp2_with fail)
   have A2 : upR (w.heap.size + 2) a2:=fun b off e => by subst e;have:=(ho.lt b rfl).1;have:=blk_lt zU1;omega
   have kU2:=blk_below hB kU1
   have zU2:=blk_below hB zU1
   have bU2:=bt bU1 hB
   have nU2:=kn kU2
   have R2U2:=Lib.hid R2
   clear R2 ho
   have R1U2:=Lib.hid (R1U1.out.below hB)
   clear hB
   refine hK.out _ _ trivial (fun _ => ?_)
   clear hK K
   (try simp only[Act.put,jA,jB,jC,jD,jE,jF])
   refine jR 10 (fun K hK => ?_)
   go_simp
   go_at_call 52
   (with_reducible refine (G3.out _ bU2).mono ?_)
   rintro e U3 ⟨vv,rfl,ho,hB⟩
   obtain ⟨a3,c3,rfl,R3,_⟩:=srow_of_owns ic_len ho
   (try go_wp2_with fail)
   have A3 : upR (w.heap.size + 2) a3:=fun b off e => by subst e;have:=(ho.lt b rfl).1;have:=blk_lt zU2;omega
   have kU3:=blk_below hB kU2
   have zU3:=blk_below hB zU2
   have bU3:=bt bU2 hB
   have nU3:=kn kU3
   have R3U3:=Lib.hid R3
   clear R3 ho
   have R1U3:=Lib.hid (R1U2.out.below hB)
   have R2U3:=Lib.hid (R2U2.out.below hB)
   clear hB
   refine hK.out _ _ trivial (fun _ => ?_)
   clear hK K
   (try simp only[Act.put,jA,jB,jC,jD,jE,jF])
   refine jR 13 (fun K hK => ?_)
   go_simp
   obtain ⟨x1,ex1⟩ : ∃ v,v = U3.setCell ⟨w.heap.size,0,none⟩ (.slice a1 ws.length c1):=⟨_,rfl⟩
   have q9:=own_set 0 (.slice a1 ws.length c1) kU3 zU3 bU3 A1 A2 A3 R1U3 R2U3 R3U3
   rw [← ex1] at q9
   obtain ⟨q8,zx1,bx1,R1x1,R2x1,R3x1⟩:=q9
   have kx1 : blk x1 w.heap.size = some #[.slice a1 ws.length c1,.int .i64 q,.slice ad ds.length cd,.int .i64 t,.slice ap ps.length cp]:=q8
   clear q8
   rw [← ex1]
   clear ex1
   have nx1:=kn kx1
   refine hK.out _ _ trivial (fun _ => ?_)
   clear hK K
   (try simp only[Act.put,jA,jB,jC,jD,jE,jF])
   refine jK (v:=?_) 14 ?_ ?_
   rotate_left;focus(intro W h;(try dsimp only at h);go_simp;(try with_reducible rfl));(try simp only[Act.put,jA,jB,jC,jD,jE,jF])
   refine jK (v:=?_) 15 ?_ ?_
   rotate_left;focus(intro W h;(try dsimp only at h);go_simp;(try with_reducible rfl));(try simp only[Act.put,jA,jB,jC,jD,jE,jF])
   refine jR 16 (fun K hK => ?_)
   go_simp
   obtain ⟨x2,ex2⟩ : ∃ v,v = x1.setCell ⟨w.heap.size,2,none⟩ (.slice a2 ds.length c2):=⟨_,rfl⟩
   have q9:=own_set 2 (.slice a2 ds.length c2) kx1 zx1 bx1 A1 A2 A3 R1x1 R2x1 R3x1
   rw [← ex2] at q9
   obtain ⟨q8,zx2,bx2,R1x2,R2x2,R3x2⟩:=q9
   have kx2 : blk x2 w.heap.size = some #[.slice a1 ws.length c1,.int .i64 q,.slice a2 ds.length c2,.int .i64 t,.slice ap ps.length cp]:=q8
   clear q8
   rw [← ex2]
   clear ex2
   have nx2:=kn kx2
   refine hK.out _ _ trivial (fun _ => ?_)
   clear hK K
   (try simp only[Act.put,jA,jB,jC,jD,jE,jF])
   refine jK (v:=?_) 17 ?_ ?_
   rotate_left;focus(intro W h;(try dsimp only at h);go_simp;(try with_reducible rfl));(try simp only[Act.put,jA,jB,jC,jD,jE,jF])
   refine jR 18 (fun K hK => ?_)
   go_simp
   obtain ⟨x3,ex3⟩ : ∃ v,v = x2.setCell ⟨w.heap.size,4,none⟩ (.slice a3 ps.length c3):=⟨_,rfl⟩
   have q9:=own_set 4 (.slice a3 ps.length c3) kx2 zx2 bx2 A1 A2 A3 R1x2 R2x2 R3x2
   rw [← ex3] at q9
   obtain ⟨q8,zx3,bx3,R1x3,R2x3,R3x3⟩:=q9
   have kx3 : blk x3 w.heap.size = some #[.slice a1 ws.length c1,.int .i64 q,.slice a2 ds.length c2,.int .i64 t,.slice a3 ps.length c3]:=q8
   clear q8
   rw [← ex3]
   clear ex3
   have nx3:=kn kx3
   have mX:=kn zx3
   refine hK.out _ _ trivial (fun _ => ?_)
   clear hK K
   (try simp only[Act.put,jA,jB,jC,jD,jE,jF])
   refine wpAnyH_done (by kernel_rfl) ?_ _
   go_wp2
   have F9:=own_sets q t zx3 R1x3 R2x3 R3x3 A1 A2 A3 bx3
   exact ret_blk (v:=.agg #[.slice a1 ws.length c1,.int .i64 q,.slice a2 ds.length c2,.int .i64 t,.slice a3 ps.length c3]) F9.1 (fun W' hc => by simp [results,Tryd.results24,go_sem,hc]) rfl ⟨a1,c1,a2,c2,a3,c3,rfl,F9.2⟩
  refine AllReadyH.cons rfl (fun K hK => ?_) ?_
  ·skip
   go_simp
   refine hK.out _ _ trivial (fun _ => ?_)
   clear hK K
   (try simp only[Act.put,jA,jB,jC,jD,jE,jF])
   refine wpAnyH_ready (rs:=[3,9]) (by kernel_rfl) (by simp) ?_
   refine AllReadyH.cons rfl (fun K hK => ?_) ?_
   ·skip
    go_simp
    go_at_call 52
    (with_reducible refine (G1.out _ bd0).mono ?_)
    rintro e U1 ⟨vv,rfl,ho,hB⟩
    obtain ⟨a1,c1,rfl,R1,_⟩:=srow_of_owns ic_len ho
    (try go_wp2_with fail)
    have A1 : upR (w.heap.size + 2) a1:=fun b off e => by subst e;have:=(ho.lt b rfl).1;have:=blk_lt zd0;omega
    have kU1:=blk_below hB kd0
    have zU1:=blk_below hB zd0
    have bU1:=bt bd0 hB
    have nU1:=kn kU1
    have R1U1:=Lib.hid R1
    clear R1 ho
    clear hB
    refine hK.out _ _ trivial (fun _ => ?_)
    clear hK K
    (try simp only[Act.put,jA,jB,jC,jD,jE,jF])
    refine wpAnyH_ready (rs:=[7,9]) (by kernel_rfl) (by simp) ?_
    refine AllReadyH.cons rfl (fun K hK => ?_) ?_
    ·skip
     go_simp
     go_at_call 52
     (with_reducible refine (G2.out _ bU1).mono ?_)
     rintro e U2 ⟨vv,rfl,ho,hB⟩
     obtain ⟨a2,c2,rfl,R2,_⟩:=srow_of_owns ic_len ho
     (try go_wp2_with fail)
     have A2 : upR (w.heap.size + 2) a2:=fun b off e => by subst e;have:=(ho.lt b rfl).1;have:=blk_lt zU1;omega
     have kU2:=blk_below hB kU1
     have zU2:=blk_below hB zU1
     have bU2:=bt bU1 hB
     have nU2:=kn kU2
     have R2U2:=Lib.hid R2
     clear R2 ho
     have R1U2:=Lib.hid (R1U1.out.below hB)
     clear hB
     refine hK.out _ _ trivial (fun _ => ?_)
     clear hK K
     (try simp only[Act.put,jA,jB,jC,jD,jE,jF])
     refine jR 9 (fun K hK => ?_)
     go_simp
     refine hK.out _ _ trivial (fun _ => ?_)
     clear hK K
     (try simp only[Act.put,jA,jB,jC,jD,jE,jF])
     refine jK (v:=?_) 11 ?_ ?_
     rotate_left;focus(intro W h;(try dsimp only at h);go_simp;(try with_reducible rfl));(try simp only[Act.put,jA,jB,jC,jD,jE,jF])
     refine jK (v:=?_) 12 ?_ ?_
     rotate_left;focus(intro W h;(try dsimp only at h);go_simp;(try with_reducible rfl));(try simp only[Act.put,jA,jB,jC,jD,jE,jF])
     refine jR 10 (fun K hK => ?_)
     go_simp
     go_at_call 52
     (with_reducible refine (G3.out _ bU2).mono ?_)
     rintro e U3 ⟨vv,rfl,ho,hB⟩
     obtain ⟨a3,c3,rfl,R3,_⟩:=srow_of_owns ic_len ho
     (try go_wp2_with fail)
     have A3 : upR (w.heap.size + 2) a3:=fun b off e => by subst e;have:=(ho.lt b rfl).1;have:=blk_lt zU2;omega
     have kU3:=blk_below hB kU2
     have zU3:=blk_below hB zU2
     have bU3:=bt bU2 hB
     have nU3:=kn kU3
     have R3U3:=Lib.hid R3
     clear R3 ho
     have R1U3:=Lib.hid (R1U2.out.below hB)
     have R2U3:=Lib.hid (R2U2.out.below hB)
     clear hB
     refine hK.out _ _ trivial (fun _ => ?_)
     clear hK K
     (try simp only[Act.put,jA,jB,jC,jD,jE,jF])
     refine jR 13 (fun K hK => ?_)
     go_simp
     obtain ⟨x1,ex1⟩ : ∃ v,v = U3.setCell ⟨w.heap.size,0,none⟩ (.slice a1 ws.length c1):=⟨_,rfl⟩
     have q9:=own_set 0 (.slice a1 ws.length c1) kU3 zU3 bU3 A1 A2 A3 R1U3 R2U3 R3U3
     rw [← ex1] at q9
     obtain ⟨q8,zx1,bx1,R1x1,R2x1,R3x1⟩:=q9
     have kx1 : blk x1 w.heap.size = some #[.slice a1 ws.length c1,.int .i64 q,.slice ad ds.length cd,.int .i64 t,.slice ap ps.length cp]:=q8
     clear q8
     rw [← ex1]
     clear ex1
     have nx1:=kn kx1
     refine hK.out _ _ trivial (fun _ => ?_)
     clear hK K
     (try simp only[Act.put,jA,jB,jC,jD,jE,jF])
     refine jK (v:=?_) 14 ?_ ?_
     rotate_left;focus(intro W h;(try dsimp only at h);go_simp;(try with_reducible rfl));(try simp only[Act.put,jA,jB,jC,jD,jE,jF])
     refine jK (v:=?_) 15 ?_ ?_
     rotate_left;focus(intro W h;(try dsimp only at h);go_simp;(try with_reducible rfl));(try simp only[Act.put,jA,jB,jC,jD,jE,jF])
     refine jR 16 (fun K hK => ?_)
     go_simp
     obtain ⟨x2,ex2⟩ : ∃ v,v = x1.setCell ⟨w.heap.size,2,none⟩ (.slice a2 ds.length c2):=⟨_,rfl⟩
     have q9:=own_set 2 (.slice a2 ds.length c2) kx1 zx1 bx1 A1 A2 A3 R1x1 R2x1 R3x1
     rw [← ex2] at q9
     obtain ⟨q8,zx2,bx2,R1x2,R2x2,R3x2⟩:=q9
     have kx2 : blk x2 w.heap.size = some #[.slice a1 ws.length c1,.int .i64 q,.slice a2 ds.length c2,.int .i64 t,.slice ap ps.length cp]:=q8
     clear q8
     rw [← ex2]
     clear ex2
     have nx2:=kn kx2
     refine hK.out _ _ trivial (fun _ => ?_)
     clear hK K
     (try simp only[Act.put,jA,jB,jC,jD,jE,jF])
     refine jK (v:=?_) 17 ?_ ?_
     rotate_left;focus(intro W h;(try dsimp only at h);go_simp;(try with_reducible rfl));(try simp only[Act.put,jA,jB,jC,jD,jE,jF])
     refine jR 18 (fun K hK => ?_)
     go_simp
     obtain ⟨x3,ex3⟩ : ∃ v,v = x2.setCell ⟨w.heap.size,4,none⟩ (.slice a3 ps.length c3):=⟨_,rfl⟩
     have q9:=own_set 4 (.slice a3 ps.length c3) kx2 zx2 bx2 A1 A2 A3 R1x2 R2x2 R3x2
     rw [← ex3] at q9
     obtain ⟨q8,zx3,bx3,R1x3,R2x3,R3x3⟩:=q9
     have kx3 : blk x3 w.heap.size = some #[.slice a1 ws.length c1,.int .i64 q,.slice a2 ds.length c2,.int .i64 t,.slice a3 ps.length c3]:=q8
     clear q8
     rw [← ex3]
     clear ex3
     have nx3:=kn kx3
     have mX:=kn zx3
     refine hK.out _ _ trivial (fun _ => ?_)
     clear hK K
     (try simp only[Act.put,jA,jB,jC,jD,jE,jF])
     refine wpAnyH_done (by kernel_rfl) ?_ _
     go_wp2
     have F9:=own_sets q t zx3 R1x3 R2x3 R3x3 A1 A2 A3 bx3
     exact ret_blk (v:=.agg #[.slice a1 ws.length c1,.int .i64 q,.slice a2 ds.length c2,.int .i64 t,.slice a3 ps.length c3]) F9.1 (fun W' hc => by simp [results,Tryd.results24,go_sem,hc]) rfl ⟨a1,c1,a2,c2,a3,c3,rfl,F9.2⟩
    refine AllReadyH.cons rfl (fun K hK => ?_) AllReadyH.nil
    go_simp
    refine hK.out _ _ trivial (fun _ => ?_)
    clear hK K
    (try simp only[Act.put,jA,jB,jC,jD,jE,jF])
    refine jK (v:=?_) 11 ?_ ?_
    rotate_left;focus(intro W h;(try dsimp only at h);go_simp;(try with_reducible rfl));(try simp only[Act.put,jA,jB,jC,jD,jE,jF])
    refine jK (v:=?_) 12 ?_ ?_
    rotate_left;focus(intro W h;(try dsimp only at h);go_simp;(try with_reducible rfl));(try simp only[Act.put,jA,jB,jC,jD,jE,jF])
    refine jR 7 (fun K hK => ?_)
    go_simp
    go_at_call 52
    (with_reducible refine (G2.out _ bU1).mono ?_)
    rintro e U2 ⟨vv,rfl,ho,hB⟩
    obtain ⟨a2,c2,rfl,R2,_⟩:=srow_of_owns ic_len ho
    (try go_wp2_with fail)
    have A2 : upR (w.heap.size + 2) a2:=fun b off e => by subst e;have:=(ho.lt b rfl).1;have:=blk_lt zU1;omega
    have kU2:=blk_below hB kU1
    have zU2:=blk_below hB zU1
    have bU2:=bt bU1 hB
    have nU2:=kn kU2
    have R2U2:=Lib.hid R2
    clear R2 ho
    have R1U2:=Lib.hid (R1U1.out.below hB)
    clear hB
    refine hK.out _ _ trivial (fun _ => ?_)
    clear hK K
    (try simp only[Act.put,jA,jB,jC,jD,jE,jF])
    refine jR 10 (fun K hK => ?_)
    go_simp
    go_at_call 52
    (with_reducible refine (G3.out _ bU2).mono ?_)
    rintro e U3 ⟨vv,rfl,ho,hB⟩
    obtain ⟨a3,c3,rfl,R3,_⟩:=srow_of_owns ic_len ho
    (try go_wp2_with fail)
    have A3 : upR (w.heap.size + 2) a3:=fun b off e => by subst e;have:=(ho.lt b rfl).1;have:=blk_lt zU2;omega
    have kU3:=blk_below hB kU2
    have zU3:=blk_below hB zU2
    have bU3:=bt bU2 hB
    have nU3:=kn kU3
    have R3U3:=Lib.hid R3
    clear R3 ho
    have R1U3:=Lib.hid (R1U2.out.below hB)
    have R2U3:=Lib.hid (R2U2.out.below hB)
    clear hB
    refine hK.out _ _ trivial (fun _ => ?_)
    clear hK K
    (try simp only[Act.put,jA,jB,jC,jD,jE,jF])
    refine jR 13 (fun K hK => ?_)
    go_simp
    obtain ⟨x1,ex1⟩ : ∃ v,v = U3.setCell ⟨w.heap.size,0,none⟩ (.slice a1 ws.length c1):=⟨_,rfl⟩
    have q9:=own_set 0 (.slice a1 ws.length c1) kU3 zU3 bU3 A1 A2 A3 R1U3 R2U3 R3U3
    rw [← ex1] at q9
    obtain ⟨q8,zx1,bx1,R1x1,R2x1,R3x1⟩:=q9
    have kx1 : blk x1 w.heap.size = some #[.slice a1 ws.length c1,.int .i64 q,.slice ad ds.length cd,.int .i64 t,.slice ap ps.length cp]:=q8
    clear q8
    rw [← ex1]
    clear ex1
    have nx1:=kn kx1
    refine hK.out _ _ trivial (fun _ => ?_)
    clear hK K
    (try simp only[Act.put,jA,jB,jC,jD,jE,jF])
    refine jK (v:=?_) 14 ?_ ?_
    rotate_left;focus(intro W h;(try dsimp only at h);go_simp;(try with_reducible rfl));(try simp only[Act.put,jA,jB,jC,jD,jE,jF])
    refine jK (v:=?_) 15 ?_ ?_
    rotate_left;focus(intro W h;(try dsimp only at h);go_simp;(try with_reducible rfl));(try simp only[Act.put,jA,jB,jC,jD,jE,jF])
    refine jR 16 (fun K hK => ?_)
    go_simp
    obtain ⟨x2,ex2⟩ : ∃ v,v = x1.setCell ⟨w.heap.size,2,none⟩ (.slice a2 ds.length c2):=⟨_,rfl⟩
    have q9:=own_set 2 (.slice a2 ds.length c2) kx1 zx1 bx1 A1 A2 A3 R1x1 R2x1 R3x1
    rw [← ex2] at q9
    obtain ⟨q8,zx2,bx2,R1x2,R2x2,R3x2⟩:=q9
    have kx2 : blk x2 w.heap.size = some #[.slice a1 ws.length c1,.int .i64 q,.slice a2 ds.length c2,.int .i64 t,.slice ap ps.length cp]:=q8
    clear q8
    rw [← ex2]
    clear ex2
    have nx2:=kn kx2
    refine hK.out _ _ trivial (fun _ => ?_)
    clear hK K
    (try simp only[Act.put,jA,jB,jC,jD,jE,jF])
    refine jK (v:=?_) 17 ?_ ?_
    rotate_left;focus(intro W h;(try dsimp only at h);go_simp;(try with_reducible rfl));(try simp only[Act.put,jA,jB,jC,jD,jE,jF])
    refine jR 18 (fun K hK => ?_)
    go_simp
    obtain ⟨x3,ex3⟩ : ∃ v,v = x2.setCell ⟨w.heap.size,4,none⟩ (.slice a3 ps.length c3):=⟨_,rfl⟩
    have q9:=own_set 4 (.slice a3 ps.length c3) kx2 zx2 bx2 A1 A2 A3 R1x2 R2x2 R3x2
    rw [← ex3] at q9
    obtain ⟨q8,zx3,bx3,R1x3,R2x3,R3x3⟩:=q9
    have kx3 : blk x3 w.heap.size = some #[.slice a1 ws.length c1,.int .i64 q,.slice a2 ds.length c2,.int .i64 t,.slice a3 ps.length c3]:=q8
    clear q8
    rw [← ex3]
    clear ex3
    have nx3:=kn kx3
    have mX:=kn zx3
    refine hK.out _ _ trivial (fun _ => ?_)
    clear hK K
    (try simp only[Act.put,jA,jB,jC,jD,jE,jF])
    refine wpAnyH_done (by kernel_rfl) ?_ _
    go_wp2
    have F9:=own_sets q t zx3 R1x3 R2x3 R3x3 A1 A2 A3 bx3
    exact ret_blk (v:=.agg #[.slice a1 ws.length c1,.int .i64 q,.slice a2 ds.length c2,.int .i64 t,.slice a3 ps.length c3]) F9.1 (fun W' hc => by simp [results,Tryd.results24,go_sem,hc]) rfl ⟨a1,c1,a2,c2,a3,c3,rfl,F9.2⟩
   refine AllReadyH.cons rfl (fun K hK => ?_) AllReadyH.nil
   go_simp
   refine hK.out _ _ trivial (fun _ => ?_)
   clear hK K
   (try simp only[Act.put,jA,jB,jC,jD,jE,jF])
   refine jR 3 (fun K hK => ?_)
   go_simp
   go_at_call 52
   (with_reducible refine (G1.out _ bd0).mono ?_)
   rintro e U1 ⟨vv,rfl,ho,hB⟩
   obtain ⟨a1,c1,rfl,R1,_⟩:=srow_of_owns ic_len ho
   (try go_wp2_with fail)
   have A1 : upR (w.heap.size + 2) a1:=fun b off e => by subst e;have:=(ho.lt b rfl).1;have:=blk_lt zd0;omega
   have kU1:=blk_below hB kd0
   have zU1:=blk_below hB zd0
   have bU1:=bt bd0 hB
   have nU1:=kn kU1
   have R1U1:=Lib.hid R1
   clear R1 ho
   clear hB
   refine hK.out _ _ trivial (fun _ => ?_)
   clear hK K
   (try simp only[Act.put,jA,jB,jC,jD,jE,jF])
   refine jK (v:=?_) 11 ?_ ?_
   rotate_left;focus(intro W h;(try dsimp only at h);go_simp;(try with_reducible rfl));(try simp only[Act.put,jA,jB,jC,jD,jE,jF])
   refine jK (v:=?_) 12 ?_ ?_
   rotate_left;focus(intro W h;(try dsimp only at h);go_simp;(try with_reducible rfl));(try simp only[Act.put,jA,jB,jC,jD,jE,jF])
   refine jR 7 (fun K hK => ?_)
   go_simp
   go_at_call 52
   (with_reducible refine (G2.out _ bU1).mono ?_)
   rintro e U2 ⟨vv,rfl,ho,hB⟩
   obtain ⟨a2,c2,rfl,R2,_⟩:=srow_of_owns ic_len ho
   (try go_wp2_with fail)
   have A2 : upR (w.heap.size + 2) a2:=fun b off e => by subst e;have:=(ho.lt b rfl).1;have:=blk_lt zU1;omega
   have kU2:=blk_below hB kU1
   have zU2:=blk_below hB zU1
   have bU2:=bt bU1 hB
   have nU2:=kn kU2
   have R2U2:=Lib.hid R2
   clear R2 ho
   have R1U2:=Lib.hid (R1U1.out.below hB)
   clear hB
   refine hK.out _ _ trivial (fun _ => ?_)
   clear hK K
   (try simp only[Act.put,jA,jB,jC,jD,jE,jF])
   refine jR 10 (fun K hK => ?_)
   go_simp
   go_at_call 52
   (with_reducible refine (G3.out _ bU2).mono ?_)
   rintro e U3 ⟨vv,rfl,ho,hB⟩
   obtain ⟨a3,c3,rfl,R3,_⟩:=srow_of_owns ic_len ho
   (try go_wp2_with fail)
   have A3 : upR (w.heap.size + 2) a3:=fun b off e => by subst e;have:=(ho.lt b rfl).1;have:=blk_lt zU2;omega
   have kU3:=blk_below hB kU2
   have zU3:=blk_below hB zU2
   have bU3:=bt bU2 hB
   have nU3:=kn kU3
   have R3U3:=Lib.hid R3
   clear R3 ho
   have R1U3:=Lib.hid (R1U2.out.below hB)
   have R2U3:=Lib.hid (R2U2.out.below hB)
   clear hB
   refine hK.out _ _ trivial (fun _ => ?_)
   clear hK K
   (try simp only[Act.put,jA,jB,jC,jD,jE,jF])
   refine jR 13 (fun K hK => ?_)
   go_simp
   obtain ⟨x1,ex1⟩ : ∃ v,v = U3.setCell ⟨w.heap.size,0,none⟩ (.slice a1 ws.length c1):=⟨_,rfl⟩
   have q9:=own_set 0 (.slice a1 ws.length c1) kU3 zU3 bU3 A1 A2 A3 R1U3 R2U3 R3U3
   rw [← ex1] at q9
   obtain ⟨q8,zx1,bx1,R1x1,R2x1,R3x1⟩:=q9
   have kx1 : blk x1 w.heap.size = some #[.slice a1 ws.length c1,.int .i64 q,.slice ad ds.length cd,.int .i64 t,.slice ap ps.length cp]:=q8
   clear q8
   rw [← ex1]
   clear ex1
   have nx1:=kn kx1
   refine hK.out _ _ trivial (fun _ => ?_)
   clear hK K
   (try simp only[Act.put,jA,jB,jC,jD,jE,jF])
   refine jK (v:=?_) 14 ?_ ?_
   rotate_left;focus(intro W h;(try dsimp only at h);go_simp;(try with_reducible rfl));(try simp only[Act.put,jA,jB,jC,jD,jE,jF])
   refine jK (v:=?_) 15 ?_ ?_
   rotate_left;focus(intro W h;(try dsimp only at h);go_simp;(try with_reducible rfl));(try simp only[Act.put,jA,jB,jC,jD,jE,jF])
   refine jR 16 (fun K hK => ?_)
   go_simp
   obtain ⟨x2,ex2⟩ : ∃ v,v = x1.setCell ⟨w.heap.size,2,none⟩ (.slice a2 ds.length c2):=⟨_,rfl⟩
   have q9:=own_set 2 (.slice a2 ds.length c2) kx1 zx1 bx1 A1 A2 A3 R1x1 R2x1 R3x1
   rw [← ex2] at q9
   obtain ⟨q8,zx2,bx2,R1x2,R2x2,R3x2⟩:=q9
   have kx2 : blk x2 w.heap.size = some #[.slice a1 ws.length c1,.int .i64 q,.slice a2 ds.length c2,.int .i64 t,.slice ap ps.length cp]:=q8
   clear q8
   rw [← ex2]
   clear ex2
   have nx2:=kn kx2
   refine hK.out _ _ trivial (fun _ => ?_)
   clear hK K
   (try simp only[Act.put,jA,jB,jC,jD,jE,jF])
   refine jK (v:=?_) 17 ?_ ?_
   rotate_left;focus(intro W h;(try dsimp only at h);go_simp;(try with_reducible rfl));(try simp only[Act.put,jA,jB,jC,jD,jE,jF])
   refine jR 18 (fun K hK => ?_)
   go_simp
   obtain ⟨x3,ex3⟩ : ∃ v,v = x2.setCell ⟨w.heap.size,4,none⟩ (.slice a3 ps.length c3):=⟨_,rfl⟩
   have q9:=own_set 4 (.slice a3 ps.length c3) kx2 zx2 bx2 A1 A2 A3 R1x2 R2x2 R3x2
   rw [← ex3] at q9
   obtain ⟨q8,zx3,bx3,R1x3,R2x3,R3x3⟩:=q9
   have kx3 : blk x3 w.heap.size = some #[.slice a1 ws.length c1,.int .i64 q,.slice a2 ds.length c2,.int .i64 t,.slice a3 ps.length c3]:=q8
   clear q8
   rw [← ex3]
   clear ex3
   have nx3:=kn kx3
   have mX:=kn zx3
   refine hK.out _ _ trivial (fun _ => ?_)
   clear hK K
   (try simp only[Act.put,jA,jB,jC,jD,jE,jF])
   refine wpAnyH_done (by kernel_rfl) ?_ _
   go_wp2
   have F9:=own_sets q t zx3 R1x3 R2x3 R3x3 A1 A2 A3 bx3
   exact ret_blk (v:=.agg #[.slice a1 ws.length c1,.int .i64 q,.slice a2 ds.length c2,.int .i64 t,.slice a3 ps.length c3]) F9.1 (fun W' hc => by simp [results,Tryd.results24,go_sem,hc]) rfl ⟨a1,c1,a2,c2,a3,c3,rfl,F9.2⟩
  refine AllReadyH.cons rfl (fun K hK => ?_) AllReadyH.nil
  go_simp
  refine hK.out _ _ trivial (fun _ => ?_)
  clear hK K
  (try simp only[Act.put,jA,jB,jC,jD,jE,jF])
  refine wpAnyH_ready (rs:=[3,6]) (by kernel_rfl) (by simp) ?_
  refine AllReadyH.cons rfl (fun K hK => ?_) ?_
  ·skip
   go_simp
   go_at_call 52
   (with_reducible refine (G1.out _ bd0).mono ?_)
   rintro e U1 ⟨vv,rfl,ho,hB⟩
   obtain ⟨a1,c1,rfl,R1,_⟩:=srow_of_owns ic_len ho
   (try go_wp2_with fail)
   have A1 : upR (w.heap.size + 2) a1:=fun b off e => by subst e;have:=(ho.lt b rfl).1;have:=blk_lt zd0;omega
   have kU1:=blk_below hB kd0
   have zU1:=blk_below hB zd0
   have bU1:=bt bd0 hB
   have nU1:=kn kU1
   have R1U1:=Lib.hid R1
   clear R1 ho
   clear hB
   refine hK.out _ _ trivial (fun _ => ?_)
   clear hK K
   (try simp only[Act.put,jA,jB,jC,jD,jE,jF])
   refine jR 6 (fun K hK => ?_)
   go_simp
   refine hK.out _ _ trivial (fun _ => ?_)
   clear hK K
   (try simp only[Act.put,jA,jB,jC,jD,jE,jF])
   refine jK (v:=?_) 11 ?_ ?_
   rotate_left;focus(intro W h;(try dsimp only at h);go_simp;(try with_reducible rfl));(try simp only[Act.put,jA,jB,jC,jD,jE,jF])
   refine jK (v:=?_) 12 ?_ ?_
   rotate_left;focus(intro W h;(try dsimp only at h);go_simp;(try with_reducible rfl));(try simp only[Act.put,jA,jB,jC,jD,jE,jF])
   refine jR 7 (fun K hK => ?_)
   go_simp
   go_at_call 52
   (with_reducible refine (G2.out _ bU1).mono ?_)
   rintro e U2 ⟨vv,rfl,ho,hB⟩
   obtain ⟨a2,c2,rfl,R2,_⟩:=srow_of_owns ic_len ho
   (try go_wp2_with fail)
   have A2 : upR (w.heap.size + 2) a2:=fun b off e => by subst e;have:=(ho.lt b rfl).1;have:=blk_lt zU1;omega
   have kU2:=blk_below hB kU1
   have zU2:=blk_below hB zU1
   have bU2:=bt bU1 hB
   have nU2:=kn kU2
   have R2U2:=Lib.hid R2
   clear R2 ho
   have R1U2:=Lib.hid (R1U1.out.below hB)
   clear hB
   refine hK.out _ _ trivial (fun _ => ?_)
   clear hK K
   (try simp only[Act.put,jA,jB,jC,jD,jE,jF])
   refine jR 10 (fun K hK => ?_)
   go_simp
   go_at_call 52
   (with_reducible refine (G3.out _ bU2).mono ?_)
   rintro e U3 ⟨vv,rfl,ho,hB⟩
   obtain ⟨a3,c3,rfl,R3,_⟩:=srow_of_owns ic_len ho
   (try go_wp2_with fail)
   have A3 : upR (w.heap.size + 2) a3:=fun b off e => by subst e;have:=(ho.lt b rfl).1;have:=blk_lt zU2;omega
   have kU3:=blk_below hB kU2
   have zU3:=blk_below hB zU2
   have bU3:=bt bU2 hB
   have nU3:=kn kU3
   have R3U3:=Lib.hid R3
   clear R3 ho
   have R1U3:=Lib.hid (R1U2.out.below hB)
   have R2U3:=Lib.hid (R2U2.out.below hB)
   clear hB
   refine hK.out _ _ trivial (fun _ => ?_)
   clear hK K
   (try simp only[Act.put,jA,jB,jC,jD,jE,jF])
   refine jR 13 (fun K hK => ?_)
   go_simp
   obtain ⟨x1,ex1⟩ : ∃ v,v = U3.setCell ⟨w.heap.size,0,none⟩ (.slice a1 ws.length c1):=⟨_,rfl⟩
   have q9:=own_set 0 (.slice a1 ws.length c1) kU3 zU3 bU3 A1 A2 A3 R1U3 R2U3 R3U3
   rw [← ex1] at q9
   obtain ⟨q8,zx1,bx1,R1x1,R2x1,R3x1⟩:=q9
   have kx1 : blk x1 w.heap.size = some #[.slice a1 ws.length c1,.int .i64 q,.slice ad ds.length cd,.int .i64 t,.slice ap ps.length cp]:=q8
   clear q8
   rw [← ex1]
   clear ex1
   have nx1:=kn kx1
   refine hK.out _ _ trivial (fun _ => ?_)
   clear hK K
   (try simp only[Act.put,jA,jB,jC,jD,jE,jF])
   refine jK (v:=?_) 14 ?_ ?_
   rotate_left;focus(intro W h;(try dsimp only at h);go_simp;(try with_reducible rfl));(try simp only[Act.put,jA,jB,jC,jD,jE,jF])
   refine jK (v:=?_) 15 ?_ ?_
   rotate_left;focus(intro W h;(try dsimp only at h);go_simp;(try with_reducible rfl));(try simp only[Act.put,jA,jB,jC,jD,jE,jF])
   refine jR 16 (fun K hK => ?_)
   go_simp
   obtain ⟨x2,ex2⟩ : ∃ v,v = x1.setCell ⟨w.heap.size,2,none⟩ (.slice a2 ds.length c2):=⟨_,rfl⟩
   have q9:=own_set 2 (.slice a2 ds.length c2) kx1 zx1 bx1 A1 A2 A3 R1x1 R2x1 R3x1
   rw [← ex2] at q9
   obtain ⟨q8,zx2,bx2,R1x2,R2x2,R3x2⟩:=q9
   have kx2 : blk x2 w.heap.size = some #[.slice a1 ws.length c1,.int .i64 q,.slice a2 ds.length c2,.int .i64 t,.slice ap ps.length cp]:=q8
   clear q8
   rw [← ex2]
   clear ex2
   have nx2:=kn kx2
   refine hK.out _ _ trivial (fun _ => ?_)
   clear hK K
   (try simp only[Act.put,jA,jB,jC,jD,jE,jF])
   refine jK (v:=?_) 17 ?_ ?_
   rotate_left;focus(intro W h;(try dsimp only at h);go_simp;(try with_reducible rfl));(try simp only[Act.put,jA,jB,jC,jD,jE,jF])
   refine jR 18 (fun K hK => ?_)
   go_simp
   obtain ⟨x3,ex3⟩ : ∃ v,v = x2.setCell ⟨w.heap.size,4,none⟩ (.slice a3 ps.length c3):=⟨_,rfl⟩
   have q9:=own_set 4 (.slice a3 ps.length c3) kx2 zx2 bx2 A1 A2 A3 R1x2 R2x2 R3x2
   rw [← ex3] at q9
   obtain ⟨q8,zx3,bx3,R1x3,R2x3,R3x3⟩:=q9
   have kx3 : blk x3 w.heap.size = some #[.slice a1 ws.length c1,.int .i64 q,.slice a2 ds.length c2,.int .i64 t,.slice a3 ps.length c3]:=q8
   clear q8
   rw [← ex3]
   clear ex3
   have nx3:=kn kx3
   have mX:=kn zx3
   refine hK.out _ _ trivial (fun _ => ?_)
   clear hK K
   (try simp only[Act.put,jA,jB,jC,jD,jE,jF])
   refine wpAnyH_done (by kernel_rfl) ?_ _
   go_wp2
   have F9:=own_sets q t zx3 R1x3 R2x3 R3x3 A1 A2 A3 bx3
   exact ret_blk (v:=.agg #[.slice a1 ws.length c1,.int .i64 q,.slice a2 ds.length c2,.int .i64 t,.slice a3 ps.length c3]) F9.1 (fun W' hc => by simp [results,Tryd.results24,go_sem,hc]) rfl ⟨a1,c1,a2,c2,a3,c3,rfl,F9.2⟩
  refine AllReadyH.cons rfl (fun K hK => ?_) AllReadyH.nil
  go_simp
  refine hK.out _ _ trivial (fun _ => ?_)
  clear hK K
  (try simp only[Act.put,jA,jB,jC,jD,jE,jF])
  refine jR 3 (fun K hK => ?_)
  go_simp
  go_at_call 52
  (with_reducible refine (G1.out _ bd0).mono ?_)
  rintro e U1 ⟨vv,rfl,ho,hB⟩
  obtain ⟨a1,c1,rfl,R1,_⟩:=srow_of_owns ic_len ho
  (try go_wp2_with fail)
  have A1 : upR (w.heap.size + 2) a1:=fun b off e => by subst e;have:=(ho.lt b rfl).1;have:=blk_lt zd0;omega
  have kU1:=blk_below hB kd0
  have zU1:=blk_below hB zd0
  have bU1:=bt bd0 hB
  have nU1:=kn kU1
  have R1U1:=Lib.hid R1
  clear R1 ho
  clear hB
  refine hK.out _ _ trivial (fun _ => ?_)
  clear hK K
  (try simp only[Act.put,jA,jB,jC,jD,jE,jF])
  refine jK (v:=?_) 11 ?_ ?_
  rotate_left;focus(intro W h;(try dsimp only at h);go_simp;(try with_reducible rfl));(try simp only[Act.put,jA,jB,jC,jD,jE,jF])
  refine jK (v:=?_) 12 ?_ ?_
  rotate_left;focus(intro W h;(try dsimp only at h);go_simp;(try with_reducible rfl));(try simp only[Act.put,jA,jB,jC,jD,jE,jF])
  refine jR 7 (fun K hK => ?_)
  go_simp
  go_at_call 52
  (with_reducible refine (G2.out _ bU1).mono ?_)
  rintro e U2 ⟨vv,rfl,ho,hB⟩
  obtain ⟨a2,c2,rfl,R2,_⟩:=srow_of_owns ic_len ho
  (try go_wp2_with fail)
  have A2 : upR (w.heap.size + 2) a2:=fun b off e => by subst e;have:=(ho.lt b rfl).1;have:=blk_lt zU1;omega
  have kU2:=blk_below hB kU1
  have zU2:=blk_below hB zU1
  have bU2:=bt bU1 hB
  have nU2:=kn kU2
  have R2U2:=Lib.hid R2
  clear R2 ho
  have R1U2:=Lib.hid (R1U1.out.below hB)
  clear hB
  refine hK.out _ _ trivial (fun _ => ?_)
  clear hK K
  (try simp only[Act.put,jA,jB,jC,jD,jE,jF])
  refine jR 10 (fun K hK => ?_)
  go_simp
  go_at_call 52
  (with_reducible refine (G3.out _ bU2).mono ?_)
  rintro e U3 ⟨vv,rfl,ho,hB⟩
  obtain ⟨a3,c3,rfl,R3,_⟩:=srow_of_owns ic_len ho
  (try go_wp2_with fail)
  have A3 : upR (w.heap.size + 2) a3:=fun b off e => by subst e;have:=(ho.lt b rfl).1;have:=blk_lt zU2;omega
  have kU3:=blk_below hB kU2
  have zU3:=blk_below hB zU2
  have bU3:=bt bU2 hB
  have nU3:=kn kU3
  have R3U3:=Lib.hid R3
  clear R3 ho
  have R1U3:=Lib.hid (R1U2.out.below hB)
  have R2U3:=Lib.hid (R2U2.out.below hB)
  clear hB
  refine hK.out _ _ trivial (fun _ => ?_)
  clear hK K
  (try simp only[Act.put,jA,jB,jC,jD,jE,jF])
  refine jR 13 (fun K hK => ?_)
  go_simp
  obtain ⟨x1,ex1⟩ : ∃ v,v = U3.setCell ⟨w.heap.size,0,none⟩ (.slice a1 ws.length c1):=⟨_,rfl⟩
  have q9:=own_set 0 (.slice a1 ws.length c1) kU3 zU3 bU3 A1 A2 A3 R1U3 R2U3 R3U3
  rw [← ex1] at q9
  obtain ⟨q8,zx1,bx1,R1x1,R2x1,R3x1⟩:=q9
  have kx1 : blk x1 w.heap.size = some #[.slice a1 ws.length c1,.int .i64 q,.slice ad ds.length cd,.int .i64 t,.slice ap ps.length cp]:=q8
  clear q8
  rw [← ex1]
  clear ex1
  have nx1:=kn kx1
  refine hK.out _ _ trivial (fun _ => ?_)
  clear hK K
  (try simp only[Act.put,jA,jB,jC,jD,jE,jF])
  refine jK (v:=?_) 14 ?_ ?_
  rotate_left;focus(intro W h;(try dsimp only at h);go_simp;(try with_reducible rfl));(try simp only[Act.put,jA,jB,jC,jD,jE,jF])
  refine jK (v:=?_) 15 ?_ ?_
  rotate_left;focus(intro W h;(try dsimp only at h);go_simp;(try with_reducible rfl));(try simp only[Act.put,jA,jB,jC,jD,jE,jF])
  refine jR 16 (fun K hK => ?_)
  go_simp
  obtain ⟨x2,ex2⟩ : ∃ v,v = x1.setCell ⟨w.heap.size,2,none⟩ (.slice a2 ds.length c2):=⟨_,rfl⟩
  have q9:=own_set 2 (.slice a2 ds.length c2) kx1 zx1 bx1 A1 A2 A3 R1x1 R2x1 R3x1
  rw [← ex2] at q9
  obtain ⟨q8,zx2,bx2,R1x2,R2x2,R3x2⟩:=q9
  have kx2 : blk x2 w.heap.size = some #[.slice a1 ws.length c1,.int .i64 q,.slice a2 ds.length c2,.int .i64 t,.slice ap ps.length cp]:=q8
  clear q8
  rw [← ex2]
  clear ex2
  have nx2:=kn kx2
  refine hK.out _ _ trivial (fun _ => ?_)
  clear hK K
  (try simp only[Act.put,jA,jB,jC,jD,jE,jF])
  refine jK (v:=?_) 17 ?_ ?_
  rotate_left;focus(intro W h;(try dsimp only at h);go_simp;(try with_reducible rfl));(try simp only[Act.put,jA,jB,jC,jD,jE,jF])
  refine jR 18 (fun K hK => ?_)
  go_simp
  obtain ⟨x3,ex3⟩ : ∃ v,v = x2.setCell ⟨w.heap.size,4,none⟩ (.slice a3 ps.length c3):=⟨_,rfl⟩
  have q9:=own_set 4 (.slice a3 ps.length c3) kx2 zx2 bx2 A1 A2 A3 R1x2 R2x2 R3x2
  rw [← ex3] at q9
  obtain ⟨q8,zx3,bx3,R1x3,R2x3,R3x3⟩:=q9
  have kx3 : blk x3 w.heap.size = some #[.slice a1 ws.length c1,.int .i64 q,.slice a2 ds.length c2,.int .i64 t,.slice a3 ps.length c3]:=q8
  clear q8
  rw [← ex3]
  clear ex3
  have nx3:=kn kx3
  have mX:=kn zx3
  refine hK.out _ _ trivial (fun _ => ?_)
  clear hK K
  (try simp only[Act.put,jA,jB,jC,jD,jE,jF])
  refine wpAnyH_done (by kernel_rfl) ?_ _
  go_wp2
  have F9:=own_sets q t zx3 R1x3 R2x3 R3x3 A1 A2 A3 bx3
  exact ret_blk (v:=.agg #[.slice a1 ws.length c1,.int .i64 q,.slice a2 ds.length c2,.int .i64 t,.slice a3 ps.length c3]) F9.1 (fun W' hc => by simp [results,Tryd.results24,go_sem,hc]) rfl ⟨a1,c1,a2,c2,a3,c3,rfl,F9.2⟩
 refine AllReadyH.cons rfl (fun K hK => ?_) ?_
 ·skip
  go_simp
  refine hK.out _ _ trivial (fun _ => ?_)
  clear hK K
  (try simp only[Act.put,jA,jB,jC,jD,jE,jF])
  refine wpAnyH_ready (rs:=[2,9]) (by kernel_rfl) (by simp) ?_
  refine AllReadyH.cons rfl (fun K hK => ?_) ?_
  ·skip
   go_simp
   refine hK.out _ _ trivial (fun _ => ?_)
   clear hK K
   (try simp only[Act.put,jA,jB,jC,jD,jE,jF])
   refine wpAnyH_ready (rs:=[3,9]) (by kernel_rfl) (by simp) ?_
   refine AllReadyH.cons rfl (fun K hK => ?_) ?_
   ·skip
    go_simp
    go_at_call 52
    (with_reducible refine (G1.out _ bd0).mono ?_)
    rintro e U1 ⟨vv,rfl,ho,hB⟩
    obtain ⟨a1,c1,rfl,R1,_⟩:=srow_of_owns ic_len ho
    (try go_wp2_with fail)
    have A1 : upR (w.heap.size + 2) a1:=fun b off e => by subst e;have:=(ho.lt b rfl).1;have:=blk_lt zd0;omega
    have kU1:=blk_below hB kd0
    have zU1:=blk_below hB zd0
    have bU1:=bt bd0 hB
    have nU1:=kn kU1
    have R1U1:=Lib.hid R1
    clear R1 ho
    clear hB
    refine hK.out _ _ trivial (fun _ => ?_)
    clear hK K
    (try simp only[Act.put,jA,jB,jC,jD,jE,jF])
    refine wpAnyH_ready (rs:=[7,9]) (by kernel_rfl) (by simp) ?_
    refine AllReadyH.cons rfl (fun K hK => ?_) ?_
    ·skip
     go_simp
     go_at_call 52
     (with_reducible refine (G2.out _ bU1).mono ?_)
     rintro e U2 ⟨vv,rfl,ho,hB⟩
     obtain ⟨a2,c2,rfl,R2,_⟩:=srow_of_owns ic_len ho
     (try go_wp2_with fail)
     have A2 : upR (w.heap.size + 2) a2:=fun b off e => by subst e;have:=(ho.lt b rfl).1;have:=blk_lt zU1;omega
     have kU2:=blk_below hB kU1
     have zU2:=blk_below hB zU1
     have bU2:=bt bU1 hB
     have nU2:=kn kU2
     have R2U2:=Lib.hid R2
     clear R2 ho
     have R1U2:=Lib.hid (R1U1.out.below hB)
     clear hB
     refine hK.out _ _ trivial (fun _ => ?_)
     clear hK K
     (try simp only[Act.put,jA,jB,jC,jD,jE,jF])
     refine jR 9 (fun K hK => ?_)
     go_simp
     refine hK.out _ _ trivial (fun _ => ?_)
     clear hK K
     (try simp only[Act.put,jA,jB,jC,jD,jE,jF])
     refine jK (v:=?_) 11 ?_ ?_
     rotate_left;focus(intro W h;(try dsimp only at h);go_simp;(try with_reducible rfl));(try simp only[Act.put,jA,jB,jC,jD,jE,jF])
     refine jK (v:=?_) 12 ?_ ?_
     rotate_left;focus(intro W h;(try dsimp only at h);go_simp;(try with_reducible rfl));(try simp only[Act.put,jA,jB,jC,jD,jE,jF])
     refine jR 10 (fun K hK => ?_)
     go_simp
     go_at_call 52
     (with_reducible refine (G3.out _ bU2).mono ?_)
     rintro e U3 ⟨vv,rfl,ho,hB⟩
     obtain ⟨a3,c3,rfl,R3,_⟩:=srow_of_owns ic_len ho
     (try go_wp2_with fail)
     have A3 : upR (w.heap.size + 2) a3:=fun b off e => by subst e;have:=(ho.lt b rfl).1;have:=blk_lt zU2;omega
     have kU3:=blk_below hB kU2
     have zU3:=blk_below hB zU2
     have bU3:=bt bU2 hB
     have nU3:=kn kU3
     have R3U3:=Lib.hid R3
     clear R3 ho
     have R1U3:=Lib.hid (R1U2.out.below hB)
     have R2U3:=Lib.hid (R2U2.out.below hB)
     clear hB
     refine hK.out _ _ trivial (fun _ => ?_)
     clear hK K
     (try simp only[Act.put,jA,jB,jC,jD,jE,jF])
     refine jR 13 (fun K hK => ?_)
     go_simp
     obtain ⟨x1,ex1⟩ : ∃ v,v = U3.setCell ⟨w.heap.size,0,none⟩ (.slice a1 ws.length c1):=⟨_,rfl⟩
     have q9:=own_set 0 (.slice a1 ws.length c1) kU3 zU3 bU3 A1 A2 A3 R1U3 R2U3 R3U3
     rw [← ex1] at q9
     obtain ⟨q8,zx1,bx1,R1x1,R2x1,R3x1⟩:=q9
     have kx1 : blk x1 w.heap.size = some #[.slice a1 ws.length c1,.int .i64 q,.slice ad ds.length cd,.int .i64 t,.slice ap ps.length cp]:=q8
     clear q8
     rw [← ex1]
     clear ex1
     have nx1:=kn kx1
     refine hK.out _ _ trivial (fun _ => ?_)
     clear hK K
     (try simp only[Act.put,jA,jB,jC,jD,jE,jF])
     refine jK (v:=?_) 14 ?_ ?_
     rotate_left;focus(intro W h;(try dsimp only at h);go_simp;(try with_reducible rfl));(try simp only[Act.put,jA,jB,jC,jD,jE,jF])
     refine jK (v:=?_) 15 ?_ ?_
     rotate_left;focus(intro W h;(try dsimp only at h);go_simp;(try with_reducible rfl));(try simp only[Act.put,jA,jB,jC,jD,jE,jF])
     refine jR 16 (fun K hK => ?_)
     go_simp
     obtain ⟨x2,ex2⟩ : ∃ v,v = x1.setCell ⟨w.heap.size,2,none⟩ (.slice a2 ds.length c2):=⟨_,rfl⟩
     have q9:=own_set 2 (.slice a2 ds.length c2) kx1 zx1 bx1 A1 A2 A3 R1x1 R2x1 R3x1
     rw [← ex2] at q9
     obtain ⟨q8,zx2,bx2,R1x2,R2x2,R3x2⟩:=q9
     have kx2 : blk x2 w.heap.size = some #[.slice a1 ws.length c1,.int .i64 q,.slice a2 ds.length c2,.int .i64 t,.slice ap ps.length cp]:=q8
     clear q8
     rw [← ex2]
     clear ex2
     have nx2:=kn kx2
     refine hK.out _ _ trivial (fun _ => ?_)
     clear hK K
     (try simp only[Act.put,jA,jB,jC,jD,jE,jF])
     refine jK (v:=?_) 17 ?_ ?_
     rotate_left;focus(intro W h;(try dsimp only at h);go_simp;(try with_reducible rfl));(try simp only[Act.put,jA,jB,jC,jD,jE,jF])
     refine jR 18 (fun K hK => ?_)
     go_simp
     obtain ⟨x3,ex3⟩ : ∃ v,v = x2.setCell ⟨w.heap.size,4,none⟩ (.slice a3 ps.length c3):=⟨_,rfl⟩
     have q9:=own_set 4 (.slice a3 ps.length c3) kx2 zx2 bx2 A1 A2 A3 R1x2 R2x2 R3x2
     rw [← ex3] at q9
     obtain ⟨q8,zx3,bx3,R1x3,R2x3,R3x3⟩:=q9
     have kx3 : blk x3 w.heap.size = some #[.slice a1 ws.length c1,.int .i64 q,.slice a2 ds.length c2,.int .i64 t,.slice a3 ps.length c3]:=q8
     clear q8
     rw [← ex3]
     clear ex3
     have nx3:=kn kx3
     have mX:=kn zx3
     refine hK.out _ _ trivial (fun _ => ?_)
     clear hK K
     (try simp only[Act.put,jA,jB,jC,jD,jE,jF])
     refine wpAnyH_done (by kernel_rfl) ?_ _
     go_wp2
     have F9:=own_sets q t zx3 R1x3 R2x3 R3x3 A1 A2 A3 bx3
     exact ret_blk (v:=.agg #[.slice a1 ws.length c1,.int .i64 q,.slice a2 ds.length c2,.int .i64 t,.slice a3 ps.length c3]) F9.1 (fun W' hc => by simp [results,Tryd.results24,go_sem,hc]) rfl ⟨a1,c1,a2,c2,a3,c3,rfl,F9.2⟩
    refine AllReadyH.cons rfl (fun K hK => ?_) AllReadyH.nil
    go_simp
    refine hK.out _ _ trivial (fun _ => ?_)
    clear hK K
    (try simp only[Act.put,jA,jB,jC,jD,jE,jF])
    refine jK (v:=?_) 11 ?_ ?_
    rotate_left;focus(intro W h;(try dsimp only at h);go_simp;(try with_reducible rfl));(try simp only[Act.put,jA,jB,jC,jD,jE,jF])
    refine jK (v:=?_) 12 ?_ ?_
    rotate_left;focus(intro W h;(try dsimp only at h);go_simp;(try with_reducible rfl));(try simp only[Act.put,jA,jB,jC,jD,jE,jF])
    refine jR 7 (fun K hK => ?_)
    go_simp
    go_at_call 52
    (with_reducible refine (G2.out _ bU1).mono ?_)
    rintro e U2 ⟨vv,rfl,ho,hB⟩
    obtain ⟨a2,c2,rfl,R2,_⟩:=srow_of_owns ic_len ho
    (try go_wp2_with fail)
    have A2 : upR (w.heap.size + 2) a2:=fun b off e => by subst e;have:=(ho.lt b rfl).1;have:=blk_lt zU1;omega
    have kU2:=blk_below hB kU1
    have zU2:=blk_below hB zU1
    have bU2:=bt bU1 hB
    have nU2:=kn kU2
    have R2U2:=Lib.hid R2
    clear R2 ho
    have R1U2:=Lib.hid (R1U1.out.below hB)
    clear hB
    refine hK.out _ _ trivial (fun _ => ?_)
    clear hK K
    (try simp only[Act.put,jA,jB,jC,jD,jE,jF])
    refine jR 10 (fun K hK => ?_)
    go_simp
    go_at_call 52
    (with_reducible refine (G3.out _ bU2).mono ?_)
    rintro e U3 ⟨vv,rfl,ho,hB⟩
    obtain ⟨a3,c3,rfl,R3,_⟩:=srow_of_owns ic_len ho
    (try go_wp2_with fail)
    have A3 : upR (w.heap.size + 2) a3:=fun b off e => by subst e;have:=(ho.lt b rfl).1;have:=blk_lt zU2;omega
    have kU3:=blk_below hB kU2
    have zU3:=blk_below hB zU2
    have bU3:=bt bU2 hB
    have nU3:=kn kU3
    have R3U3:=Lib.hid R3
    clear R3 ho
    have R1U3:=Lib.hid (R1U2.out.below hB)
    have R2U3:=Lib.hid (R2U2.out.below hB)
    clear hB
    refine hK.out _ _ trivial (fun _ => ?_)
    clear hK K
    (try simp only[Act.put,jA,jB,jC,jD,jE,jF])
    refine jR 13 (fun K hK => ?_)
    go_simp
    obtain ⟨x1,ex1⟩ : ∃ v,v = U3.setCell ⟨w.heap.size,0,none⟩ (.slice a1 ws.length c1):=⟨_,rfl⟩
    have q9:=own_set 0 (.slice a1 ws.length c1) kU3 zU3 bU3 A1 A2 A3 R1U3 R2U3 R3U3
    rw [← ex1] at q9
    obtain ⟨q8,zx1,bx1,R1x1,R2x1,R3x1⟩:=q9
    have kx1 : blk x1 w.heap.size = some #[.slice a1 ws.length c1,.int .i64 q,.slice ad ds.length cd,.int .i64 t,.slice ap ps.length cp]:=q8
    clear q8
    rw [← ex1]
    clear ex1
    have nx1:=kn kx1
    refine hK.out _ _ trivial (fun _ => ?_)
    clear hK K
    (try simp only[Act.put,jA,jB,jC,jD,jE,jF])
    refine jK (v:=?_) 14 ?_ ?_
    rotate_left;focus(intro W h;(try dsimp only at h);go_simp;(try with_reducible rfl));(try simp only[Act.put,jA,jB,jC,jD,jE,jF])
    refine jK (v:=?_) 15 ?_ ?_
    rotate_left;focus(intro W h;(try dsimp only at h);go_simp;(try with_reducible rfl));(try simp only[Act.put,jA,jB,jC,jD,jE,jF])
    refine jR 16 (fun K hK => ?_)
    go_simp
    obtain ⟨x2,ex2⟩ : ∃ v,v = x1.setCell ⟨w.heap.size,2,none⟩ (.slice a2 ds.length c2):=⟨_,rfl⟩
    have q9:=own_set 2 (.slice a2 ds.length c2) kx1 zx1 bx1 A1 A2 A3 R1x1 R2x1 R3x1
    rw [← ex2] at q9
    obtain ⟨q8,zx2,bx2,R1x2,R2x2,R3x2⟩:=q9
    have kx2 : blk x2 w.heap.size = some #[.slice a1 ws.length c1,.int .i64 q,.slice a2 ds.length c2,.int .i64 t,.slice ap ps.length cp]:=q8
    clear q8
    rw [← ex2]
    clear ex2
    have nx2:=kn kx2
    refine hK.out _ _ trivial (fun _ => ?_)
    clear hK K
    (try simp only[Act.put,jA,jB,jC,jD,jE,jF])
    refine jK (v:=?_) 17 ?_ ?_
    rotate_left;focus(intro W h;(try dsimp only at h);go_simp;(try with_reducible rfl));(try simp only[Act.put,jA,jB,jC,jD,jE,jF])
    refine jR 18 (fun K hK => ?_)
    go_simp
    obtain ⟨x3,ex3⟩ : ∃ v,v = x2.setCell ⟨w.heap.size,4,none⟩ (.slice a3 ps.length c3):=⟨_,rfl⟩
    have q9:=own_set 4 (.slice a3 ps.length c3) kx2 zx2 bx2 A1 A2 A3 R1x2 R2x2 R3x2
    rw [← ex3] at q9
    obtain ⟨q8,zx3,bx3,R1x3,R2x3,R3x3⟩:=q9
    have kx3 : blk x3 w.heap.size = some #[.slice a1 ws.length c1,.int .i64 q,.slice a2 ds.length c2,.int .i64 t,.slice a3 ps.length c3]:=q8
    clear q8
    rw [← ex3]
    clear ex3
    have nx3:=kn kx3
    have mX:=kn zx3
    refine hK.out _ _ trivial (fun _ => ?_)
    clear hK K
    (try simp only[Act.put,jA,jB,jC,jD,jE,jF])
    refine wpAnyH_done (by kernel_rfl) ?_ _
    go_wp2
    have F9:=own_sets q t zx3 R1x3 R2x3 R3x3 A1 A2 A3 bx3
    exact ret_blk (v:=.agg #[.slice a1 ws.length c1,.int .i64 q,.slice a2 ds.length c2,.int .i64 t,.slice a3 ps.length c3]) F9.1 (fun W' hc => by simp [results,Tryd.results24,go_sem,hc]) rfl ⟨a1,c1,a2,c2,a3,c3,rfl,F9.2⟩
   refine AllReadyH.cons rfl (fun K hK => ?_) AllReadyH.nil
   go_simp
   refine hK.out _ _ trivial (fun _ => ?_)
   clear hK K
   (try simp only[Act.put,jA,jB,jC,jD,jE,jF])
   refine jR 3 (fun K hK => ?_)
   go_simp
   go_at_call 52
   (with_reducible refine (G1.out _ bd0).mono ?_)
   rintro e U1 ⟨vv,rfl,ho,hB⟩
   obtain ⟨a1,c1,rfl,R1,_⟩:=srow_of_owns ic_len ho
   (try go_wp2_with fail)
   have A1 : upR (w.heap.size + 2) a1:=fun b off e => by subst e;have:=(ho.lt b rfl).1;have:=blk_lt zd0;omega
   have kU1:=blk_below hB kd0
   have zU1:=blk_below hB zd0
   have bU1:=bt bd0 hB
   have nU1:=kn kU1
   have R1U1:=Lib.hid R1
   clear R1 ho
   clear hB
   refine hK.out _ _ trivial (fun _ => ?_)
   clear hK K
   (try simp only[Act.put,jA,jB,jC,jD,jE,jF])
   refine jK (v:=?_) 11 ?_ ?_
   rotate_left;focus(intro W h;(try dsimp only at h);go_simp;(try with_reducible rfl));(try simp only[Act.put,jA,jB,jC,jD,jE,jF])
   refine jK (v:=?_) 12 ?_ ?_
   rotate_left;focus(intro W h;(try dsimp only at h);go_simp;(try with_reducible rfl));(try simp only[Act.put,jA,jB,jC,jD,jE,jF])
   refine jR 7 (fun K hK => ?_)
   go_simp
   go_at_call 52
   (with_reducible refine (G2.out _ bU1).mono ?_)
   rintro e U2 ⟨vv,rfl,ho,hB⟩
   obtain ⟨a2,c2,rfl,R2,_⟩:=srow_of_owns ic_len ho
   (try go_wp2_with fail)
   have A2 : upR (w.heap.size + 2) a2:=fun b off e => by subst e;have:=(ho.lt b rfl).1;have:=blk_lt zU1;omega
   have kU2:=blk_below hB kU1
   have zU2:=blk_below hB zU1
   have bU2:=bt bU1 hB
   have nU2:=kn kU2
   have R2U2:=Lib.hid R2
   clear R2 ho
   have R1U2:=Lib.hid (R1U1.out.below hB)
   clear hB
   refine hK.out _ _ trivial (fun _ => ?_)
   clear hK K
   (try simp only[Act.put,jA,jB,jC,jD,jE,jF])
   refine jR 10 (fun K hK => ?_)
   go_simp
   go_at_call 52
   (with_reducible refine (G3.out _ bU2).mono ?_)
   rintro e U3 ⟨vv,rfl,ho,hB⟩
   obtain ⟨a3,c3,rfl,R3,_⟩:=srow_of_owns ic_len ho
   (try go_wp2_with fail)
   have A3 : upR (w.heap.size + 2) a3:=fun b off e => by subst e;have:=(ho.lt b rfl).1;have:=blk_lt zU2;omega
   have kU3:=blk_below hB kU2
   have zU3:=blk_below hB zU2
   have bU3:=bt bU2 hB
   have nU3:=kn kU3
   have R3U3:=Lib.hid R3
   clear R3 ho
   have R1U3:=Lib.hid (R1U2.out.below hB)
   have R2U3:=Lib.hid (R2U2.out.below hB)
   clear hB
   refine hK.out _ _ trivial (fun _ => ?_)
   clear hK K
   (try simp only[Act.put,jA,jB,jC,jD,jE,jF])
   refine jR 13 (fun K hK => ?_)
   go_simp
   obtain ⟨x1,ex1⟩ : ∃ v,v = U3.setCell ⟨w.heap.size,0,none⟩ (.slice a1 ws.length c1):=⟨_,rfl⟩
   have q9:=own_set 0 (.slice a1 ws.length c1) kU3 zU3 bU3 A1 A2 A3 R1U3 R2U3 R3U3
   rw [← ex1] at q9
   obtain ⟨q8,zx1,bx1,R1x1,R2x1,R3x1⟩:=q9
   have kx1 : blk x1 w.heap.size = some #[.slice a1 ws.length c1,.int .i64 q,.slice ad ds.length cd,.int .i64 t,.slice ap ps.length cp]:=q8
   clear q8
   rw [← ex1]
   clear ex1
   have nx1:=kn kx1
   refine hK.out _ _ trivial (fun _ => ?_)
   clear hK K
   (try simp only[Act.put,jA,jB,jC,jD,jE,jF])
   refine jK (v:=?_) 14 ?_ ?_
   rotate_left;focus(intro W h;(try dsimp only at h);go_simp;(try with_reducible rfl));(try simp only[Act.put,jA,jB,jC,jD,jE,jF])
   refine jK (v:=?_) 15 ?_ ?_
   rotate_left;focus(intro W h;(try dsimp only at h);go_simp;(try with_reducible rfl));(try simp only[Act.put,jA,jB,jC,jD,jE,jF])
   refine jR 16 (fun K hK => ?_)
   go_simp
   obtain ⟨x2,ex2⟩ : ∃ v,v = x1.setCell ⟨w.heap.size,2,none⟩ (.slice a2 ds.length c2):=⟨_,rfl⟩
   have q9:=own_set 2 (.slice a2 ds.length c2) kx1 zx1 bx1 A1 A2 A3 R1x1 R2x1 R3x1
   rw [← ex2] at q9
   obtain ⟨q8,zx2,bx2,R1x2,R2x2,R3x2⟩:=q9
   have kx2 : blk x2 w.heap.size = some #[.slice a1 ws.length c1,.int .i64 q,.slice a2 ds.length c2,.int .i64 t,.slice ap ps.length cp]:=q8
   clear q8
   rw [← ex2]
   clear ex2
   have nx2:=kn kx2
   refine hK.out _ _ trivial (fun _ => ?_)
   clear hK K
   (try simp only[Act.put,jA,jB,jC,jD,jE,jF])
   refine jK (v:=?_) 17 ?_ ?_
   rotate_left;focus(intro W h;(try dsimp only at h);go_simp;(try with_reducible rfl));(try simp only[Act.put,jA,jB,jC,jD,jE,jF])
   refine jR 18 (fun K hK => ?_)
   go_simp
   obtain ⟨x3,ex3⟩ : ∃ v,v = x2.setCell ⟨w.heap.size,4,none⟩ (.slice a3 ps.length c3):=⟨_,rfl⟩
   have q9:=own_set 4 (.slice a3 ps.length c3) kx2 zx2 bx2 A1 A2 A3 R1x2 R2x2 R3x2
   rw [← ex3] at q9
   obtain ⟨q8,zx3,bx3,R1x3,R2x3,R3x3⟩:=q9
   have kx3 : blk x3 w.heap.size = some #[.slice a1 ws.length c1,.int .i64 q,.slice a2 ds.length c2,.int .i64 t,.slice a3 ps.length c3]:=q8
   clear q8
   rw [← ex3]
   clear ex3
   have nx3:=kn kx3
   have mX:=kn zx3
   refine hK.out _ _ trivial (fun _ => ?_)
   clear hK K
   (try simp only[Act.put,jA,jB,jC,jD,jE,jF])
   refine wpAnyH_done (by kernel_rfl) ?_ _
   go_wp2
   have F9:=own_sets q t zx3 R1x3 R2x3 R3x3 A1 A2 A3 bx3
   exact ret_blk (v:=.agg #[.slice a1 ws.length c1,.int .i64 q,.slice a2 ds.length c2,.int .i64 t,.slice a3 ps.length c3]) F9.1 (fun W' hc => by simp [results,Tryd.results24,go_sem,hc]) rfl ⟨a1,c1,a2,c2,a3,c3,rfl,F9.2⟩
  refine AllReadyH.cons rfl (fun K hK => ?_) AllReadyH.nil
  go_simp
  refine hK.out _ _ trivial (fun _ => ?_)
  clear hK K
  (try simp only[Act.put,jA,jB,jC,jD,jE,jF])
  refine jR 2 (fun K hK => ?_)
  go_simp
  refine hK.out _ _ trivial (fun _ => ?_)
  clear hK K
  (try simp only[Act.put,jA,jB,jC,jD,jE,jF])
  refine jR 3 (fun K hK => ?_)
  go_simp
  go_at_call 52
  (with_reducible refine (G1.out _ bd0).mono ?_)
  rintro e U1 ⟨vv,rfl,ho,hB⟩
  obtain ⟨a1,c1,rfl,R1,_⟩:=srow_of_owns ic_len ho
  (try go_wp2_with fail)
  have A1 : upR (w.heap.size + 2) a1:=fun b off e => by subst e;have:=(ho.lt b rfl).1;have:=blk_lt zd0;omega
  have kU1:=blk_below hB kd0
  have zU1:=blk_below hB zd0
  have bU1:=bt bd0 hB
  have nU1:=kn kU1
  have R1U1:=Lib.hid R1
  clear R1 ho
  clear hB
  refine hK.out _ _ trivial (fun _ => ?_)
  clear hK K
  (try simp only[Act.put,jA,jB,jC,jD,jE,jF])
  refine jK (v:=?_) 11 ?_ ?_
  rotate_left;focus(intro W h;(try dsimp only at h);go_simp;(try with_reducible rfl));(try simp only[Act.put,jA,jB,jC,jD,jE,jF])
  refine jK (v:=?_) 12 ?_ ?_
  rotate_left;focus(intro W h;(try dsimp only at h);go_simp;(try with_reducible rfl));(try simp only[Act.put,jA,jB,jC,jD,jE,jF])
  refine jR 7 (fun K hK => ?_)
  go_simp
  go_at_call 52
  (with_reducible refine (G2.out _ bU1).mono ?_)
  rintro e U2 ⟨vv,rfl,ho,hB⟩
  obtain ⟨a2,c2,rfl,R2,_⟩:=srow_of_owns ic_len ho
  (try go_wp2_with fail)
  have A2 : upR (w.heap.size + 2) a2:=fun b off e => by subst e;have:=(ho.lt b rfl).1;have:=blk_lt zU1;omega
  have kU2:=blk_below hB kU1
  have zU2:=blk_below hB zU1
  have bU2:=bt bU1 hB
  have nU2:=kn kU2
  have R2U2:=Lib.hid R2
  clear R2 ho
  have R1U2:=Lib.hid (R1U1.out.below hB)
  clear hB
  refine hK.out _ _ trivial (fun _ => ?_)
  clear hK K
  (try simp only[Act.put,jA,jB,jC,jD,jE,jF])
  refine jR 10 (fun K hK => ?_)
  go_simp
  go_at_call 52
  (with_reducible refine (G3.out _ bU2).mono ?_)
  rintro e U3 ⟨vv,rfl,ho,hB⟩
  obtain ⟨a3,c3,rfl,R3,_⟩:=srow_of_owns ic_len ho
  (try go_wp2_with fail)
  have A3 : upR (w.heap.size + 2) a3:=fun b off e => by subst e;have:=(ho.lt b rfl).1;have:=blk_lt zU2;omega
  have kU3:=blk_below hB kU2
  have zU3:=blk_below hB zU2
  have bU3:=bt bU2 hB
  have nU3:=kn kU3
  have R3U3:=Lib.hid R3
  clear R3 ho
  have R1U3:=Lib.hid (R1U2.out.below hB)
  have R2U3:=Lib.hid (R2U2.out.below hB)
  clear hB
  refine hK.out _ _ trivial (fun _ => ?_)
  clear hK K
  (try simp only[Act.put,jA,jB,jC,jD,jE,jF])
  refine jR 13 (fun K hK => ?_)
  go_simp
  obtain ⟨x1,ex1⟩ : ∃ v,v = U3.setCell ⟨w.heap.size,0,none⟩ (.slice a1 ws.length c1):=⟨_,rfl⟩
  have q9:=own_set 0 (.slice a1 ws.length c1) kU3 zU3 bU3 A1 A2 A3 R1U3 R2U3 R3U3
  rw [← ex1] at q9
  obtain ⟨q8,zx1,bx1,R1x1,R2x1,R3x1⟩:=q9
  have kx1 : blk x1 w.heap.size = some #[.slice a1 ws.length c1,.int .i64 q,.slice ad ds.length cd,.int .i64 t,.slice ap ps.length cp]:=q8
  clear q8
  rw [← ex1]
  clear ex1
  have nx1:=kn kx1
  refine hK.out _ _ trivial (fun _ => ?_)
  clear hK K
  (try simp only[Act.put,jA,jB,jC,jD,jE,jF])
  refine jK (v:=?_) 14 ?_ ?_
  rotate_left;focus(intro W h;(try dsimp only at h);go_simp;(try with_reducible rfl));(try simp only[Act.put,jA,jB,jC,jD,jE,jF])
  refine jK (v:=?_) 15 ?_ ?_
  rotate_left;focus(intro W h;(try dsimp only at h);go_simp;(try with_reducible rfl));(try simp only[Act.put,jA,jB,jC,jD,jE,jF])
  refine jR 16 (fun K hK => ?_)
  go_simp
  obtain ⟨x2,ex2⟩ : ∃ v,v = x1.setCell ⟨w.heap.size,2,none⟩ (.slice a2 ds.length c2):=⟨_,rfl⟩
  have q9:=own_set 2 (.slice a2 ds.length c2) kx1 zx1 bx1 A1 A2 A3 R1x1 R2x1 R3x1
  rw [← ex2] at q9
  obtain ⟨q8,zx2,bx2,R1x2,R2x2,R3x2⟩:=q9
  have kx2 : blk x2 w.heap.size = some #[.slice a1 ws.length c1,.int .i64 q,.slice a2 ds.length c2,.int .i64 t,.slice ap ps.length cp]:=q8
  clear q8
  rw [← ex2]
  clear ex2
  have nx2:=kn kx2
  refine hK.out _ _ trivial (fun _ => ?_)
  clear hK K
  (try simp only[Act.put,jA,jB,jC,jD,jE,jF])
  refine jK (v:=?_) 17 ?_ ?_
  rotate_left;focus(intro W h;(try dsimp only at h);go_simp;(try with_reducible rfl));(try simp only[Act.put,jA,jB,jC,jD,jE,jF])
  refine jR 18 (fun K hK => ?_)
  go_simp
  obtain ⟨x3,ex3⟩ : ∃ v,v = x2.setCell ⟨w.heap.size,4,none⟩ (.slice a3 ps.length c3):=⟨_,rfl⟩
  have q9:=own_set 4 (.slice a3 ps.length c3) kx2 zx2 bx2 A1 A2 A3 R1x2 R2x2 R3x2
  rw [← ex3] at q9
  obtain ⟨q8,zx3,bx3,R1x3,R2x3,R3x3⟩:=q9
  have kx3 : blk x3 w.heap.size = some #[.slice a1 ws.length c1,.int .i64 q,.slice a2 ds.length c2,.int .i64 t,.slice a3 ps.length c3]:=q8
  clear q8
  rw [← ex3]
  clear ex3
  have nx3:=kn kx3
  have mX:=kn zx3
  refine hK.out _ _ trivial (fun _ => ?_)
  clear hK K
  (try simp only[Act.put,jA,jB,jC,jD,jE,jF])
  refine wpAnyH_done (by kernel_rfl) ?_ _
  go_wp2
  have F9:=own_sets q t zx3 R1x3 R2x3 R3x3 A1 A2 A3 bx3
  exact ret_blk (v:=.agg #[.slice a1 ws.length c1,.int .i64 q,.slice a2 ds.length c2,.int .i64 t,.slice a3 ps.length c3]) F9.1 (fun W' hc => by simp [results,Tryd.results24,go_sem,hc]) rfl ⟨a1,c1,a2,c2,a3,c3,rfl,F9.2⟩
 refine AllReadyH.cons rfl (fun K hK => ?_) AllReadyH.nil
 go_simp
 refine hK.out _ _ trivial (fun _ => ?_)
 clear hK K
 (try simp only[Act.put,jA,jB,jC,jD,jE,jF])
 refine wpAnyH_ready (rs:=[2,6]) (by kernel_rfl) (by simp) ?_
 refine AllReadyH.cons rfl (fun K hK => ?_) ?_
 ·skip
  go_simp
  refine hK.out _ _ trivial (fun _ => ?_)
  clear hK K
  (try simp only[Act.put,jA,jB,jC,jD,jE,jF])
  refine wpAnyH_ready (rs:=[3,6]) (by kernel_rfl) (by simp) ?_
  refine AllReadyH.cons rfl (fun K hK => ?_) ?_
  ·skip
   go_simp
   go_at_call 52
   (with_reducible refine (G1.out _ bd0).mono ?_)
   rintro e U1 ⟨vv,rfl,ho,hB⟩
   obtain ⟨a1,c1,rfl,R1,_⟩:=srow_of_owns ic_len ho
   (try go_wp2_with fail)
   have A1 : upR (w.heap.size + 2) a1:=fun b off e => by subst e;have:=(ho.lt b rfl).1;have:=blk_lt zd0;omega
   have kU1:=blk_below hB kd0
   have zU1:=blk_below hB zd0
   have bU1:=bt bd0 hB
   have nU1:=kn kU1
   have R1U1:=Lib.hid R1
   clear R1 ho
   clear hB
   refine hK.out _ _ trivial (fun _ => ?_)
   clear hK K
   (try simp only[Act.put,jA,jB,jC,jD,jE,jF])
   refine jR 6 (fun K hK => ?_)
   go_simp
   refine hK.out _ _ trivial (fun _ => ?_)
   clear hK K
   (try simp only[Act.put,jA,jB,jC,jD,jE,jF])
   refine jK (v:=?_) 11 ?_ ?_
   rotate_left;focus(intro W h;(try dsimp only at h);go_simp;(try with_reducible rfl));(try simp only[Act.put,jA,jB,jC,jD,jE,jF])
   refine jK (v:=?_) 12 ?_ ?_
   rotate_left;focus(intro W h;(try dsimp only at h);go_simp;(try with_reducible rfl));(try simp only[Act.put,jA,jB,jC,jD,jE,jF])
   refine jR 7 (fun K hK => ?_)
   go_simp
   go_at_call 52
   (with_reducible refine (G2.out _ bU1).mono ?_)
   rintro e U2 ⟨vv,rfl,ho,hB⟩
   obtain ⟨a2,c2,rfl,R2,_⟩:=srow_of_owns ic_len ho
   (try go_wp2_with fail)
   have A2 : upR (w.heap.size + 2) a2:=fun b off e => by subst e;have:=(ho.lt b rfl).1;have:=blk_lt zU1;omega
   have kU2:=blk_below hB kU1
   have zU2:=blk_below hB zU1
   have bU2:=bt bU1 hB
   have nU2:=kn kU2
   have R2U2:=Lib.hid R2
   clear R2 ho
   have R1U2:=Lib.hid (R1U1.out.below hB)
   clear hB
   refine hK.out _ _ trivial (fun _ => ?_)
   clear hK K
   (try simp only[Act.put,jA,jB,jC,jD,jE,jF])
   refine jR 10 (fun K hK => ?_)
   go_simp
   go_at_call 52
   (with_reducible refine (G3.out _ bU2).mono ?_)
   rintro e U3 ⟨vv,rfl,ho,hB⟩
   obtain ⟨a3,c3,rfl,R3,_⟩:=srow_of_owns ic_len ho
   (try go_wp2_with fail)
   have A3 : upR (w.heap.size + 2) a3:=fun b off e => by subst e;have:=(ho.lt b rfl).1;have:=blk_lt zU2;omega
   have kU3:=blk_below hB kU2
   have zU3:=blk_below hB zU2
   have bU3:=bt bU2 hB
   have nU3:=kn kU3
   have R3U3:=Lib.hid R3
   clear R3 ho
   have R1U3:=Lib.hid (R1U2.out.below hB)
   have R2U3:=Lib.hid (R2U2.out.below hB)
   clear hB
   refine hK.out _ _ trivial (fun _ => ?_)
   clear hK K
   (try simp only[Act.put,jA,jB,jC,jD,jE,jF])
   refine jR 13 (fun K hK => ?_)
   go_simp
   obtain ⟨x1,ex1⟩ : ∃ v,v = U3.setCell ⟨w.heap.size,0,none⟩ (.slice a1 ws.length c1):=⟨_,rfl⟩
   have q9:=own_set 0 (.slice a1 ws.length c1) kU3 zU3 bU3 A1 A2 A3 R1U3 R2U3 R3U3
   rw [← ex1] at q9
   obtain ⟨q8,zx1,bx1,R1x1,R2x1,R3x1⟩:=q9
   have kx1 : blk x1 w.heap.size = some #[.slice a1 ws.length c1,.int .i64 q,.slice ad ds.length cd,.int .i64 t,.slice ap ps.length cp]:=q8
   clear q8
   rw [← ex1]
   clear ex1
   have nx1:=kn kx1
   refine hK.out _ _ trivial (fun _ => ?_)
   clear hK K
   (try simp only[Act.put,jA,jB,jC,jD,jE,jF])
   refine jK (v:=?_) 14 ?_ ?_
   rotate_left;focus(intro W h;(try dsimp only at h);go_simp;(try with_reducible rfl));(try simp only[Act.put,jA,jB,jC,jD,jE,jF])
   refine jK (v:=?_) 15 ?_ ?_
   rotate_left;focus(intro W h;(try dsimp only at h);go_simp;(try with_reducible rfl));(try simp only[Act.put,jA,jB,jC,jD,jE,jF])
   refine jR 16 (fun K hK => ?_)
   go_simp
   obtain ⟨x2,ex2⟩ : ∃ v,v = x1.setCell ⟨w.heap.size,2,none⟩ (.slice a2 ds.length c2):=⟨_,rfl⟩
   have q9:=own_set 2 (.slice a2 ds.length c2) kx1 zx1 bx1 A1 A2 A3 R1x1 R2x1 R3x1
   rw [← ex2] at q9
   obtain ⟨q8,zx2,bx2,R1x2,R2x2,R3x2⟩:=q9
   have kx2 : blk x2 w.heap.size = some #[.slice a1 ws.length c1,.int .i64 q,.slice a2 ds.length c2,.int .i64 t,.slice ap ps.length cp]:=q8
   clear q8
   rw [← ex2]
   clear ex2
   have nx2:=kn kx2
   refine hK.out _ _ trivial (fun _ => ?_)
   clear hK K
   (try simp only[Act.put,jA,jB,jC,jD,jE,jF])
   refine jK (v:=?_) 17 ?_ ?_
   rotate_left;focus(intro W h;(try dsimp only at h);go_simp;(try with_reducible rfl));(try simp only[Act.put,jA,jB,jC,jD,jE,jF])
   refine jR 18 (fun K hK => ?_)
   go_simp
   obtain ⟨x3,ex3⟩ : ∃ v,v = x2.setCell ⟨w.heap.size,4,none⟩ (.slice a3 ps.length c3):=⟨_,rfl⟩
   have q9:=own_set 4 (.slice a3 ps.length c3) kx2 zx2 bx2 A1 A2 A3 R1x2 R2x2 R3x2
   rw [← ex3] at q9
   obtain ⟨q8,zx3,bx3,R1x3,R2x3,R3x3⟩:=q9
   have kx3 : blk x3 w.heap.size = some #[.slice a1 ws.length c1,.int .i64 q,.slice a2 ds.length c2,.int .i64 t,.slice a3 ps.length c3]:=q8
   clear q8
   rw [← ex3]
   clear ex3
   have nx3:=kn kx3
   have mX:=kn zx3
   refine hK.out _ _ trivial (fun _ => ?_)
   clear hK K
   (try simp only[Act.put,jA,jB,jC,jD,jE,jF])
   refine wpAnyH_done (by kernel_rfl) ?_ _
   go_wp2
   have F9:=own_sets q t zx3 R1x3 R2x3 R3x3 A1 A2 A3 bx3
   exact ret_blk (v:=.agg #[.slice a1 ws.length c1,.int .i64 q,.slice a2 ds.length c2,.int .i64 t,.slice a3 ps.length c3]) F9.1 (fun W' hc => by simp [results,Tryd.results24,go_sem,hc]) rfl ⟨a1,c1,a2,c2,a3,c3,rfl,F9.2⟩
  refine AllReadyH.cons rfl (fun K hK => ?_) AllReadyH.nil
  go_simp
  refine hK.out _ _ trivial (fun _ => ?_)
  clear hK K
  (try simp only[Act.put,jA,jB,jC,jD,jE,jF])
  refine jR 3 (fun K hK => ?_)
  go_simp
  go_at_call 52
  (with_reducible refine (G1.out _ bd0).mono ?_)
  rintro e U1 ⟨vv,rfl,ho,hB⟩
  obtain ⟨a1,c1,rfl,R1,_⟩:=srow_of_owns ic_len ho
  (try go_wp2_with fail)
  have A1 : upR (w.heap.size + 2) a1:=fun b off e => by subst e;have:=(ho.lt b rfl).1;have:=blk_lt zd0;omega
  have kU1:=blk_below hB kd0
  have zU1:=blk_below hB zd0
  have bU1:=bt bd0 hB
  have nU1:=kn kU1
  have R1U1:=Lib.hid R1
  clear R1 ho
  clear hB
  refine hK.out _ _ trivial (fun _ => ?_)
  clear hK K
  (try simp only[Act.put,jA,jB,jC,jD,jE,jF])
  refine jK (v:=?_) 11 ?_ ?_
  rotate_left;focus(intro W h;(try dsimp only at h);go_simp;(try with_reducible rfl));(try simp only[Act.put,jA,jB,jC,jD,jE,jF])
  refine jK (v:=?_) 12 ?_ ?_
  rotate_left;focus(intro W h;(try dsimp only at h);go_simp;(try with_reducible rfl));(try simp only[Act.put,jA,jB,jC,jD,jE,jF])
  refine jR 7 (fun K hK => ?_)
  go_simp
  go_at_call 52
  (with_reducible refine (G2.out _ bU1).mono ?_)
  rintro e U2 ⟨vv,rfl,ho,hB⟩
  obtain ⟨a2,c2,rfl,R2,_⟩:=srow_of_owns ic_len ho
  (try go_wp2_with fail)
  have A2 : upR (w.heap.size + 2) a2:=fun b off e => by subst e;have:=(ho.lt b rfl).1;have:=blk_lt zU1;omega
  have kU2:=blk_below hB kU1
  have zU2:=blk_below hB zU1
  have bU2:=bt bU1 hB
  have nU2:=kn kU2
  have R2U2:=Lib.hid R2
  clear R2 ho
  have R1U2:=Lib.hid (R1U1.out.below hB)
  clear hB
  refine hK.out _ _ trivial (fun _ => ?_)
  clear hK K
  (try simp only[Act.put,jA,jB,jC,jD,jE,jF])
  refine jR 10 (fun K hK => ?_)
  go_simp
  go_at_call 52
  (with_reducible refine (G3.out _ bU2).mono ?_)
  rintro e U3 ⟨vv,rfl,ho,hB⟩
  obtain ⟨a3,c3,rfl,R3,_⟩:=srow_of_owns ic_len ho
  (try go_wp2_with fail)
  have A3 : upR (w.heap.size + 2) a3:=fun b off e => by subst e;have:=(ho.lt b rfl).1;have:=blk_lt zU2;omega
  have kU3:=blk_below hB kU2
  have zU3:=blk_below hB zU2
  have bU3:=bt bU2 hB
  have nU3:=kn kU3
  have R3U3:=Lib.hid R3
  clear R3 ho
  have R1U3:=Lib.hid (R1U2.out.below hB)
  have R2U3:=Lib.hid (R2U2.out.below hB)
  clear hB
  refine hK.out _ _ trivial (fun _ => ?_)
  clear hK K
  (try simp only[Act.put,jA,jB,jC,jD,jE,jF])
  refine jR 13 (fun K hK => ?_)
  go_simp
  obtain ⟨x1,ex1⟩ : ∃ v,v = U3.setCell ⟨w.heap.size,0,none⟩ (.slice a1 ws.length c1):=⟨_,rfl⟩
  have q9:=own_set 0 (.slice a1 ws.length c1) kU3 zU3 bU3 A1 A2 A3 R1U3 R2U3 R3U3
  rw [← ex1] at q9
  obtain ⟨q8,zx1,bx1,R1x1,R2x1,R3x1⟩:=q9
  have kx1 : blk x1 w.heap.size = some #[.slice a1 ws.length c1,.int .i64 q,.slice ad ds.length cd,.int .i64 t,.slice ap ps.length cp]:=q8
  clear q8
  rw [← ex1]
  clear ex1
  have nx1:=kn kx1
  refine hK.out _ _ trivial (fun _ => ?_)
  clear hK K
  (try simp only[Act.put,jA,jB,jC,jD,jE,jF])
  refine jK (v:=?_) 14 ?_ ?_
  rotate_left;focus(intro W h;(try dsimp only at h);go_simp;(try with_reducible rfl));(try simp only[Act.put,jA,jB,jC,jD,jE,jF])
  refine jK (v:=?_) 15 ?_ ?_
  rotate_left;focus(intro W h;(try dsimp only at h);go_simp;(try with_reducible rfl));(try simp only[Act.put,jA,jB,jC,jD,jE,jF])
  refine jR 16 (fun K hK => ?_)
  go_simp
  obtain ⟨x2,ex2⟩ : ∃ v,v = x1.setCell ⟨w.heap.size,2,none⟩ (.slice a2 ds.length c2):=⟨_,rfl⟩
  have q9:=own_set 2 (.slice a2 ds.length c2) kx1 zx1 bx1 A1 A2 A3 R1x1 R2x1 R3x1
  rw [← ex2] at q9
  obtain ⟨q8,zx2,bx2,R1x2,R2x2,R3x2⟩:=q9
  have kx2 : blk x2 w.heap.size = some #[.slice a1 ws.length c1,.int .i64 q,.slice a2 ds.length c2,.int .i64 t,.slice ap ps.length cp]:=q8
  clear q8
  rw [← ex2]
  clear ex2
  have nx2:=kn kx2
  refine hK.out _ _ trivial (fun _ => ?_)
  clear hK K
  (try simp only[Act.put,jA,jB,jC,jD,jE,jF])
  refine jK (v:=?_) 17 ?_ ?_
  rotate_left;focus(intro W h;(try dsimp only at h);go_simp;(try with_reducible rfl));(try simp only[Act.put,jA,jB,jC,jD,jE,jF])
  refine jR 18 (fun K hK => ?_)
  go_simp
  obtain ⟨x3,ex3⟩ : ∃ v,v = x2.setCell ⟨w.heap.size,4,none⟩ (.slice a3 ps.length c3):=⟨_,rfl⟩
  have q9:=own_set 4 (.slice a3 ps.length c3) kx2 zx2 bx2 A1 A2 A3 R1x2 R2x2 R3x2
  rw [← ex3] at q9
  obtain ⟨q8,zx3,bx3,R1x3,R2x3,R3x3⟩:=q9
  have kx3 : blk x3 w.heap.size = some #[.slice a1 ws.length c1,.int .i64 q,.slice a2 ds.length c2,.int .i64 t,.slice a3 ps.length c3]:=q8
  clear q8
  rw [← ex3]
  clear ex3
  have nx3:=kn kx3
  have mX:=kn zx3
  refine hK.out _ _ trivial (fun _ => ?_)
  clear hK K
  (try simp only[Act.put,jA,jB,jC,jD,jE,jF])
  refine wpAnyH_done (by kernel_rfl) ?_ _
  go_wp2
  have F9:=own_sets q t zx3 R1x3 R2x3 R3x3 A1 A2 A3 bx3
  exact ret_blk (v:=.agg #[.slice a1 ws.length c1,.int .i64 q,.slice a2 ds.length c2,.int .i64 t,.slice a3 ps.length c3]) F9.1 (fun W' hc => by simp [results,Tryd.results24,go_sem,hc]) rfl ⟨a1,c1,a2,c2,a3,c3,rfl,F9.2⟩
 refine AllReadyH.cons rfl (fun K hK => ?_) AllReadyH.nil
 go_simp
 refine hK.out _ _ trivial (fun _ => ?_)
 clear hK K
 (try simp only[Act.put,jA,jB,jC,jD,jE,jF])
 refine jR 2 (fun K hK => ?_)
 go_simp
 refine hK.out _ _ trivial (fun _ => ?_)
 clear hK K
 (try simp only[Act.put,jA,jB,jC,jD,jE,jF])
 refine jR 3 (fun K hK => ?_)
 go_simp
 go_at_call 52
 (with_reducible refine (G1.out _ bd0).mono ?_)
 rintro e U1 ⟨vv,rfl,ho,hB⟩
 obtain ⟨a1,c1,rfl,R1,_⟩:=srow_of_owns ic_len ho
 (try go_wp2_with fail)
 have A1 : upR (w.heap.size + 2) a1:=fun b off e => by subst e;have:=(ho.lt b rfl).1;have:=blk_lt zd0;omega
 have kU1:=blk_below hB kd0
 have zU1:=blk_below hB zd0
 have bU1:=bt bd0 hB
 have nU1:=kn kU1
 have R1U1:=Lib.hid R1
 clear R1 ho
 clear hB
 refine hK.out _ _ trivial (fun _ => ?_)
 clear hK K
 (try simp only[Act.put,jA,jB,jC,jD,jE,jF])
 refine jK (v:=?_) 11 ?_ ?_
 rotate_left;focus(intro W h;(try dsimp only at h);go_simp;(try with_reducible rfl));(try simp only[Act.put,jA,jB,jC,jD,jE,jF])
 refine jK (v:=?_) 12 ?_ ?_
 rotate_left;focus(intro W h;(try dsimp only at h);go_simp;(try with_reducible rfl));(try simp only[Act.put,jA,jB,jC,jD,jE,jF])
 refine jR 7 (fun K hK => ?_)
 go_simp
 go_at_call 52
 (with_reducible refine (G2.out _ bU1).mono ?_)
 rintro e U2 ⟨vv,rfl,ho,hB⟩
 obtain ⟨a2,c2,rfl,R2,_⟩:=srow_of_owns ic_len ho
 (try go_wp2_with fail)
 have A2 : upR (w.heap.size + 2) a2:=fun b off e => by subst e;have:=(ho.lt b rfl).1;have:=blk_lt zU1;omega
 have kU2:=blk_below hB kU1
 have zU2:=blk_below hB zU1
 have bU2:=bt bU1 hB
 have nU2:=kn kU2
 have R2U2:=Lib.hid R2
 clear R2 ho
 have R1U2:=Lib.hid (R1U1.out.below hB)
 clear hB
 refine hK.out _ _ trivial (fun _ => ?_)
 clear hK K
 (try simp only[Act.put,jA,jB,jC,jD,jE,jF])
 refine jR 10 (fun K hK => ?_)
 go_simp
 go_at_call 52
 (with_reducible refine (G3.out _ bU2).mono ?_)
 rintro e U3 ⟨vv,rfl,ho,hB⟩
 obtain ⟨a3,c3,rfl,R3,_⟩:=srow_of_owns ic_len ho
 (try go_wp2_with fail)
 have A3 : upR (w.heap.size + 2) a3:=fun b off e => by subst e;have:=(ho.lt b rfl).1;have:=blk_lt zU2;omega
 have kU3:=blk_below hB kU2
 have zU3:=blk_below hB zU2
 have bU3:=bt bU2 hB
 have nU3:=kn kU3
 have R3U3:=Lib.hid R3
 clear R3 ho
 have R1U3:=Lib.hid (R1U2.out.below hB)
 have R2U3:=Lib.hid (R2U2.out.below hB)
 clear hB
 refine hK.out _ _ trivial (fun _ => ?_)
 clear hK K
 (try simp only[Act.put,jA,jB,jC,jD,jE,jF])
 refine jR 13 (fun K hK => ?_)
 go_simp
 obtain ⟨x1,ex1⟩ : ∃ v,v = U3.setCell ⟨w.heap.size,0,none⟩ (.slice a1 ws.length c1):=⟨_,rfl⟩
 have q9:=own_set 0 (.slice a1 ws.length c1) kU3 zU3 bU3 A1 A2 A3 R1U3 R2U3 R3U3
 rw [← ex1] at q9
 obtain ⟨q8,zx1,bx1,R1x1,R2x1,R3x1⟩:=q9
 have kx1 : blk x1 w.heap.size = some #[.slice a1 ws.length c1,.int .i64 q,.slice ad ds.length cd,.int .i64 t,.slice ap ps.length cp]:=q8
 clear q8
 rw [← ex1]
 clear ex1
 have nx1:=kn kx1
 refine hK.out _ _ trivial (fun _ => ?_)
 clear hK K
 (try simp only[Act.put,jA,jB,jC,jD,jE,jF])
 refine jK (v:=?_) 14 ?_ ?_
 rotate_left;focus(intro W h;(try dsimp only at h);go_simp;(try with_reducible rfl));(try simp only[Act.put,jA,jB,jC,jD,jE,jF])
 refine jK (v:=?_) 15 ?_ ?_
 rotate_left;focus(intro W h;(try dsimp only at h);go_simp;(try with_reducible rfl));(try simp only[Act.put,jA,jB,jC,jD,jE,jF])
 refine jR 16 (fun K hK => ?_)
 go_simp
 obtain ⟨x2,ex2⟩ : ∃ v,v = x1.setCell ⟨w.heap.size,2,none⟩ (.slice a2 ds.length c2):=⟨_,rfl⟩
 have q9:=own_set 2 (.slice a2 ds.length c2) kx1 zx1 bx1 A1 A2 A3 R1x1 R2x1 R3x1
 rw [← ex2] at q9
 obtain ⟨q8,zx2,bx2,R1x2,R2x2,R3x2⟩:=q9
 have kx2 : blk x2 w.heap.size = some #[.slice a1 ws.length c1,.int .i64 q,.slice a2 ds.length c2,.int .i64 t,.slice ap ps.length cp]:=q8
 clear q8
 rw [← ex2]
 clear ex2
 have nx2:=kn kx2
 refine hK.out _ _ trivial (fun _ => ?_)
 clear hK K
 (try simp only[Act.put,jA,jB,jC,jD,jE,jF])
 refine jK (v:=?_) 17 ?_ ?_
 rotate_left;focus(intro W h;(try dsimp only at h);go_simp;(try with_reducible rfl));(try simp only[Act.put,jA,jB,jC,jD,jE,jF])
 refine jR 18 (fun K hK => ?_)
 go_simp
 obtain ⟨x3,ex3⟩ : ∃ v,v = x2.setCell ⟨w.heap.size,4,none⟩ (.slice a3 ps.length c3):=⟨_,rfl⟩
 have q9:=own_set 4 (.slice a3 ps.length c3) kx2 zx2 bx2 A1 A2 A3 R1x2 R2x2 R3x2
 rw [← ex3] at q9
 obtain ⟨q8,zx3,bx3,R1x3,R2x3,R3x3⟩:=q9
 have kx3 : blk x3 w.heap.size = some #[.slice a1 ws.length c1,.int .i64 q,.slice a2 ds.length c2,.int .i64 t,.slice a3 ps.length c3]:=q8
 clear q8
 rw [← ex3]
 clear ex3
 have nx3:=kn kx3
 have mX:=kn zx3
 refine hK.out _ _ trivial (fun _ => ?_)
 clear hK K
 (try simp only[Act.put,jA,jB,jC,jD,jE,jF])
 refine wpAnyH_done (by kernel_rfl) ?_ _
 go_wp2
 have F9:=own_sets q t zx3 R1x3 R2x3 R3x3 A1 A2 A3 bx3
 exact ret_blk (v:=.agg #[.slice a1 ws.length c1,.int .i64 q,.slice a2 ds.length c2,.int .i64 t,.slice a3 ps.length c3]) F9.1 (fun W' hc => by simp [results,Tryd.results24,go_sem,hc]) rfl ⟨a1,c1,a2,c2,a3,c3,rfl,F9.2⟩
end Go.Proofs.YtkaehoihpgelnaaDoor
