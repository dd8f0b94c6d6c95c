/- Parts of a proof, printed by a program of mine out of my texts: EgInt, EgSame. -/
import Derived.OrdersHeld
import Derived.Deep.RegionHeld
import Derived.Deep.Cut
import Derived.Test.YtkaehoihpgelnaaDoorCA
import Derived.Test.YtkaehoihpgelnaaDoorCU
set_option linter.unusedSimpArgs false
set_option linter.unusedVariables false
set_option maxRecDepth 100000
namespace Go.Proofs.YtkaehoihpgelnaaDoor
open Go.RowKit
def ic (n : Int) : List Value:=[.int .i64 n]
theorem ic_len (n : Int) : (ic n).length = 1:=rfl
theorem ic_one (n : Int) : ∀ u ∈ ic n,u.oneCell' = true:=by
  intro u hu
  simp only [ic,List.mem_cons,List.not_mem_nil,or_false] at hu
  subst hu;rfl
theorem rowC_ic (l : List Int) : rowC ic l = l.map (.int .i64 ·):=by
  induction l with
  | nil => rfl
  | cons x l ih => simp only [rowC,List.flatMap_cons,List.map_cons] at ih ⊢;rw [ih];rfl
theorem blk_cellI {w : World} {g : Nat} {M : List Int} {sp : List Value} {k : Nat} {x : Int} (h : M[k]? = some x) (hb : blk w g = some (rowC ic M ++ sp).toArray) : w.cell? ⟨g,k,none⟩ = some (.int .i64 x):=by
  obtain ⟨hk,hx⟩:=List.getElem?_eq_some_iff.1 h
  rw [blk_cell hb]
  have e : (rowC ic M ++ sp)[k]? = some (.int .i64 x):=by
    rw [rowC_ic,List.getElem?_append_left (by simpa using hk)]
    simp [h]
  simpa using e
theorem blk_setI {w : World} {g : Nat} {M : List Int} {sp : List Value} {k : Nat} {x y : Int} (h : M[k]? = some x) (hb : blk w g = some (rowC ic M ++ sp).toArray) : blk (w.setCell ⟨g,k,none⟩ (.int .i64 y)) g = some (rowC ic (M.set k y) ++ sp).toArray:=by
  obtain ⟨hk,hx⟩:=List.getElem?_eq_some_iff.1 h
  have h2:=blk_set (i:=k) (v:=.int .i64 y) hb
  rw [h2,rowC_ic,rowC_ic]
  congr 1
  rw [List.setIfInBounds_toArray,List.set_append_left _ _ (by simpa using hk),List.map_set]
theorem igrown_below {w u v : World} {g : Nat} (h : w.grownBy u (some g)) (hb : Below u.heap.size u v) : w.grownBy v (some g) :=
  ⟨hb.os.trans h.os,hb.tape.trans h.tape,hb.output.trans h.output,Nat.le_trans h.size hb.size,fun k hk hn => (hb.block k (Nat.lt_of_lt_of_le hk h.size)).trans (h.block k hk hn)⟩
theorem igrown_self (w : World) (g : Nat) : w.grownBy w (some g):=⟨rfl,rfl,rfl,Nat.le_refl _,fun _ _ _ => rfl⟩
theorem igrown_drew {w u : World} {g : Nat} (h : w.grownBy u (some g)) : w.grownBy u.drew (some g):=⟨h.os,h.tape,h.output,h.size,h.block⟩
theorem grown_cell1 {w u : World} {g : Nat} (o : Nat) (v : Value) (h : w.grownBy u (some g)) : w.grownBy (u.setCell ⟨g,o,none⟩ v) (some g) :=
  ⟨h.os,h.tape,h.output,by simpa using h.size,fun k hk hn => (Below.heap_setCell u ⟨g,o,none⟩ v k (fun e => hn (by rw [e]))).trans (h.block k hk hn)⟩
theorem insertI_none (v cf : Value) (a : Nat) (hlen : a ≤ 1000000) (w : World) :
    Calls Tryd.prog 99 #[v,.int .i64 a,.int .i64 a,cf] w fun e w' => e = .returned (.tuple #[]) ∧ w = w':=by
  have h1 : ¬ ((a : Int) + 1 < (a : Int)):=by omega
  go_enter Tryd.func99,Tryd.ntmps99
  go_wp2
  refine wp_loop_rounds 1 ?_
  rw [rounds_succ]
  go_wp2
  go_end0
  exact ⟨rfl,rfl⟩
set_option maxHeartbeats 16000000 in
theorem insertI_any (g cap c : Nat) (L : List Int) (sp : List Value) (a b : Nat) (hab : a < b) (hb : b ≤ L.length) (hlen : L.length ≤ 1000000) (hcap : L.length ≤ cap) (Hd : World → Prop) (lt : Int → Int → Bool) (cm : Int → Int → Int) (hlt : ∀ x y,lt x y = decide (cm x y < 0)) (hB : ∀ W W',Hd W → Below W.heap.size W W' → Hd W') (hS : ∀ W o v,Hd W → Hd (W.setCell ⟨g,o,none⟩ v)) (hD : ∀ W,Hd W → Hd W.drew)
  (hcmp : ∀ x ∈ L,∀ y ∈ L,∀ W,Hd W → Calls Tryd.prog 71 #[.int .i64 x,.int .i64 y,.pointer (some ⟨c,0,none⟩)] W fun e w' => e = .returned (.int .i64 (cm x y)) ∧ Below W.heap.size W w') (w : World) (h0 : Hd w) (hbk : blk w g = some (rowC ic L ++ sp).toArray) :
  Calls Tryd.prog 99 #[.slice (some ⟨g,0,none⟩) L.length cap,.int .i64 a,.int .i64 b,.func (.func 71) #[] #[.pointer (some ⟨c,0,none⟩)]] w fun e w' =>
   e = .returned (.tuple #[]) ∧ w.grownBy w' (some g) ∧ blk w' g = some (rowC ic (L.take a ++ isort lt ((L.take b).drop a) ++ L.drop b) ++ sp).toArray ∧ Hd w':=by
 have HI:=Lib.hid hcmp
 have HB:=Lib.hid hbk
 have H0:=Lib.hid h0
 replace hB:=Lib.hid hB;replace hS:=Lib.hid hS;replace hlt:=Lib.hid hlt;replace hD:=Lib.hid hD
 clear hcmp hbk h0
 go_enter Tryd.func99,Tryd.ntmps99
 go_wp2
 go_loopw [8] (fun vi wr => ∃ i : Nat,vi = .int .i64 i ∧ a < i ∧ i ≤ b ∧ w.grownBy wr (some g) ∧ Hid (blk wr g = some (rowC ic (L.take a ++ isort lt ((L.take i).drop a) ++ L.drop i) ++ sp).toArray ∧ Hd wr)) (fun vi _ => b - (intOf vi).toNat)
 case atStart =>
  refine ⟨a + 1,by go_num,by omega,by omega,igrown_self w g,Lib.hid ⟨?_,H0.out⟩⟩
  have e : (L.take (a + 1)).drop a = [L[a]'(by omega)]:=by
   rw [List.take_succ_eq_append_getElem (by omega),List.drop_append_of_le_length (by simp;omega),List.drop_of_length_le (by simp;omega)]
   rfl
  rw [e]
  have e2 : L.take a ++ isort lt [L[a]'(by omega)] ++ L.drop (a + 1) = L:=by
   show L.take a ++ [L[a]'(by omega)] ++ L.drop (a + 1) = L
   rw [List.append_assoc,List.singleton_append,← List.drop_eq_getElem_cons (by omega),List.take_append_drop]
  rw [e2]
  exact HB.out
 case round =>
  obtain ⟨i,rfl,hai,hib,hgr,hbi⟩:=hrel
  by_cases hlt' : i < b
  ·have hltz : (i : Int) < (b : Int):=by omega
   obtain ⟨x,hx⟩ : ∃ x,x = L[i]'(by omega):=⟨_,rfl⟩
   obtain ⟨S,hS'⟩ : ∃ S,S = isort lt ((L.take i).drop a):=⟨_,rfl⟩
   have hSl : S.length = i - a:=by rw [hS',isort_length];simp;omega
   have HS:=Lib.hid hS'
   have HX:=Lib.hid hx
   have hb2 : Hid (blk wr g = some (rowC ic (L.take a ++ (S ++ [x]) ++ L.drop (i + 1)) ++ sp).toArray ∧ Hd wr):=Lib.hid (by
    have:=hbi.out
    rw [← hS',List.drop_eq_getElem_cons (by omega : i < L.length),← hx] at this
    simpa using this)
   have KEY : Hid (∀ A B,A ++ B = S → (∀ z ∈ B,lt x z = true) → (∀ z,A.getLast? = some z → lt x z = false) → isort lt ((L.take (i + 1)).drop a) = A ++ x :: B):=Lib.hid (by
    intro A B h1 h2 h3
    have e : (L.take (i + 1)).drop a = (L.take i).drop a ++ [x]:=by
     rw [List.take_succ_eq_append_getElem (by omega),List.drop_append_of_le_length (by simp;omega),← hx]
    rw [e,isort_snoc,← hS',← h1]
    exact insR_mid lt x A B h2 h3)
   clear hbi hS' hx
   go_wp2
   go_loopw [9] (fun vj wr2 => ∃ S1 S2 : List Int,vj = .int .i64 ((a + S1.length : Nat) : Int) ∧ S1.length ≤ i - a ∧ w.grownBy wr2 (some g) ∧ Hid (S1 ++ S2 = S ∧ (∀ y ∈ S2,lt x y = true) ∧ blk wr2 g = some (rowC ic (L.take a ++ (S1 ++ x :: S2) ++ L.drop (i + 1)) ++ sp).toArray ∧ Hd wr2)) (fun vj _ => (intOf vj).toNat)
   case atStart => exact ⟨S,[],by rw [hSl];go_num,by omega,hgr,Lib.hid ⟨by simp,by simp,hb2.out.1,hb2.out.2⟩⟩
   case round =>
    clear hgr hb2
    obtain ⟨S1,S2,rfl,hS1,hgr,HQ⟩:=hrel
    rcases List.eq_nil_or_concat S1 with rfl|⟨S1,y,rfl⟩
    ·have e0 : a + ([] : List Int).length = a:=rfl
     rw [e0]
     have t1 : decide ((a : Int) < (a : Int)) = false:=decide_eq_false (by omega)
     have l0 : ¬ ((a : Int) < (a : Int)):=by omega
     go_wp2_with fail
     refine wp_region_in (by kernel_rfl) (by kernel_rfl) ?_
     intro W0 hE hN
     have q1 : blk W0 g = some (rowC ic (L.take a ++ (x :: S2) ++ L.drop (i + 1)) ++ sp).toArray:=(by rw [hE.out];exact HQ.out.2.2.1)
     have q2 : w.grownBy W0 (some g):=(by rw [hE.out];exact hgr)
     have q3 : Hd W0:=(by rw [hE.out];exact HQ.out.2.2.2)
     clear hE
     repeat (go_big_quiet_step (fail))
     refine wpQuiet_nil ?_
     rintro _ ⟨x',rfl⟩
     have hbM2:=blk_below x'.ok q1
     have hgr2:=igrown_below q2 x'.ok
     have hd2:=hB.out _ _ q3 x'.ok
     obtain ⟨u,hu⟩ : ∃ u,u = x'.wd:=⟨_,rfl⟩
     rw [← hu] at hbM2 hgr2 hd2 ⊢
     clear hu x' q1 q2 q3 hN
     go_wp2
     go_roundw
     case rel => exact ⟨i + 1,by go_num,by omega,by omega,hgr2,Lib.hid ⟨by rw [KEY.out [] S2 HQ.out.1 HQ.out.2.1 (fun z hz => by simp at hz)];exact hbM2,hd2⟩⟩
     case measure => simp [intOf];omega
    ·rw [List.concat_eq_append] at HQ hS1 ⊢
     rw [List.length_append,List.length_singleton] at hS1 ⊢
     obtain ⟨j,hj⟩ : ∃ j,j = a + S1.length:=⟨_,rfl⟩
     obtain ⟨k,hk⟩ : ∃ k,k = j + 1:=⟨_,rfl⟩
     rw [← Nat.add_assoc,← hj,← hk]
     have hja : a ≤ j:=by omega
     have hji : k ≤ i:=by omega
     have t1 : decide ((a : Int) < (k : Int)) = true:=decide_eq_true (by omega)
     have l0 : (a : Int) < (k : Int):=by omega
     have l1 : (k : Int) < (L.length : Int):=by omega
     have l2 : (j : Int) < (L.length : Int):=by omega
     have m1 : IntKind.i64.wrap ((k : Int) - 1) = j:=(IntWalk.i64_in _ (by omega)).trans (by omega)
     obtain ⟨M,hM⟩ : ∃ M,M = L.take a ++ ((S1 ++ [y]) ++ x :: S2) ++ L.drop (i + 1):=⟨_,rfl⟩
     have hSS:=HQ.out.1
     have lSS : S1.length + 1 + S2.length = i - a:=by have:=congrArg List.length hSS;simp at this;omega
     have lta : (L.take a).length = a:=by simp;omega
     have lM : M.length = L.length:=by rw [hM];simp;omega
     have hkA : (L.take a).length + S1.length + 1 = k:=by omega
     have hjA : (L.take a).length + S1.length = j:=by omega
     have hMx : M[k]? = some x:=by rw [hM,← hkA];exact nb_x _ _ _ _ _ _
     have hMy : M[j]? = some y:=by rw [hM,← hjA];exact nb_y _ _ _ _ _ _
     have hbM : blk wr g = some (rowC ic M ++ sp).toArray:=by rw [hM];exact HQ.out.2.2.1
     have hsw : (M.set k y).set j x = L.take a ++ (S1 ++ x :: (y :: S2)) ++ L.drop (i + 1):=by rw [hM,← hkA,← hjA];exact nb_swap _ _ _ _ _ _
     obtain ⟨d,hc⟩ : ∃ d,cm x y = d:=⟨_,rfl⟩
     have Hy : y ∈ L:=(by
      have h1 : y ∈ S:=by rw [← HQ.out.1];simp
      rw [HS.out] at h1
      exact List.mem_of_mem_take (List.mem_of_mem_drop ((isort_perm lt _).mem_iff.1 h1)))
     have Hx : x ∈ L:=(by rw [HX.out];exact List.getElem_mem _)
     have gc : ∀ W,Hd W → Calls Tryd.prog 71 #[.int .i64 x,.int .i64 y,.pointer (some ⟨c,0,none⟩)] W fun e w' => e = .returned (.int .i64 d) ∧ Below W.heap.size W w':=fun W h => by rw [← hc];exact HI.out x Hx y Hy W h
     replace gc:=Lib.hid gc
     have HC:=Lib.hid hc
     have HM:=Lib.hid hM
     have HSW:=Lib.hid hsw
     have LM:=Lib.hid lM
     have HJ:=Lib.hid hj
     have HK:=Lib.hid hk
     clear hj hk hkA hjA hc hM hsw hSS lSS lta lM Hx Hy
     by_cases hc0 : d < 0
     ·have tc : decide (d < 0) = true:=decide_eq_true hc0
      go_wp2_with fail
      refine wp_region_in (by kernel_rfl) (by kernel_rfl) ?_
      intro W0 hE hN
      have q1 : blk W0 g = some (rowC ic M ++ sp).toArray:=(by rw [hE.out];exact hbM)
      have q2 : w.grownBy W0 (some g):=(by rw [hE.out];exact hgr)
      have q3 : Hd W0:=(by rw [hE.out];exact HQ.out.2.2.2)
      clear hE
      have n1 : ∀ X : Class (Calm W0),X.wd.cell? ⟨g,k,none⟩ = some (.int .i64 x):=fun X => blk_cellI hMx (blk_below X.ok q1)
      have n2 : ∀ X : Class (Calm W0),X.wd.cell? ⟨g,j,none⟩ = some (.int .i64 y):=fun X => blk_cellI hMy (blk_below X.ok q1)
      have gC : ∀ X : Class (Calm W0),_:=fun X => gc.out X.wd (hB.out _ _ q3 X.ok)
      have GC:=Lib.hid gC
      clear gC
      repeat (go_big_quiet_step ((go_at_call 71;(with_reducible refine Class.go _ (GC.out _)))))
      refine wpQuiet_nil ?_
      rintro _ ⟨x',rfl⟩
      have hbM2:=blk_below x'.ok q1
      have hgr2:=igrown_below q2 x'.ok
      have hd0':=hB.out _ _ q3 x'.ok
      obtain ⟨u,hu⟩ : ∃ u,u = x'.wd:=⟨_,rfl⟩
      rw [← hu] at hbM2 hgr2 hd0' ⊢
      clear hu x' n1 n2 q1 q2 q3 hN GC
      have hk1:=hMx
      have hj2 : (M.set k y)[j]? = some y:=by rw [List.getElem?_set_ne (by have:=HK.out;omega)];exact hMy
      go_wp2_with fail
      refine wp_region_held_drew (S:=fun _ => True) (by kernel_rfl) trivial (fun _ => ?_)
      obtain ⟨d0,ed0⟩ : ∃ v,v = u.drew:=⟨_,rfl⟩
      have kd : blk d0 g = some (rowC ic M ++ sp).toArray:=(by rw [ed0];exact blk_drew hbM2)
      have hgr3 : Hid (w.grownBy d0 (some g)):=Lib.hid (by rw [ed0];exact igrown_drew hgr2)
      have hd0 : Hd d0:=(by rw [ed0];exact hD.out _ hd0')
      rw [← ed0]
      clear ed0 hgr hgr2 hbM2 hbM hd0'
      have cX:=blk_cellI hMx kd
      have cY:=blk_cellI hMy kd
      have fz:=(kn kd).2.1
      clear hMy
      have hTr : True:=trivial
      refine jK (v:=?_) 0 ?_ ?_
      rotate_left;focus(intro W h;(try dsimp only at h);go_simp;(try with_reducible rfl));(try simp only[Act.put,jA,jB,jC,jD,jE,jF])
      refine jK (v:=?_) 1 ?_ ?_
      rotate_left;focus(intro W h;(try dsimp only at h);go_simp;(try with_reducible rfl));(try simp only[Act.put,jA,jB,jC,jD,jE,jF])
      refine jK (v:=?_) 2 ?_ ?_
      rotate_left;focus(intro W h;(try dsimp only at h);go_simp;(try with_reducible rfl));(try simp only[Act.put,jA,jB,jC,jD,jE,jF])
      refine jK (v:=?_) 3 ?_ ?_
      rotate_left;focus(intro W h;(try dsimp only at h);go_simp;(try with_reducible rfl));(try simp only[Act.put,jA,jB,jC,jD,jE,jF])
      refine jK (v:=?_) 4 ?_ ?_
      rotate_left;focus(intro W h;(try dsimp only at h);go_simp;(try with_reducible rfl));(try simp only[Act.put,jA,jB,jC,jD,jE,jF])
      refine jK (v:=?_) 5 ?_ ?_
      rotate_left;focus(intro W h;(try dsimp only at h);go_simp;(try with_reducible rfl));(try simp only[Act.put,jA,jB,jC,jD,jE,jF])
      refine jK (v:=?_) 6 ?_ ?_
      rotate_left;focus(intro W h;(try dsimp only at h);go_simp;(try with_reducible rfl));(try simp only[Act.put,jA,jB,jC,jD,jE,jF])
      refine jK (v:=?_) 7 ?_ ?_
      rotate_left;focus(intro W h;(try dsimp only at h);go_simp;(try with_reducible rfl));(try simp only[Act.put,jA,jB,jC,jD,jE,jF])
      refine jK (v:=?_) 8 ?_ ?_
      rotate_left;focus(intro W h;(try dsimp only at h);go_simp;(try with_reducible rfl));(try simp only[Act.put,jA,jB,jC,jD,jE,jF])
      refine jK (v:=?_) 10 ?_ ?_
      rotate_left;focus(intro W h;(try dsimp only at h);go_simp;(try with_reducible rfl));(try simp only[Act.put,jA,jB,jC,jD,jE,jF])
      refine jK (v:=?_) 11 ?_ ?_
      rotate_left;focus(intro W h;(try dsimp only at h);go_simp;(try with_reducible rfl));(try simp only[Act.put,jA,jB,jC,jD,jE,jF])
      refine jK (v:=?_) 12 ?_ ?_
      rotate_left;focus(intro W h;(try dsimp only at h);go_simp;(try with_reducible rfl));(try simp only[Act.put,jA,jB,jC,jD,jE,jF])
      refine wpAnyH_ready (rs:=[9,13]) (by kernel_rfl) (by simp) ?_
      refine AllReadyH.cons rfl (fun K hK => ?_) ?_
      ·skip
       go_simp
       refine hK.out _ _ trivial (fun _ => ?_)
       clear hK K
       (try simp only[Act.put,jA,jB,jC,jD,jE,jF])
       refine jR 13 (fun K hK => ?_)
       go_simp
       refine hK.out _ _ trivial (fun _ => ?_)
       clear hK K
       (try simp only[Act.put,jA,jB,jC,jD,jE,jF])
       refine jK (v:=?_) 14 ?_ ?_
       rotate_left;focus(intro W h;(try dsimp only at h);go_simp;(try with_reducible rfl));(try simp only[Act.put,jA,jB,jC,jD,jE,jF])
       refine jR 15 (fun K hK => ?_)
       go_simp
       obtain ⟨d1,ed1⟩ : ∃ v,v = d0.setCell ⟨g,k,none⟩ (.int .i64 y):=⟨_,rfl⟩
       have kd2 : blk d1 g = some (rowC ic (M.set k y) ++ sp).toArray:=(by rw [ed1];exact blk_setI hk1 kd)
       have gr2 : w.grownBy d1 (some g):=(by rw [ed1];exact grown_cell1 _ _ hgr3.out)
       have hd2 : Hd d1:=(by rw [ed1];exact hS.out _ _ _ hd0)
       rw [← ed1]
       clear ed1
       have fz2:=(kn kd2).2.1
       have cj2:=blk_cellI hj2 kd2
       refine hK.out _ _ trivial (fun _ => ?_)
       clear hK K
       (try simp only[Act.put,jA,jB,jC,jD,jE,jF])
       refine jK (v:=?_) 16 ?_ ?_
       rotate_left;focus(intro W h;(try dsimp only at h);go_simp;(try with_reducible rfl));(try simp only[Act.put,jA,jB,jC,jD,jE,jF])
       refine jR 17 (fun K hK => ?_)
       go_simp
       obtain ⟨d2,ed2⟩ : ∃ v,v = d1.setCell ⟨g,j,none⟩ (.int .i64 x):=⟨_,rfl⟩
       have kd3 : blk d2 g = some (rowC ic (L.take a ++ (S1 ++ x :: (y :: S2)) ++ L.drop (i + 1)) ++ sp).toArray:=(by rw [ed2,← HSW.out];exact blk_setI hj2 kd2)
       have gr3 : w.grownBy d2 (some g):=(by rw [ed2];exact grown_cell1 _ _ gr2)
       have hd3 : Hd d2:=(by rw [ed2];exact hS.out _ _ _ hd2)
       rw [← ed2]
       clear ed2
       replace kd3:=Lib.hid kd3
       replace gr3:=Lib.hid gr3
       clear kd2 gr2 kd fz2 cj2 hd2
       refine hK.out _ _ trivial (fun _ => ?_)
       clear hK K
       (try simp only[Act.put,jA,jB,jC,jD,jE,jF])
       refine wpAnyH_done (by kernel_rfl) ?_ _
       go_wp2
       go_roundw
       case rel => exact ⟨S1,y :: S2,by rw [HJ.out],by omega,gr3.out,Lib.hid ⟨by rw [← HQ.out.1];simp,fun z hz => by rcases List.mem_cons.1 hz with rfl|hz;exact (by rw [hlt.out,HC.out];exact tc);exact HQ.out.2.1 z hz,kd3.out,hd3⟩⟩
       case measure => have:=HJ.out;have:=HK.out;simp [intOf];omega
      refine AllReadyH.cons rfl (fun K hK => ?_) AllReadyH.nil
      go_simp
      refine hK.out _ _ trivial (fun _ => ?_)
      clear hK K
      (try simp only[Act.put,jA,jB,jC,jD,jE,jF])
      refine jR 9 (fun K hK => ?_)
      go_simp
      refine hK.out _ _ trivial (fun _ => ?_)
      clear hK K
      (try simp only[Act.put,jA,jB,jC,jD,jE,jF])
      refine jK (v:=?_) 14 ?_ ?_
      rotate_left;focus(intro W h;(try dsimp only at h);go_simp;(try with_reducible rfl));(try simp only[Act.put,jA,jB,jC,jD,jE,jF])
      refine jR 15 (fun K hK => ?_)
      go_simp
      obtain ⟨d1,ed1⟩ : ∃ v,v = d0.setCell ⟨g,k,none⟩ (.int .i64 y):=⟨_,rfl⟩
      have kd2 : blk d1 g = some (rowC ic (M.set k y) ++ sp).toArray:=(by rw [ed1];exact blk_setI hk1 kd)
      have gr2 : w.grownBy d1 (some g):=(by rw [ed1];exact grown_cell1 _ _ hgr3.out)
      have hd2 : Hd d1:=(by rw [ed1];exact hS.out _ _ _ hd0)
      rw [← ed1]
      clear ed1
      have fz2:=(kn kd2).2.1
      have cj2:=blk_cellI hj2 kd2
      refine hK.out _ _ trivial (fun _ => ?_)
      clear hK K
      (try simp only[Act.put,jA,jB,jC,jD,jE,jF])
      refine jK (v:=?_) 16 ?_ ?_
      rotate_left;focus(intro W h;(try dsimp only at h);go_simp;(try with_reducible rfl));(try simp only[Act.put,jA,jB,jC,jD,jE,jF])
      refine jR 17 (fun K hK => ?_)
      go_simp
      obtain ⟨d2,ed2⟩ : ∃ v,v = d1.setCell ⟨g,j,none⟩ (.int .i64 x):=⟨_,rfl⟩
      have kd3 : blk d2 g = some (rowC ic (L.take a ++ (S1 ++ x :: (y :: S2)) ++ L.drop (i + 1)) ++ sp).toArray:=(by rw [ed2,← HSW.out];exact blk_setI hj2 kd2)
      have gr3 : w.grownBy d2 (some g):=(by rw [ed2];exact grown_cell1 _ _ gr2)
      have hd3 : Hd d2:=(by rw [ed2];exact hS.out _ _ _ hd2)
      rw [← ed2]
      clear ed2
      replace kd3:=Lib.hid kd3
      replace gr3:=Lib.hid gr3
      clear kd2 gr2 kd fz2 cj2 hd2
      refine hK.out _ _ trivial (fun _ => ?_)
      clear hK K
      (try simp only[Act.put,jA,jB,jC,jD,jE,jF])
      refine wpAnyH_done (by kernel_rfl) ?_ _
      go_wp2
      go_roundw
      case rel => exact ⟨S1,y :: S2,by rw [HJ.out],by omega,gr3.out,Lib.hid ⟨by rw [← HQ.out.1];simp,fun z hz => by rcases List.mem_cons.1 hz with rfl|hz;exact (by rw [hlt.out,HC.out];exact tc);exact HQ.out.2.1 z hz,kd3.out,hd3⟩⟩
      case measure => have:=HJ.out;have:=HK.out;simp [intOf];omega
     ·have tc : decide (d < 0) = false:=decide_eq_false hc0
      go_wp2_with fail
      refine wp_region_in (by kernel_rfl) (by kernel_rfl) ?_
      intro W0 hE hN
      have q1 : blk W0 g = some (rowC ic M ++ sp).toArray:=(by rw [hE.out];exact hbM)
      have q2 : w.grownBy W0 (some g):=(by rw [hE.out];exact hgr)
      have q3 : Hd W0:=(by rw [hE.out];exact HQ.out.2.2.2)
      clear hE
      have n1 : ∀ X : Class (Calm W0),X.wd.cell? ⟨g,k,none⟩ = some (.int .i64 x):=fun X => blk_cellI hMx (blk_below X.ok q1)
      have n2 : ∀ X : Class (Calm W0),X.wd.cell? ⟨g,j,none⟩ = some (.int .i64 y):=fun X => blk_cellI hMy (blk_below X.ok q1)
      have gC : ∀ X : Class (Calm W0),_:=fun X => gc.out X.wd (hB.out _ _ q3 X.ok)
      have GC:=Lib.hid gC
      clear gC
      repeat (go_big_quiet_step ((go_at_call 71;(with_reducible refine Class.go _ (GC.out _)))))
      refine wpQuiet_nil ?_
      rintro _ ⟨x',rfl⟩
      have hbM2:=blk_below x'.ok q1
      have hgr2:=igrown_below q2 x'.ok
      have hd0':=hB.out _ _ q3 x'.ok
      obtain ⟨u,hu⟩ : ∃ u,u = x'.wd:=⟨_,rfl⟩
      rw [← hu] at hbM2 hgr2 hd0' ⊢
      clear hu x' n1 n2 q1 q2 q3 hN GC
      go_wp2
      go_roundw
      case rel => exact ⟨i + 1,by go_num,by omega,by omega,hgr2,Lib.hid ⟨by rw [KEY.out (S1 ++ [y]) S2 HQ.out.1 HQ.out.2.1 (fun z hz => by simp at hz;subst hz;rw [hlt.out,HC.out];exact tc),← HM.out];exact hbM2,hd0'⟩⟩
      case measure => simp [intOf];omega
  ·obtain rfl : i = b:=by omega
   go_wp2
   go_end0
   exact ⟨rfl,hgr,hbi.out.1,hbi.out.2⟩
theorem stableI_none (v cf : Value) (w : World) :
    Calls Tryd.prog 84 #[v,.int .i64 0,cf] w fun e w' => e = .returned (.tuple #[]) ∧ w = w':=by
  have g0 : ∀ w,Calls Tryd.prog 99 #[v,.int .i64 0,.int .i64 0,cf] w fun e w' => e = .returned (.tuple #[]) ∧ w = w':=fun w => insertI_none v cf 0 (by omega) w
  replace g0:=Lib.hid g0
  go_enter Tryd.func84,Tryd.ntmps84
  go_wp2
  refine wp_loop_rounds 1 ?_
  rw [rounds_succ]
  go_wp2_with (go_at_call 99;(with_reducible refine (g0.out _).mono ?_);rintro e w1 ⟨rfl,rfl⟩)
  refine wp_loop_rounds 1 ?_
  rw [rounds_succ]
  go_wp2
  go_end0
  exact ⟨rfl,rfl⟩
set_option maxHeartbeats 1600000 in
theorem stableI_any (g cap c : Nat) (L : List Int) (sp : List Value) (h0' : 0 < L.length) (hlen : L.length ≤ 20) (hcap : L.length ≤ cap) (Hd : World → Prop) (lt : Int → Int → Bool) (cm : Int → Int → Int) (hlt : ∀ x y,lt x y = decide (cm x y < 0)) (hB : ∀ W W',Hd W → Below W.heap.size W W' → Hd W') (hS : ∀ W o v,Hd W → Hd (W.setCell ⟨g,o,none⟩ v)) (hD : ∀ W,Hd W → Hd W.drew)
    (hcmp : ∀ x ∈ L,∀ y ∈ L,∀ W,Hd W → Calls Tryd.prog 71 #[.int .i64 x,.int .i64 y,.pointer (some ⟨c,0,none⟩)] W fun e w' => e = .returned (.int .i64 (cm x y)) ∧ Below W.heap.size W w') (w : World) (h0 : Hd w) (hbk : blk w g = some (rowC ic L ++ sp).toArray) :
    Calls Tryd.prog 84 #[.slice (some ⟨g,0,none⟩) L.length cap,.int .i64 L.length,.func (.func 71) #[] #[.pointer (some ⟨c,0,none⟩)]] w fun e w' =>
      e = .returned (.tuple #[]) ∧ w.grownBy w' (some g) ∧ blk w' g = some (rowC ic (isort lt L) ++ sp).toArray ∧ Hd w':=by
  have g1:=insertI_any g cap c L sp 0 L.length h0' (Nat.le_refl _) (by omega) hcap Hd lt cm hlt hB hS hD hcmp w h0 hbk
  rw [List.take_of_length_le (Nat.le_refl _),List.drop_zero,List.drop_of_length_le (Nat.le_refl _),List.take_zero,List.nil_append,List.append_nil] at g1
  have g1 : Calls Tryd.prog 99 #[.slice (some ⟨g,0,none⟩) L.length cap,.int .i64 0,.int .i64 L.length,.func (.func 71) #[] #[.pointer (some ⟨c,0,none⟩)]] w fun e w' => e = .returned (.tuple #[]) ∧ w.grownBy w' (some g) ∧ blk w' g = some (rowC ic (isort lt L) ++ sp).toArray ∧ Hd w':=g1
  clear hlt hB hS hD hcmp
  by_cases h20 : L.length < 20
  · have l1 : ¬ ((20 : Int) ≤ (L.length : Int)):=by omega
    have l2 : ¬ ((20 : Int) < (L.length : Int)):=by omega
    obtain ⟨n,hn⟩ : ∃ n,L.length = n:=⟨_,rfl⟩
    rw [hn] at g1 l1 l2 ⊢
    replace g1:=Lib.hid g1
    clear hn h20 hlen hcap h0' hbk h0
    go_enter Tryd.func84,Tryd.ntmps84
    go_wp2
    refine wp_loop_rounds 1 ?_
    rw [rounds_succ]
    go_wp2_with (go_at_call 99;(with_reducible refine (g1.out).mono ?_);rintro e w1 ⟨rfl,hg,hb,hd⟩)
    refine wp_loop_rounds 1 ?_
    rw [rounds_succ]
    go_wp2
    go_end0
    exact ⟨rfl,hg,hb,hd⟩
  · have hn : L.length = 20:=by omega
    have g0 : ∀ w,Calls Tryd.prog 99 #[.slice (some ⟨g,0,none⟩) 20 cap,.int .i64 20,.int .i64 20,.func (.func 71) #[] #[.pointer (some ⟨c,0,none⟩)]] w fun e w' => e = .returned (.tuple #[]) ∧ w = w':=fun w => insertI_none _ _ 20 (by omega) w
    replace g0:=Lib.hid g0
    rw [hn] at g1 ⊢
    have g1 : Calls Tryd.prog 99 #[.slice (some ⟨g,0,none⟩) 20 cap,.int .i64 0,.int .i64 20,.func (.func 71) #[] #[.pointer (some ⟨c,0,none⟩)]] w fun e w' => e = .returned (.tuple #[]) ∧ w.grownBy w' (some g) ∧ blk w' g = some (rowC ic (isort lt L) ++ sp).toArray ∧ Hd w':=g1
    replace g1:=Lib.hid g1
    show Calls Tryd.prog 84 #[.slice (some ⟨g,0,none⟩) 20 cap,.int .i64 20,.func (.func 71) #[] #[.pointer (some ⟨c,0,none⟩)]] w _
    clear hn h20 hlen hcap h0' hbk h0
    go_enter Tryd.func84,Tryd.ntmps84
    go_wp2
    refine wp_loop_rounds 2 ?_
    rw [rounds_succ]
    go_wp2_with (go_at_call 99;(with_reducible refine (g1.out).mono ?_);rintro e w1 ⟨rfl,hg,hb,hd⟩)
    rw [rounds_succ]
    go_wp2_with (go_at_call 99;(with_reducible refine (g0.out _).mono ?_);rintro e w2 ⟨rfl,rfl⟩)
    refine wp_loop_rounds 1 ?_
    rw [rounds_succ]
    go_wp2
    go_end0
    exact ⟨rfl,hg,hb,hd⟩
theorem sortI_none (a : Option Addr) (cap : Nat) (cf : Value) (w : World) :
    Calls Tryd.prog 70 #[.slice a 0 cap,cf] w fun e w' => e = .returned (.tuple #[]) ∧ w = w':=by
  have g0:=Lib.hid (fun w => stableI_none (.slice a 0 cap) cf w)
  go_enter Tryd.func70,Tryd.ntmps70
  go_wp2_with (go_at_call 84;(with_reducible refine (g0.out _).mono ?_);rintro e w1 ⟨rfl,rfl⟩)
  go_end0
  exact ⟨rfl,rfl⟩
theorem sortI_any (g cap c : Nat) (L : List Int) (sp : List Value) (h0' : 0 < L.length) (hlen : L.length ≤ 20) (hcap : L.length ≤ cap) (Hd : World → Prop) (lt : Int → Int → Bool) (cm : Int → Int → Int) (hlt : ∀ x y,lt x y = decide (cm x y < 0)) (hB : ∀ W W',Hd W → Below W.heap.size W W' → Hd W') (hS : ∀ W o v,Hd W → Hd (W.setCell ⟨g,o,none⟩ v)) (hD : ∀ W,Hd W → Hd W.drew)
    (hcmp : ∀ x ∈ L,∀ y ∈ L,∀ W,Hd W → Calls Tryd.prog 71 #[.int .i64 x,.int .i64 y,.pointer (some ⟨c,0,none⟩)] W fun e w' => e = .returned (.int .i64 (cm x y)) ∧ Below W.heap.size W w') (w : World) (h0 : Hd w) (hbk : blk w g = some (rowC ic L ++ sp).toArray) :
    Calls Tryd.prog 70 #[.slice (some ⟨g,0,none⟩) L.length cap,.func (.func 71) #[] #[.pointer (some ⟨c,0,none⟩)]] w fun e w' =>
      e = .returned (.tuple #[]) ∧ w.grownBy w' (some g) ∧ blk w' g = some (rowC ic (isort lt L) ++ sp).toArray ∧ Hd w':=by
  have g1:=Lib.hid (stableI_any g cap c L sp h0' hlen hcap Hd lt cm hlt hB hS hD hcmp w h0 hbk)
  clear hlt hB hS hD hcmp h0 hbk
  go_enter Tryd.func70,Tryd.ntmps70
  go_wp2_with (go_at_call 84;(with_reducible refine (g1.out).mono ?_);rintro e w1 ⟨rfl,hg,hb,hd⟩)
  go_end0
  exact ⟨rfl,hg,hb,hd⟩
theorem takeZ_succ {xs ys : List Int} {k : Nat} (h1 : k < xs.length) (h2 : k < ys.length) (h : xs.take k = ys.take k) (he : xs[k] = ys[k]) : xs.take (k + 1) = ys.take (k + 1):=by
  rw [List.take_succ_eq_append_getElem h1,List.take_succ_eq_append_getElem h2,h,he]
set_option maxHeartbeats 1600000 in
theorem sameZ_any (a1 a2 : Option Addr) (c1 c2 : Nat) (l m : List Int) (hl : l.length ≤ 100000) (hm : m.length ≤ 100000) (w : World) (h1 : SRow ic 1 w a1 c1 l) (h2 : SRow ic 1 w a2 c2 m) :
  Calls Tryd.prog 26 #[.slice a1 l.length c1,.slice a2 m.length c2] w fun e w' => e = .returned (.bool (decide (l = m))) ∧ Below w.heap.size w w':=by
 have H1:=Lib.hid h1;have H2:=Lib.hid h2;clear h1 h2
 by_cases hlen : l.length = m.length
 ·have q1 : ((l.length : Int) != (m.length : Int)) = false:=by simp [hlen]
  have HL:=Lib.hid hlen
  clear hlen
  go_enter Tryd.func26,Tryd.ntmps26
  go_wp2
  go_loopw [5] (fun i wr => ∃ k : Nat,i = .int .i64 k ∧ k ≤ l.length ∧ Hid (l.take k = m.take k) ∧ Below w.heap.size w wr) (fun i _ => l.length - (intOf i).toNat)
  case atStart => exact ⟨0,rfl,Nat.zero_le _,Lib.hid rfl,Below.refl _ _⟩
  case round =>
   obtain ⟨k,rfl,hk,hE0,hB⟩:=hrel
   by_cases hlt : k < l.length
   ·have hlm : k < m.length:=by have:=HL.out;omega
    have i1 : (k : Int) < (l.length : Int):=by omega
    have i2 : (k : Int) < (m.length : Int):=by omega
    obtain ⟨b1,o1,rfl,g1,r1⟩:=(H1.out.below hB).2.2.2 (by omega)
    obtain ⟨b2,o2,rfl,g2,r2⟩:=(H2.out.below hB).2.2.2 (by omega)
    obtain ⟨x,hx⟩ : ∃ x,x = l[k]:=⟨_,rfl⟩
    obtain ⟨y,hy⟩ : ∃ x,x = m[k]:=⟨_,rfl⟩
    have R1:=r1 k hlt 0 _ rfl
    have R2:=r2 k hlm 0 _ rfl
    rw [← hx] at R1
    rw [← hy] at R2
    rw [Nat.mul_one,Nat.add_zero] at R1 R2
    have HX:=Lib.hid hx;have HY:=Lib.hid hy
    clear hx hy r1 r2
    have hq : (x != y) = true ∨ (x != y) = false:=by cases (x != y) <;> simp
    go_wp2_with fail
    refine wp_region_in (by kernel_rfl) (by kernel_rfl) ?_
    intro W0 hE hN
    have g1' : b1 < W0.heap.size:=(by rw [hE.out];exact g1)
    have g2' : b2 < W0.heap.size:=(by rw [hE.out];exact g2)
    have n1 : ∀ X : Class (Calm W0),X.wd.cell? ⟨b1,o1 + k,none⟩ = some (.int .i64 x):=fun X => (X.ok.cell (p:=⟨b1,o1 + k,none⟩) g1').trans (by rw [hE.out];exact R1)
    have n2 : ∀ X : Class (Calm W0),X.wd.cell? ⟨b2,o2 + k,none⟩ = some (.int .i64 y):=fun X => (X.ok.cell (p:=⟨b2,o2 + k,none⟩) g2').trans (by rw [hE.out];exact R2)
    have hB' : Below w.heap.size w W0:=(by rw [hE.out];exact hB)
    clear hE R1 R2 g1 g2 hB
    repeat (go_big_quiet_step (fail))
    refine wpQuiet_nil ?_
    rintro _ ⟨x',rfl⟩
    have hB2:=bt hB' x'.ok
    obtain ⟨u,hu⟩ : ∃ u,u = x'.wd:=⟨_,rfl⟩
    rw [← hu] at hB2 ⊢
    clear hu x' hN n1 n2 g1' g2' hB'
    rcases hq with hq|hq
    ·have hne : x ≠ y:=by simpa using hq
     have hlm2 : decide (l = m) = false:=decide_eq_false (fun e => by subst e;exact hne (by rw [HX.out,HY.out]))
     have HQ:=Lib.hid hlm2
     clear hlm2
     go_wp2
     go_ret
     exact ⟨by rw [HQ.out];rfl,hB2⟩
    ·have hne : x = y:=by simpa using hq
     have hT : Hid (l.take (k + 1) = m.take (k + 1)):=Lib.hid (takeZ_succ hlt hlm hE0.out (by rw [← HX.out,← HY.out];exact hne))
     clear hne
     go_wp2
     go_roundw
     case rel => exact ⟨k + 1,by go_num,by omega,hT,hB2⟩
     case measure => simp [intOf];omega
   ·obtain rfl : k = l.length:=by omega
    have e : l = m:=by
     have:=hE0.out
     rwa [List.take_length,HL.out,List.take_length] at this
    have HS:=Lib.hid (decide_eq_true e)
    clear e
    go_wp2
    go_ret
    exact ⟨by rw [HS.out];rfl,hB⟩
 ·have q1 : ((l.length : Int) != (m.length : Int)) = true:=by simp;omega
  rw [decide_eq_false (fun e : l = m => hlen (by rw [e]))]
  clear hlen
  go_enter Tryd.func26,Tryd.ntmps26
  go_wp2
  go_ret
  exact ⟨rfl,Below.refl _ _⟩
end Go.Proofs.YtkaehoihpgelnaaDoor
