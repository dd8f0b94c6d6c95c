/- Parts of a proof, printed by a program of mine out of my texts: EgCand, EgCho. -/
import Derived.WalkMore
import Derived.Deep.LoopGhost
import Derived.Deep.QuietTactic
import Derived.BigQuiet
import Derived.Test.YtkaehoihpgelnaaDoorCO
import Derived.Test.YtkaehoihpgelnaaDoorCS
import Derived.Test.YtkaehoihpgelnaaDoorCW
set_option linter.unusedSimpArgs false
set_option linter.unusedVariables false
set_option maxRecDepth 100000
namespace Go.Proofs.YtkaehoihpgelnaaDoor
open Go.RowKit
def cF (x : Wy) (k : Nat) : List Int:=[if 0 < k then candA x 0 else -1,if 1 < k then candA x 1 else -1,if 2 < k then candA x 2 else -1]
def hF (x : Wy) (k : Nat) : List Int:=[if 0 < k then headA x 0 else 0,if 1 < k then headA x 1 else 0,if 2 < k then headA x 2 else 0]
theorem cF_none {x : Wy} {k : Nat} (hk : k < 3) (h : candA x k = -1) : cF x (k + 1) = cF x k:=by
  match k,hk with
  | 0,_ => simp [cF] at h ⊢;exact h
  | 1,_ => simp [cF] at h ⊢;exact h
  | 2,_ => simp [cF] at h ⊢;exact h
theorem hF_none {x : Wy} {k : Nat} (hk : k < 3) (h : candA x k = -1) : hF x (k + 1) = hF x k:=by
  have h2 : headA x k = 0:=by unfold headA;rw [h];rfl
  match k,hk with
  | 0,_ => simp [hF] at h2 ⊢;exact h2
  | 1,_ => simp [hF] at h2 ⊢;exact h2
  | 2,_ => simp [hF] at h2 ⊢;exact h2
theorem cF_some {x : Wy} {k : Nat} (hk : k < 3) : (cF x k).set k (candA x k) = cF x (k + 1):=by
  match k,hk with
  | 0,_ => simp [cF]
  | 1,_ => simp [cF]
  | 2,_ => simp [cF]
theorem hF_some {x : Wy} {k : Nat} (hk : k < 3) : (hF x k).set k (headA x k) = hF x (k + 1):=by
  match k,hk with
  | 0,_ => simp [hF]
  | 1,_ => simp [hF]
  | 2,_ => simp [hF]
def cRest (f : Int → Bool) (blk : Bool) (q : List Int) (j : Nat) : Int:=if j = 0 then candQ f blk q else if blk then -1 else ((q.drop j).find? f).getD (-1)
theorem cRest_end {f : Int → Bool} {blk : Bool} {q : List Int} : cRest f blk q q.length = -1:=by
  unfold cRest
  split
  · rename_i h;rw [List.length_eq_zero_iff.1 h];rfl
  · split
    · rfl
    · simp
theorem cRest_next {f : Int → Bool} {blk : Bool} {q : List Int} {j : Nat} (hj : j < q.length) (hb : j = 0 ∨ blk = false) (hf : f q[j] = false) : cRest f blk q j = cRest f blk q (j + 1):=by
  unfold cRest
  rw [if_neg (by omega : ¬ j + 1 = 0)]
  by_cases h0 : j = 0
  · subst h0
    rw [if_pos rfl]
    match q,hj with
    | a :: r,_ =>
      have hf : f a = false:=hf
      cases blk
      · rw [candQ_rest hf];rfl
      · rw [candQ_blk hf];rfl
  · rw [if_neg h0]
    rcases hb with hb|hb
    · exact absurd hb h0
    · rw [hb,List.drop_eq_getElem_cons hj,List.find?_cons,hf]
theorem cRest_fit {f : Int → Bool} {blk : Bool} {q : List Int} {j : Nat} (hj : j < q.length) (hb : j = 0 ∨ blk = false) (hf : f q[j] = true) : cRest f blk q j = q[j]:=by
  unfold cRest
  by_cases h0 : j = 0
  · subst h0
    rw [if_pos rfl]
    match q,hj with
    | a :: r,_ => exact candQ_fit hf
  · rw [if_neg h0]
    rcases hb with hb|hb
    · exact absurd hb h0
    · rw [hb,List.drop_eq_getElem_cons hj,List.find?_cons,hf];rfl
theorem cRest_blk {f : Int → Bool} {q : List Int} {j : Nat} (h0 : j ≠ 0) : cRest f true q j = -1:=by
  unfold cRest
  rw [if_neg h0,if_pos rfl]
theorem below_drewN {B n : Nat} {w W : World} (h : Below B w W) : Below B w (W.drewN n):=by
  induction n with
  | zero => exact h
  | succ n ih => exact ih.drew
def RetC (x : Wy) (w : World) (e : Ending) (w' : World) : Prop:=∃ a1 c1 a2 c2,e = .returned (.tuple #[.slice a1 3 c1,.slice a2 3 c2]) ∧ SRow ic 1 w' a1 c1 (candsS x) ∧ SRow ic 1 w' a2 c2 (headsS x) ∧ Below w.heap.size w w'
set_option maxHeartbeats 6400000 in
theorem cand_ok (c : Array Value) (x : Wy) (hg : GdW x) (hlz : x.sz.length = x.l.length) (w : World) (hW : WayAt w c x) :
  Calls Tryd.prog 55 #[.agg c] w fun e w' => RetC x w e w':=by
 obtain ⟨aw,cw,ad,cd,ap,cp,al,cl,ob,cq,az,cz,rfl,hcq3,hcqm,Rw,Rd,Rp,Rl,Rq,Rz⟩:=hW
 obtain ⟨cs,hQ,lob,hrg⟩:=qrow_of Rq
 have GQ : Hid (∀ k,k < 3 → ∃ a c,w.cell? ⟨ob,k,none⟩ = some (.slice a (quA x k).length c) ∧ SRow ic 1 w a c (quA x k)):=Lib.hid (fun k hk => by
  obtain ⟨a,c,h1,h2⟩:=hQ.get hk
  have e : q3 (quA x 0) (quA x 1) (quA x 2) k = quA x k:=by
   match k,hk with
   | 0,_ => rfl
   | 1,_ => rfl
   | 2,_ => rfl
  rw [e] at h1 h2
  exact ⟨a,c,by have:=hrg k _ h1;rw [Nat.zero_add] at this;exact this,h2⟩)
 have hp3:=hg.ps3
 obtain ⟨bp,op,rfl,lbp,_⟩:=Rp.2.2.2 (by omega)
 have GP : Hid (∀ k,k < 3 → w.cell? ⟨bp,op + k,none⟩ = some (.int .i64 (at3 x.ps k))):=Lib.hid (fun k hk => by
  have e9 : at3 x.ps k = x.ps[k]'(by omega):=by unfold at3;rw [Int.toNat_natCast,List.getD_eq_getElem?_getD,List.getElem?_eq_getElem (by omega)];rfl
  rw [e9];exact (srow_cellE Rp (j:=k) (by omega)).2)
 have GM : Hid (∀ k : Nat,k < 3 → ∀ i ∈ quA x k,∃ m : Nat,i = m ∧ m < x.sz.length ∧ 1 ≤ at3 x.sz m ∧ at3 x.sz m ≤ 1200):=Lib.hid (fun k hk i hi => by
  obtain ⟨m,hm,hl,_⟩:=hg.mem k (by omega) (by omega) i hi
  exact ⟨m,hm,by omega,hg.szs m hl⟩)
 have GZ:=Lib.hid Rz
 have FIN : Hid (∀ W fb hb,Below w.heap.size w W → blk W fb = some (rowC ic (cF x 3) ++ []).toArray → blk W hb = some (rowC ic (hF x 3) ++ []).toArray → RetC x w (.returned (.tuple #[.slice (some ⟨fb,0,none⟩) 3 3,.slice (some ⟨hb,0,none⟩) 3 3])) W):=Lib.hid (fun W fb hb hB hf hh =>
  ⟨_,3,_,3,rfl,srow3 (a:=candA x 0) (b:=candA x 1) (c:=candA x 2) hf,srow3 (a:=headA x 0) (b:=headA x 1) (c:=headA x 2) hh,hB⟩)
 have hcp:=Rp.1
 rw [hp3] at hcp
 have hzc:=Rz.1
 obtain ⟨us,eu⟩ : ∃ z,z = x.us:=⟨_,rfl⟩
 obtain ⟨bu,eb⟩ : ∃ z,z = x.bu:=⟨_,rfl⟩
 obtain ⟨by',ey⟩ : ∃ z,z = x.by':=⟨_,rfl⟩
 obtain ⟨q0,eq0⟩ : ∃ z,z = x.dr.q:=⟨_,rfl⟩
 obtain ⟨t0,et0⟩ : ∃ z,z = x.dr.t:=⟨_,rfl⟩
 obtain ⟨nl,hnl⟩ : ∃ n,n = x.l.length:=⟨_,rfl⟩
 obtain ⟨nz,hnz⟩ : ∃ n,n = x.sz.length:=⟨_,rfl⟩
 have HU : Hid (x.us = us ∧ x.bu = bu ∧ x.by' = by'):=Lib.hid ⟨eu.symm,eb.symm,ey.symm⟩
 have HNZ:=Lib.hid hnz
 rw [← hnz] at hzc
 rw [← eu,← eb,← ey,← eq0,← et0,← hnl,← hnz]
 clear hQ hrg Rw Rd Rp Rl Rq Rz hg hlz hp3 eu eb ey eq0 et0 hnl hnz
 have mk:=mk3
 go_enter Tryd.func55,Tryd.ntmps55
 go_wp2
 go_step3
 go_upto_region 1 with fail
 refine wp_region_held_drew (S:=fun _ => True) (by kernel_rfl) trivial (fun hHeld => ?_)
 obtain ⟨d0,ed⟩ : ∃ v,v = (w.alloc (.cells #[.slice aw 3 cw,.int .i64 q0,.slice ad 3 cd,.int .i64 t0,.slice (some ⟨bp,op,none⟩) 3 cp,.slice al nl cl,.slice (some ⟨ob,0,none⟩) 3 cq,.slice az nz cz,.int .u64 us,.int .i64 bu,.int .i64 by'] 70)).drew:=⟨_,rfl⟩
 have kd0 : blk d0 w.heap.size = some #[.slice aw 3 cw,.int .i64 q0,.slice ad 3 cd,.int .i64 t0,.slice (some ⟨bp,op,none⟩) 3 cp,.slice al nl cl,.slice (some ⟨ob,0,none⟩) 3 cq,.slice az nz cz,.int .u64 us,.int .i64 bu,.int .i64 by']:=by rw [ed];exact blk_drew (blk_alloc_new _ _ _ rfl)
 have bd0 : Below w.heap.size w d0:=by rw [ed];exact ((Below.refl _ _).alloc (Nat.le_refl _) _).drew
 rw [← ed]
 clear ed
 have hTr : True:=trivial
 refine wpAnyH_ready (rs:=[0,1]) (by kernel_rfl) (by simp) ?_
 refine AllReadyH.cons rfl (fun K hK => ?_) ?_
 ·skip
  go_simp
  obtain ⟨u1,eu1⟩ : ∃ v,v = d0.alloc (.cells #[.int .i64 (-1),.int .i64 (-1),.int .i64 (-1)] 3):=⟨_,rfl⟩
  obtain ⟨fb,efb⟩ : ∃ v,v = d0.heap.size:=⟨_,rfl⟩
  have hB : Below d0.heap.size d0 u1:=(by rw [eu1];exact (Below.refl _ _).alloc (Nat.le_refl _) _)
  have ku1:=blk_below hB kd0
  have bu1:=bt bd0 hB
  have fu1 : blk u1 fb = some #[.int .i64 (-1),.int .i64 (-1),.int .i64 (-1)]:=(by rw [eu1];exact blk_alloc_new _ _ _ efb)
  have lfb : w.heap.size < fb:=(by rw [efb];exact blk_lt kd0)
  rw [← eu1,← efb]
  clear eu1 efb hB
  refine hK.out _ _ trivial (fun _ => ?_)
  clear hK K
  (try simp only[Act.put,jA,jB,jC,jD,jE,jF])
  refine jK (v:=?_) 2 ?_ ?_
  rotate_left;focus(intro W h;(try dsimp only at h);go_simp;(try with_reducible rfl));(try simp only[Act.put,jA,jB,jC,jD,jE,jF])
  refine jR 1 (fun K hK => ?_)
  go_simp
  obtain ⟨u2,eu2⟩ : ∃ v,v = u1.alloc (.cells #[.int .i64 0,.int .i64 0,.int .i64 0] 3):=⟨_,rfl⟩
  obtain ⟨hb,ehb⟩ : ∃ v,v = u1.heap.size:=⟨_,rfl⟩
  have hB : Below u1.heap.size u1 u2:=(by rw [eu2];exact (Below.refl _ _).alloc (Nat.le_refl _) _)
  have ku2:=blk_below hB ku1
  have bu2:=bt bu1 hB
  have hu2 : blk u2 hb = some #[.int .i64 0,.int .i64 0,.int .i64 0]:=(by rw [eu2];exact blk_alloc_new _ _ _ ehb)
  have lhb : w.heap.size < hb:=(by rw [ehb];exact blk_lt ku1)
  have fu2:=blk_below hB fu1
  have nfh : fb ≠ hb:=(by have:=blk_lt fu1;rw [← ehb] at this;omega)
  rw [← eu2,← ehb]
  clear eu2 ehb hB
  refine hK.out _ _ trivial (fun _ => ?_)
  clear hK K
  (try simp only[Act.put,jA,jB,jC,jD,jE,jF])
  refine jK (v:=?_) 3 ?_ ?_
  rotate_left;focus(intro W h;(try dsimp only at h);go_simp;(try with_reducible rfl));(try simp only[Act.put,jA,jB,jC,jD,jE,jF])
  refine wpAnyH_done (by kernel_rfl) ?_ _
  have RL : Hid ((Below w.heap.size w u2 ∧ blk u2 w.heap.size = some #[.slice aw 3 cw,.int .i64 q0,.slice ad 3 cd,.int .i64 t0,.slice (some ⟨bp,op,none⟩) 3 cp,.slice al nl cl,.slice (some ⟨ob,0,none⟩) 3 cq,.slice az nz cz,.int .u64 us,.int .i64 bu,.int .i64 by']) ∧ blk u2 fb = some (rowC ic (cF x 0) ++ []).toArray ∧ blk u2 hb = some (rowC ic (hF x 0) ++ []).toArray):=Lib.hid ⟨⟨bu2,ku2⟩,fu2,hu2⟩
  clear hHeld bu2 ku2 fu2 hu2
  try clear bu1
  try clear ku1
  try clear fu1
  try clear hu1
  have n2:=kn RL.out.1.2
  go_wp2
  go_step3
  go_wp2
  clear n2
  go_loopg [16] 3 (fun g s16 wx => ∃ k : Nat,k + g = 3 ∧ s16 = .int .i64 k ∧ Hid ((Below w.heap.size w wx ∧ blk wx w.heap.size = some #[.slice aw 3 cw,.int .i64 q0,.slice ad 3 cd,.int .i64 t0,.slice (some ⟨bp,op,none⟩) 3 cp,.slice al nl cl,.slice (some ⟨ob,0,none⟩) 3 cq,.slice az nz cz,.int .u64 us,.int .i64 bu,.int .i64 by']) ∧ blk wx fb = some (rowC ic (cF x k) ++ []).toArray ∧ blk wx hb = some (rowC ic (hF x k) ++ []).toArray))
  case atStart => exact ⟨0,rfl,rfl,RL⟩
  case round =>
   clear RL
   obtain ⟨k,hkg,rfl,HR⟩:=hrel
   cases gk with
   | zero =>
    obtain rfl : k = 3:=by omega
    go_wp2
    (try rw [Exit.noGoto_ret])
    go_ret2
    exact FIN.out _ _ _ HR.out.1.1 HR.out.2.1 HR.out.2.2
   | succ g =>
    have hkz : (k : Int) < 3:=by omega
    have hk3 : k < 3:=by omega
    obtain ⟨q,hq⟩ : ∃ q,q = quA x k:=⟨_,rfl⟩
    obtain ⟨aq,cq0,hcq,RQ⟩:=GQ.out k hk3
    rw [← hq] at hcq RQ
    have HQ:=Lib.hid hq
    obtain ⟨lq,hnq⟩ : ∃ n,n = q.length:=⟨_,rfl⟩
    rw [← hnq] at hcq
    have ccq : wr.cell? ⟨ob,k,none⟩ = some (.slice aq lq cq0):=(HR.out.1.1.cell (p:=⟨ob,k,none⟩) lob).trans hcq
    have nk:=kn HR.out.1.2
    have hp0 : wr.cell? ⟨bp,op + k,none⟩ = some (.int .i64 (at3 x.ps k)):=(HR.out.1.1.cell (p:=⟨bp,op + k,none⟩) lbp).trans (GP.out k hk3)
    obtain ⟨pk,hpk⟩ : ∃ p,p = at3 x.ps k:=⟨_,rfl⟩
    rw [← hpk] at hp0
    have HPK:=Lib.hid (show w.cell? ⟨bp,op + k,none⟩ = some (.int .i64 pk) by rw [hpk];exact GP.out k hk3)
    have cand : candA x k = candQ (fitS x.sz us bu) (decide (by' ≤ pk)) q:=by rw [hpk,HQ.out];unfold candA;rw [HU.out.1,HU.out.2.1,HU.out.2.2]
    have HC:=Lib.hid cand
    have RQ9:=Lib.hid RQ
    have hqc:=RQ.1
    have hqm:=RQ.2.1
    unfold maxLen at hqm
    rw [← hnq] at hqc
    have HNQ:=Lib.hid hnq
    clear cand hcq hq RQ hpk hnq
    go_wp2
    go_loopg [23] lq (fun g2 s23 wy => ∃ j : Nat,j + g2 = lq ∧ s23 = .int .i64 j ∧ Hid (candQ (fitS x.sz us bu) (decide (by' ≤ pk)) q = cRest (fitS x.sz us bu) (decide (by' ≤ pk)) q j) ∧ Hid ((Below w.heap.size w wy ∧ blk wy w.heap.size = some #[.slice aw 3 cw,.int .i64 q0,.slice ad 3 cd,.int .i64 t0,.slice (some ⟨bp,op,none⟩) 3 cp,.slice al nl cl,.slice (some ⟨ob,0,none⟩) 3 cq,.slice az nz cz,.int .u64 us,.int .i64 bu,.int .i64 by']) ∧ blk wy fb = some (rowC ic (cF x k) ++ []).toArray ∧ blk wy hb = some (rowC ic (hF x k) ++ []).toArray))
    case atStart => exact ⟨0,by omega,rfl,Lib.hid rfl,HR⟩
    case round =>
     obtain ⟨j,hjg,rfl,HJ,HR2⟩:=hrel
     clear HR nk ccq hp0
     have nk:=kn HR2.out.1.2
     have hp0 : wr.cell? ⟨bp,op + k,none⟩ = some (.int .i64 pk):=(HR2.out.1.1.cell (p:=⟨bp,op + k,none⟩) lbp).trans HPK.out
     cases gk with
     | zero =>
      obtain rfl : j = lq:=by omega
      have cn : candA x k = -1:=by rw [HC.out,HJ.out,HNQ.out];exact cRest_end
      have CN:=Lib.hid cn
      clear cn
      go_wp2
      go_roundg g
      case measure => omega
      case rel => exact ⟨k + 1,by omega,by go_num,Lib.hid ⟨⟨HR2.out.1.1,HR2.out.1.2⟩,by rw [cF_none hk3 CN.out];exact HR2.out.2.1,by rw [hF_none hk3 CN.out];exact HR2.out.2.2⟩⟩
     | succ g2 =>
      have hjl : j < lq:=by omega
      have hjz : (j : Int) < (lq : Int):=by omega
      have hjq : j < q.length:=by rw [← HNQ.out];exact hjl
      obtain ⟨bq,oq,rfl,lbq,_⟩:=RQ9.out.2.2.2 (by omega)
      have cel : wr.cell? ⟨bq,oq + j,none⟩ = some (.int .i64 q[j]):=(HR2.out.1.1.cell (p:=⟨bq,oq + j,none⟩) lbq).trans (srow_cellE RQ9.out hjq).2
      obtain ⟨m,hm,hml,hz1,hz2⟩:=GM.out k hk3 q[j] (by rw [← HQ.out];exact List.getElem_mem _)
      rw [hm] at cel
      obtain ⟨bz,oz,rfl,lbz,_⟩:=GZ.out.2.2.2 (by omega)
      have cz0 : wr.cell? ⟨bz,oz + m,none⟩ = some (.int .i64 (at3 x.sz m)):=(HR2.out.1.1.cell (p:=⟨bz,oz + m,none⟩) lbz).trans (by
       have h9:=(srow_cellE GZ.out hml).2
       have e9 : at3 x.sz m = x.sz[m]:=by unfold at3;rw [Int.toNat_natCast,List.getD_eq_getElem?_getD,List.getElem?_eq_getElem hml];rfl
       rw [e9];exact h9)
      obtain ⟨z,hz⟩ : ∃ z,at3 x.sz m = z:=⟨_,rfl⟩
      rw [hz] at cz0 hz1 hz2
      have hmz : m < nz:=by rw [HNZ.out];exact hml
      have hmi : (m : Int) < (nz : Int):=by omega
      have hzw : IntKind.u64.wrap z = z:=IntWalk.u64_in _ (by omega)
      have HM:=Lib.hid hm
      have HZ:=Lib.hid hz
      clear hm hz hml
      by_cases hb : j ≠ 0 ∧ by' ≤ pk
      ·have cn : candA x k = -1:=by rw [HC.out,HJ.out,decide_eq_true hb.2];exact cRest_blk hb.1
       have CN:=Lib.hid cn
       have t1 : decide ((0 : Int) < (j : Int)) = true:=decide_eq_true (by omega)
       have t1n : decide (0 < j) = true:=decide_eq_true (by omega)
       have t2 : decide (by' ≤ pk) = true:=decide_eq_true hb.2
       clear cn hb
       go_upto_region 8 with fail
       go_quiet (fail)
       go_wp2
       go_roundg g
       case measure => omega
       case rel => exact ⟨k + 1,by omega,by go_num,Lib.hid ⟨⟨below_drewN HR2.out.1.1,HR2.out.1.2⟩,by rw [cF_none hk3 CN.out];exact HR2.out.2.1,by rw [hF_none hk3 CN.out];exact HR2.out.2.2⟩⟩
      ·by_cases hj0 : j = 0
       ·have HJ0:=Lib.hid hj0
        have HB0:=Lib.hid (show j = 0 ∨ decide (by' ≤ pk) = false from .inl hj0)
        have t1 : decide ((0 : Int) < (j : Int)) = false:=decide_eq_false (by omega)
        have t1n : decide (0 < j) = false:=decide_eq_false (by omega)
        clear hb hj0
        by_cases h1 : z ≤ us
        ·by_cases h2 : z ≤ bu
         ·have fq : fitS x.sz us bu q[j] = true:=by unfold fitS;rw [HM.out,HZ.out,decide_eq_true h1,decide_eq_true h2];rfl
          have HQJ : candA x k = q[j]:=by rw [HC.out,HJ.out];exact cRest_fit hjq HB0.out fq
          have HH : headA x k = z:=by unfold headA;rw [if_neg (by rw [HQJ,HM.out];omega),HQJ,HM.out];exact HZ.out
          have CM : candA x k = m:=HQJ.trans HM.out
          obtain ⟨y1,hy1⟩ : ∃ y,(cF x k)[k]? = some y:=⟨_,List.getElem?_eq_getElem (by simpa [cF] using hk3)⟩
          obtain ⟨y2,hy2⟩ : ∃ y,(hF x k)[k]? = some y:=⟨_,List.getElem?_eq_getElem (by simpa [hF] using hk3)⟩
          have cf:=blk_cellI hy1 HR2.out.2.1
          have ch:=blk_cellI hy2 HR2.out.2.2
          have ff:=blk_frozen HR2.out.2.1 k
          have fh:=blk_frozen HR2.out.2.2 k
          have K1 : blk (wr.setCell ⟨fb,k,none⟩ (.int .i64 m)) fb = some (rowC ic (cF x (k + 1)) ++ []).toArray:=by rw [← cF_some hk3,CM];exact blk_setI hy1 HR2.out.2.1
          have K2 : blk ((wr.setCell ⟨fb,k,none⟩ (.int .i64 m)).setCell ⟨hb,k,none⟩ (.int .i64 z)) hb = some (rowC ic (hF x (k + 1)) ++ []).toArray:=by rw [← hF_some hk3,HH];exact blk_setI hy2 (blk_other HR2.out.2.2 (show hb ≠ fb from fun e => nfh e.symm))
          have K3:=blk_other (v:=.int .i64 z) (a:=⟨hb,k,none⟩) K1 nfh
          have KB:=((HR2.out.1.1.setCell (p:=⟨fb,k,none⟩) (Nat.le_of_lt lfb) (.int .i64 m)).setCell (p:=⟨hb,k,none⟩) (Nat.le_of_lt lhb) (.int .i64 z))
          have KX:=blk_other (v:=.int .i64 z) (a:=⟨hb,k,none⟩) (blk_other (v:=.int .i64 m) (a:=⟨fb,k,none⟩) HR2.out.1.2 (show w.heap.size ≠ fb by omega)) (show w.heap.size ≠ hb by omega)
          have KF:=Lib.hid (And.intro (And.intro KB KX) (And.intro K3 K2))
          have t3 : decide (z ≤ us) = true:=decide_eq_true h1
          have t4 : decide (z ≤ bu) = true:=decide_eq_true h2
          clear fq HQJ HH CM hy1 hy2 K1 K2 K3 KB KX h1 h2
          go_upto_region 8 with fail
          go_quiet (fail)
          go_wp2
          go_roundg g
          case measure => omega
          case rel => exact ⟨k + 1,by omega,by go_num,Lib.hid ⟨⟨below_drewN KF.out.1.1,KF.out.1.2⟩,KF.out.2.1,KF.out.2.2⟩⟩
         ·have fq : fitS x.sz us bu q[j] = false:=by unfold fitS;rw [HM.out,HZ.out,decide_eq_false h2];simp
          have HJ2:=Lib.hid (HJ.out.trans (cRest_next hjq HB0.out fq))
          clear fq
          have t3 : decide (z ≤ us) = true:=decide_eq_true h1
          have t4 : decide (z ≤ bu) = false:=decide_eq_false h2
          clear h1 h2
          go_upto_region 8 with fail
          go_quiet (fail)
          go_wp2
          go_roundg g2
          case measure => omega
          case rel => exact ⟨j + 1,by omega,by go_num,HJ2,Lib.hid ⟨⟨below_drewN HR2.out.1.1,HR2.out.1.2⟩,HR2.out.2.1,HR2.out.2.2⟩⟩
        ·have fq : fitS x.sz us bu q[j] = false:=by unfold fitS;rw [HM.out,HZ.out,decide_eq_false h1];simp
         have HJ2:=Lib.hid (HJ.out.trans (cRest_next hjq HB0.out fq))
         clear fq
         have t3 : decide (z ≤ us) = false:=decide_eq_false h1
         clear h1
         go_upto_region 8 with fail
         go_quiet (fail)
         go_wp2
         go_roundg g2
         case measure => omega
         case rel => exact ⟨j + 1,by omega,by go_num,HJ2,Lib.hid ⟨⟨below_drewN HR2.out.1.1,HR2.out.1.2⟩,HR2.out.2.1,HR2.out.2.2⟩⟩
       ·have t1 : decide ((0 : Int) < (j : Int)) = true:=decide_eq_true (by omega)
        have t1n : decide (0 < j) = true:=decide_eq_true (by omega)
        have t2 : decide (by' ≤ pk) = false:=decide_eq_false (fun h => hb ⟨hj0,h⟩)
        have HB0:=Lib.hid (show j = 0 ∨ decide (by' ≤ pk) = false from .inr t2)
        clear hb hj0
        by_cases h1 : z ≤ us
        ·by_cases h2 : z ≤ bu
         ·have fq : fitS x.sz us bu q[j] = true:=by unfold fitS;rw [HM.out,HZ.out,decide_eq_true h1,decide_eq_true h2];rfl
          have HQJ : candA x k = q[j]:=by rw [HC.out,HJ.out];exact cRest_fit hjq HB0.out fq
          have HH : headA x k = z:=by unfold headA;rw [if_neg (by rw [HQJ,HM.out];omega),HQJ,HM.out];exact HZ.out
          have CM : candA x k = m:=HQJ.trans HM.out
          obtain ⟨y1,hy1⟩ : ∃ y,(cF x k)[k]? = some y:=⟨_,List.getElem?_eq_getElem (by simpa [cF] using hk3)⟩
          obtain ⟨y2,hy2⟩ : ∃ y,(hF x k)[k]? = some y:=⟨_,List.getElem?_eq_getElem (by simpa [hF] using hk3)⟩
          have cf:=blk_cellI hy1 HR2.out.2.1
          have ch:=blk_cellI hy2 HR2.out.2.2
          have ff:=blk_frozen HR2.out.2.1 k
          have fh:=blk_frozen HR2.out.2.2 k
          have K1 : blk (wr.setCell ⟨fb,k,none⟩ (.int .i64 m)) fb = some (rowC ic (cF x (k + 1)) ++ []).toArray:=by rw [← cF_some hk3,CM];exact blk_setI hy1 HR2.out.2.1
          have K2 : blk ((wr.setCell ⟨fb,k,none⟩ (.int .i64 m)).setCell ⟨hb,k,none⟩ (.int .i64 z)) hb = some (rowC ic (hF x (k + 1)) ++ []).toArray:=by rw [← hF_some hk3,HH];exact blk_setI hy2 (blk_other HR2.out.2.2 (show hb ≠ fb from fun e => nfh e.symm))
          have K3:=blk_other (v:=.int .i64 z) (a:=⟨hb,k,none⟩) K1 nfh
          have KB:=((HR2.out.1.1.setCell (p:=⟨fb,k,none⟩) (Nat.le_of_lt lfb) (.int .i64 m)).setCell (p:=⟨hb,k,none⟩) (Nat.le_of_lt lhb) (.int .i64 z))
          have KX:=blk_other (v:=.int .i64 z) (a:=⟨hb,k,none⟩) (blk_other (v:=.int .i64 m) (a:=⟨fb,k,none⟩) HR2.out.1.2 (show w.heap.size ≠ fb by omega)) (show w.heap.size ≠ hb by omega)
          have KF:=Lib.hid (And.intro (And.intro KB KX) (And.intro K3 K2))
          have t3 : decide (z ≤ us) = true:=decide_eq_true h1
          have t4 : decide (z ≤ bu) = true:=decide_eq_true h2
          clear fq HQJ HH CM hy1 hy2 K1 K2 K3 KB KX h1 h2
          go_upto_region 8 with fail
          go_quiet (fail)
          go_wp2
          go_roundg g
          case measure => omega
          case rel => exact ⟨k + 1,by omega,by go_num,Lib.hid ⟨⟨below_drewN KF.out.1.1,KF.out.1.2⟩,KF.out.2.1,KF.out.2.2⟩⟩
         ·have fq : fitS x.sz us bu q[j] = false:=by unfold fitS;rw [HM.out,HZ.out,decide_eq_false h2];simp
          have HJ2:=Lib.hid (HJ.out.trans (cRest_next hjq HB0.out fq))
          clear fq
          have t3 : decide (z ≤ us) = true:=decide_eq_true h1
          have t4 : decide (z ≤ bu) = false:=decide_eq_false h2
          clear h1 h2
          go_upto_region 8 with fail
          go_quiet (fail)
          go_wp2
          go_roundg g2
          case measure => omega
          case rel => exact ⟨j + 1,by omega,by go_num,HJ2,Lib.hid ⟨⟨below_drewN HR2.out.1.1,HR2.out.1.2⟩,HR2.out.2.1,HR2.out.2.2⟩⟩
        ·have fq : fitS x.sz us bu q[j] = false:=by unfold fitS;rw [HM.out,HZ.out,decide_eq_false h1];simp
         have HJ2:=Lib.hid (HJ.out.trans (cRest_next hjq HB0.out fq))
         clear fq
         have t3 : decide (z ≤ us) = false:=decide_eq_false h1
         clear h1
         go_upto_region 8 with fail
         go_quiet (fail)
         go_wp2
         go_roundg g2
         case measure => omega
         case rel => exact ⟨j + 1,by omega,by go_num,HJ2,Lib.hid ⟨⟨below_drewN HR2.out.1.1,HR2.out.1.2⟩,HR2.out.2.1,HR2.out.2.2⟩⟩
 refine AllReadyH.cons rfl (fun K hK => ?_) AllReadyH.nil
 go_simp
 obtain ⟨u1,eu1⟩ : ∃ v,v = d0.alloc (.cells #[.int .i64 0,.int .i64 0,.int .i64 0] 3):=⟨_,rfl⟩
 obtain ⟨hb,ehb⟩ : ∃ v,v = d0.heap.size:=⟨_,rfl⟩
 have hB : Below d0.heap.size d0 u1:=(by rw [eu1];exact (Below.refl _ _).alloc (Nat.le_refl _) _)
 have ku1:=blk_below hB kd0
 have bu1:=bt bd0 hB
 have hu1 : blk u1 hb = some #[.int .i64 0,.int .i64 0,.int .i64 0]:=(by rw [eu1];exact blk_alloc_new _ _ _ ehb)
 have lhb : w.heap.size < hb:=(by rw [ehb];exact blk_lt kd0)
 rw [← eu1,← ehb]
 clear eu1 ehb hB
 refine hK.out _ _ trivial (fun _ => ?_)
 clear hK K
 (try simp only[Act.put,jA,jB,jC,jD,jE,jF])
 refine jR 0 (fun K hK => ?_)
 go_simp
 obtain ⟨u2,eu2⟩ : ∃ v,v = u1.alloc (.cells #[.int .i64 (-1),.int .i64 (-1),.int .i64 (-1)] 3):=⟨_,rfl⟩
 obtain ⟨fb,efb⟩ : ∃ v,v = u1.heap.size:=⟨_,rfl⟩
 have hB : Below u1.heap.size u1 u2:=(by rw [eu2];exact (Below.refl _ _).alloc (Nat.le_refl _) _)
 have ku2:=blk_below hB ku1
 have bu2:=bt bu1 hB
 have fu2 : blk u2 fb = some #[.int .i64 (-1),.int .i64 (-1),.int .i64 (-1)]:=(by rw [eu2];exact blk_alloc_new _ _ _ efb)
 have lfb : w.heap.size < fb:=(by rw [efb];exact blk_lt ku1)
 have hu2:=blk_below hB hu1
 have nfh : fb ≠ hb:=(by have:=blk_lt hu1;rw [← efb] at this;omega)
 rw [← eu2,← efb]
 clear eu2 efb hB
 refine hK.out _ _ trivial (fun _ => ?_)
 clear hK K
 (try simp only[Act.put,jA,jB,jC,jD,jE,jF])
 refine jK (v:=?_) 2 ?_ ?_
 rotate_left;focus(intro W h;(try dsimp only at h);go_simp;(try with_reducible rfl));(try simp only[Act.put,jA,jB,jC,jD,jE,jF])
 refine jK (v:=?_) 3 ?_ ?_
 rotate_left;focus(intro W h;(try dsimp only at h);go_simp;(try with_reducible rfl));(try simp only[Act.put,jA,jB,jC,jD,jE,jF])
 refine wpAnyH_done (by kernel_rfl) ?_ _
 have RL : Hid ((Below w.heap.size w u2 ∧ blk u2 w.heap.size = some #[.slice aw 3 cw,.int .i64 q0,.slice ad 3 cd,.int .i64 t0,.slice (some ⟨bp,op,none⟩) 3 cp,.slice al nl cl,.slice (some ⟨ob,0,none⟩) 3 cq,.slice az nz cz,.int .u64 us,.int .i64 bu,.int .i64 by']) ∧ blk u2 fb = some (rowC ic (cF x 0) ++ []).toArray ∧ blk u2 hb = some (rowC ic (hF x 0) ++ []).toArray):=Lib.hid ⟨⟨bu2,ku2⟩,fu2,hu2⟩
 clear hHeld bu2 ku2 fu2 hu2
 try clear bu1
 try clear ku1
 try clear fu1
 try clear hu1
 have n2:=kn RL.out.1.2
 go_wp2
 go_step3
 go_wp2
 clear n2
 go_loopg [16] 3 (fun g s16 wx => ∃ k : Nat,k + g = 3 ∧ s16 = .int .i64 k ∧ Hid ((Below w.heap.size w wx ∧ blk wx w.heap.size = some #[.slice aw 3 cw,.int .i64 q0,.slice ad 3 cd,.int .i64 t0,.slice (some ⟨bp,op,none⟩) 3 cp,.slice al nl cl,.slice (some ⟨ob,0,none⟩) 3 cq,.slice az nz cz,.int .u64 us,.int .i64 bu,.int .i64 by']) ∧ blk wx fb = some (rowC ic (cF x k) ++ []).toArray ∧ blk wx hb = some (rowC ic (hF x k) ++ []).toArray))
 case atStart => exact ⟨0,rfl,rfl,RL⟩
 case round =>
  clear RL
  obtain ⟨k,hkg,rfl,HR⟩:=hrel
  cases gk with
  | zero =>
   obtain rfl : k = 3:=by omega
   go_wp2
   (try rw [Exit.noGoto_ret])
   go_ret2
   exact FIN.out _ _ _ HR.out.1.1 HR.out.2.1 HR.out.2.2
  | succ g =>
   have hkz : (k : Int) < 3:=by omega
   have hk3 : k < 3:=by omega
   obtain ⟨q,hq⟩ : ∃ q,q = quA x k:=⟨_,rfl⟩
   obtain ⟨aq,cq0,hcq,RQ⟩:=GQ.out k hk3
   rw [← hq] at hcq RQ
   have HQ:=Lib.hid hq
   obtain ⟨lq,hnq⟩ : ∃ n,n = q.length:=⟨_,rfl⟩
   rw [← hnq] at hcq
   have ccq : wr.cell? ⟨ob,k,none⟩ = some (.slice aq lq cq0):=(HR.out.1.1.cell (p:=⟨ob,k,none⟩) lob).trans hcq
   have nk:=kn HR.out.1.2
   have hp0 : wr.cell? ⟨bp,op + k,none⟩ = some (.int .i64 (at3 x.ps k)):=(HR.out.1.1.cell (p:=⟨bp,op + k,none⟩) lbp).trans (GP.out k hk3)
   obtain ⟨pk,hpk⟩ : ∃ p,p = at3 x.ps k:=⟨_,rfl⟩
   rw [← hpk] at hp0
   have HPK:=Lib.hid (show w.cell? ⟨bp,op + k,none⟩ = some (.int .i64 pk) by rw [hpk];exact GP.out k hk3)
   have cand : candA x k = candQ (fitS x.sz us bu) (decide (by' ≤ pk)) q:=by rw [hpk,HQ.out];unfold candA;rw [HU.out.1,HU.out.2.1,HU.out.2.2]
   have HC:=Lib.hid cand
   have RQ9:=Lib.hid RQ
   have hqc:=RQ.1
   have hqm:=RQ.2.1
   unfold maxLen at hqm
   rw [← hnq] at hqc
   have HNQ:=Lib.hid hnq
   clear cand hcq hq RQ hpk hnq
   go_wp2
   go_loopg [23] lq (fun g2 s23 wy => ∃ j : Nat,j + g2 = lq ∧ s23 = .int .i64 j ∧ Hid (candQ (fitS x.sz us bu) (decide (by' ≤ pk)) q = cRest (fitS x.sz us bu) (decide (by' ≤ pk)) q j) ∧ Hid ((Below w.heap.size w wy ∧ blk wy w.heap.size = some #[.slice aw 3 cw,.int .i64 q0,.slice ad 3 cd,.int .i64 t0,.slice (some ⟨bp,op,none⟩) 3 cp,.slice al nl cl,.slice (some ⟨ob,0,none⟩) 3 cq,.slice az nz cz,.int .u64 us,.int .i64 bu,.int .i64 by']) ∧ blk wy fb = some (rowC ic (cF x k) ++ []).toArray ∧ blk wy hb = some (rowC ic (hF x k) ++ []).toArray))
   case atStart => exact ⟨0,by omega,rfl,Lib.hid rfl,HR⟩
   case round =>
    obtain ⟨j,hjg,rfl,HJ,HR2⟩:=hrel
    clear HR nk ccq hp0
    have nk:=kn HR2.out.1.2
    have hp0 : wr.cell? ⟨bp,op + k,none⟩ = some (.int .i64 pk):=(HR2.out.1.1.cell (p:=⟨bp,op + k,none⟩) lbp).trans HPK.out
    cases gk with
    | zero =>
     obtain rfl : j = lq:=by omega
     have cn : candA x k = -1:=by rw [HC.out,HJ.out,HNQ.out];exact cRest_end
     have CN:=Lib.hid cn
     clear cn
     go_wp2
     go_roundg g
     case measure => omega
     case rel => exact ⟨k + 1,by omega,by go_num,Lib.hid ⟨⟨HR2.out.1.1,HR2.out.1.2⟩,by rw [cF_none hk3 CN.out];exact HR2.out.2.1,by rw [hF_none hk3 CN.out];exact HR2.out.2.2⟩⟩
    | succ g2 =>
     have hjl : j < lq:=by omega
     have hjz : (j : Int) < (lq : Int):=by omega
     have hjq : j < q.length:=by rw [← HNQ.out];exact hjl
     obtain ⟨bq,oq,rfl,lbq,_⟩:=RQ9.out.2.2.2 (by omega)
     have cel : wr.cell? ⟨bq,oq + j,none⟩ = some (.int .i64 q[j]):=(HR2.out.1.1.cell (p:=⟨bq,oq + j,none⟩) lbq).trans (srow_cellE RQ9.out hjq).2
     obtain ⟨m,hm,hml,hz1,hz2⟩:=GM.out k hk3 q[j] (by rw [← HQ.out];exact List.getElem_mem _)
     rw [hm] at cel
     obtain ⟨bz,oz,rfl,lbz,_⟩:=GZ.out.2.2.2 (by omega)
     have cz0 : wr.cell? ⟨bz,oz + m,none⟩ = some (.int .i64 (at3 x.sz m)):=(HR2.out.1.1.cell (p:=⟨bz,oz + m,none⟩) lbz).trans (by
      have h9:=(srow_cellE GZ.out hml).2
      have e9 : at3 x.sz m = x.sz[m]:=by unfold at3;rw [Int.toNat_natCast,List.getD_eq_getElem?_getD,List.getElem?_eq_getElem hml];rfl
      rw [e9];exact h9)
     obtain ⟨z,hz⟩ : ∃ z,at3 x.sz m = z:=⟨_,rfl⟩
     rw [hz] at cz0 hz1 hz2
     have hmz : m < nz:=by rw [HNZ.out];exact hml
     have hmi : (m : Int) < (nz : Int):=by omega
     have hzw : IntKind.u64.wrap z = z:=IntWalk.u64_in _ (by omega)
     have HM:=Lib.hid hm
     have HZ:=Lib.hid hz
     clear hm hz hml
     by_cases hb : j ≠ 0 ∧ by' ≤ pk
     ·have cn : candA x k = -1:=by rw [HC.out,HJ.out,decide_eq_true hb.2];exact cRest_blk hb.1
      have CN:=Lib.hid cn
      have t1 : decide ((0 : Int) < (j : Int)) = true:=decide_eq_true (by omega)
      have t1n : decide (0 < j) = true:=decide_eq_true (by omega)
      have t2 : decide (by' ≤ pk) = true:=decide_eq_true hb.2
      clear cn hb
      go_upto_region 8 with fail
      go_quiet (fail)
      go_wp2
      go_roundg g
      case measure => omega
      case rel => exact ⟨k + 1,by omega,by go_num,Lib.hid ⟨⟨below_drewN HR2.out.1.1,HR2.out.1.2⟩,by rw [cF_none hk3 CN.out];exact HR2.out.2.1,by rw [hF_none hk3 CN.out];exact HR2.out.2.2⟩⟩
     ·by_cases hj0 : j = 0
      ·have HJ0:=Lib.hid hj0
       have HB0:=Lib.hid (show j = 0 ∨ decide (by' ≤ pk) = false from .inl hj0)
       have t1 : decide ((0 : Int) < (j : Int)) = false:=decide_eq_false (by omega)
       have t1n : decide (0 < j) = false:=decide_eq_false (by omega)
       clear hb hj0
       by_cases h1 : z ≤ us
       ·by_cases h2 : z ≤ bu
        ·have fq : fitS x.sz us bu q[j] = true:=by unfold fitS;rw [HM.out,HZ.out,decide_eq_true h1,decide_eq_true h2];rfl
         have HQJ : candA x k = q[j]:=by rw [HC.out,HJ.out];exact cRest_fit hjq HB0.out fq
         have HH : headA x k = z:=by unfold headA;rw [if_neg (by rw [HQJ,HM.out];omega),HQJ,HM.out];exact HZ.out
         have CM : candA x k = m:=HQJ.trans HM.out
         obtain ⟨y1,hy1⟩ : ∃ y,(cF x k)[k]? = some y:=⟨_,List.getElem?_eq_getElem (by simpa [cF] using hk3)⟩
         obtain ⟨y2,hy2⟩ : ∃ y,(hF x k)[k]? = some y:=⟨_,List.getElem?_eq_getElem (by simpa [hF] using hk3)⟩
         have cf:=blk_cellI hy1 HR2.out.2.1
         have ch:=blk_cellI hy2 HR2.out.2.2
         have ff:=blk_frozen HR2.out.2.1 k
         have fh:=blk_frozen HR2.out.2.2 k
         have K1 : blk (wr.setCell ⟨fb,k,none⟩ (.int .i64 m)) fb = some (rowC ic (cF x (k + 1)) ++ []).toArray:=by rw [← cF_some hk3,CM];exact blk_setI hy1 HR2.out.2.1
         have K2 : blk ((wr.setCell ⟨fb,k,none⟩ (.int .i64 m)).setCell ⟨hb,k,none⟩ (.int .i64 z)) hb = some (rowC ic (hF x (k + 1)) ++ []).toArray:=by rw [← hF_some hk3,HH];exact blk_setI hy2 (blk_other HR2.out.2.2 (show hb ≠ fb from fun e => nfh e.symm))
         have K3:=blk_other (v:=.int .i64 z) (a:=⟨hb,k,none⟩) K1 nfh
         have KB:=((HR2.out.1.1.setCell (p:=⟨fb,k,none⟩) (Nat.le_of_lt lfb) (.int .i64 m)).setCell (p:=⟨hb,k,none⟩) (Nat.le_of_lt lhb) (.int .i64 z))
         have KX:=blk_other (v:=.int .i64 z) (a:=⟨hb,k,none⟩) (blk_other (v:=.int .i64 m) (a:=⟨fb,k,none⟩) HR2.out.1.2 (show w.heap.size ≠ fb by omega)) (show w.heap.size ≠ hb by omega)
         have KF:=Lib.hid (And.intro (And.intro KB KX) (And.intro K3 K2))
         have t3 : decide (z ≤ us) = true:=decide_eq_true h1
         have t4 : decide (z ≤ bu) = true:=decide_eq_true h2
         clear fq HQJ HH CM hy1 hy2 K1 K2 K3 KB KX h1 h2
         go_upto_region 8 with fail
         go_quiet (fail)
         go_wp2
         go_roundg g
         case measure => omega
         case rel => exact ⟨k + 1,by omega,by go_num,Lib.hid ⟨⟨below_drewN KF.out.1.1,KF.out.1.2⟩,KF.out.2.1,KF.out.2.2⟩⟩
        ·have fq : fitS x.sz us bu q[j] = false:=by unfold fitS;rw [HM.out,HZ.out,decide_eq_false h2];simp
         have HJ2:=Lib.hid (HJ.out.trans (cRest_next hjq HB0.out fq))
         clear fq
         have t3 : decide (z ≤ us) = true:=decide_eq_true h1
         have t4 : decide (z ≤ bu) = false:=decide_eq_false h2
         clear h1 h2
         go_upto_region 8 with fail
         go_quiet (fail)
         go_wp2
         go_roundg g2
         case measure => omega
         case rel => exact ⟨j + 1,by omega,by go_num,HJ2,Lib.hid ⟨⟨below_drewN HR2.out.1.1,HR2.out.1.2⟩,HR2.out.2.1,HR2.out.2.2⟩⟩
       ·have fq : fitS x.sz us bu q[j] = false:=by unfold fitS;rw [HM.out,HZ.out,decide_eq_false h1];simp
        have HJ2:=Lib.hid (HJ.out.trans (cRest_next hjq HB0.out fq))
        clear fq
        have t3 : decide (z ≤ us) = false:=decide_eq_false h1
        clear h1
        go_upto_region 8 with fail
        go_quiet (fail)
        go_wp2
        go_roundg g2
        case measure => omega
        case rel => exact ⟨j + 1,by omega,by go_num,HJ2,Lib.hid ⟨⟨below_drewN HR2.out.1.1,HR2.out.1.2⟩,HR2.out.2.1,HR2.out.2.2⟩⟩
      ·have t1 : decide ((0 : Int) < (j : Int)) = true:=decide_eq_true (by omega)
       have t1n : decide (0 < j) = true:=decide_eq_true (by omega)
       have t2 : decide (by' ≤ pk) = false:=decide_eq_false (fun h => hb ⟨hj0,h⟩)
       have HB0:=Lib.hid (show j = 0 ∨ decide (by' ≤ pk) = false from .inr t2)
       clear hb hj0
       by_cases h1 : z ≤ us
       ·by_cases h2 : z ≤ bu
        ·have fq : fitS x.sz us bu q[j] = true:=by unfold fitS;rw [HM.out,HZ.out,decide_eq_true h1,decide_eq_true h2];rfl
         have HQJ : candA x k = q[j]:=by rw [HC.out,HJ.out];exact cRest_fit hjq HB0.out fq
         have HH : headA x k = z:=by unfold headA;rw [if_neg (by rw [HQJ,HM.out];omega),HQJ,HM.out];exact HZ.out
         have CM : candA x k = m:=HQJ.trans HM.out
         obtain ⟨y1,hy1⟩ : ∃ y,(cF x k)[k]? = some y:=⟨_,List.getElem?_eq_getElem (by simpa [cF] using hk3)⟩
         obtain ⟨y2,hy2⟩ : ∃ y,(hF x k)[k]? = some y:=⟨_,List.getElem?_eq_getElem (by simpa [hF] using hk3)⟩
         have cf:=blk_cellI hy1 HR2.out.2.1
         have ch:=blk_cellI hy2 HR2.out.2.2
         have ff:=blk_frozen HR2.out.2.1 k
         have fh:=blk_frozen HR2.out.2.2 k
         have K1 : blk (wr.setCell ⟨fb,k,none⟩ (.int .i64 m)) fb = some (rowC ic (cF x (k + 1)) ++ []).toArray:=by rw [← cF_some hk3,CM];exact blk_setI hy1 HR2.out.2.1
         have K2 : blk ((wr.setCell ⟨fb,k,none⟩ (.int .i64 m)).setCell ⟨hb,k,none⟩ (.int .i64 z)) hb = some (rowC ic (hF x (k + 1)) ++ []).toArray:=by rw [← hF_some hk3,HH];exact blk_setI hy2 (blk_other HR2.out.2.2 (show hb ≠ fb from fun e => nfh e.symm))
         have K3:=blk_other (v:=.int .i64 z) (a:=⟨hb,k,none⟩) K1 nfh
         have KB:=((HR2.out.1.1.setCell (p:=⟨fb,k,none⟩) (Nat.le_of_lt lfb) (.int .i64 m)).setCell (p:=⟨hb,k,none⟩) (Nat.le_of_lt lhb) (.int .i64 z))
         have KX:=blk_other (v:=.int .i64 z) (a:=⟨hb,k,none⟩) (blk_other (v:=.int .i64 m) (a:=⟨fb,k,none⟩) HR2.out.1.2 (show w.heap.size ≠ fb by omega)) (show w.heap.size ≠ hb by omega)
         have KF:=Lib.hid (And.intro (And.intro KB KX) (And.intro K3 K2))
         have t3 : decide (z ≤ us) = true:=decide_eq_true h1
         have t4 : decide (z ≤ bu) = true:=decide_eq_true h2
         clear fq HQJ HH CM hy1 hy2 K1 K2 K3 KB KX h1 h2
         go_upto_region 8 with fail
         go_quiet (fail)
         go_wp2
         go_roundg g
         case measure => omega
         case rel => exact ⟨k + 1,by omega,by go_num,Lib.hid ⟨⟨below_drewN KF.out.1.1,KF.out.1.2⟩,KF.out.2.1,KF.out.2.2⟩⟩
        ·have fq : fitS x.sz us bu q[j] = false:=by unfold fitS;rw [HM.out,HZ.out,decide_eq_false h2];simp
         have HJ2:=Lib.hid (HJ.out.trans (cRest_next hjq HB0.out fq))
         clear fq
         have t3 : decide (z ≤ us) = true:=decide_eq_true h1
         have t4 : decide (z ≤ bu) = false:=decide_eq_false h2
         clear h1 h2
         go_upto_region 8 with fail
         go_quiet (fail)
         go_wp2
         go_roundg g2
         case measure => omega
         case rel => exact ⟨j + 1,by omega,by go_num,HJ2,Lib.hid ⟨⟨below_drewN HR2.out.1.1,HR2.out.1.2⟩,HR2.out.2.1,HR2.out.2.2⟩⟩
       ·have fq : fitS x.sz us bu q[j] = false:=by unfold fitS;rw [HM.out,HZ.out,decide_eq_false h1];simp
        have HJ2:=Lib.hid (HJ.out.trans (cRest_next hjq HB0.out fq))
        clear fq
        have t3 : decide (z ≤ us) = false:=decide_eq_false h1
        clear h1
        go_upto_region 8 with fail
        go_quiet (fail)
        go_wp2
        go_roundg g2
        case measure => omega
        case rel => exact ⟨j + 1,by omega,by go_num,HJ2,Lib.hid ⟨⟨below_drewN HR2.out.1.1,HR2.out.1.2⟩,HR2.out.2.1,HR2.out.2.2⟩⟩
theorem load_runW {P : Program} {o : Oper} {a : Act} (ty : TypeId) (x : Operand) (b off : Nat) (cs : List Value) (d : TypeDesc) (ho : o.op = .load ty x) (hx : a.eval x = .pointer (some ⟨b,off,none⟩)) (W : World) (hc : W.rangeAt b off cs)
    (hu : P.underlying ty = some d) (hd : d.isRow = true) (hi : (P.info? ty).map (·.size) = some cs.length) : (execOp a.eval o).run P W = .ok (.value (.agg cs.toArray)) W:=by
  unfold execOp
  simp only [ho,hx,Sem.run_bind,run_loadAt_mid W b off ty cs d hc hu hd hi,Result.andThen_ok]
  rfl
theorem rangeS {W : World} {b : Nat} {cs : List Value} (h : ∀ o,W.cell? ⟨b,o,none⟩ = cs.toArray[o]?) : W.rangeAt b 0 cs:=fun j v hj => by
  rw [Nat.zero_add,h j,List.getElem?_toArray];exact hj
theorem serveD_wq (h : List Int) : ∀ n (x : Rr),(serveD n x h).w = x.w ∧ (serveD n x h).q = x.q
  | 0,x => ⟨rfl,rfl⟩
  | n + 1,x => by
    unfold serveD
    split
    · exact ⟨rfl,rfl⟩
    · exact serveD_wq h n (passD x h)
theorem nextD_wq (x : Rr) (h : List Int) : (nextD x h).2.w = x.w ∧ (nextD x h).2.q = x.q:=serveD_wq h fuelD x
def RetH (S : Nat → Prop) (x : Wy) (w : World) (e : Ending) (w' : World) : Prop:=∃ c',e = .returned (.tuple #[.int .i64 (chooseS x).1,.agg c',.int .i64 (chooseS x).2.2]) ∧ WayS S w' c' (chooseS x).2.1 ∧ Below w.heap.size w w'
theorem next_gd (aw : Option Addr) (cw : Nat) (ad : Option Addr) (cd : Nat) (x : Rr) (ah : Option Addr) (ch : Nat) (h0 h1 h2 : Int) (w : World) (l1 : x.w.length = 3) (l2 : x.d.length = 3) (hw : SRow ic 1 w aw cw x.w) (hd : SRow ic 1 w ad cd x.d) (hh : SRow ic 1 w ah ch [h0,h1,h2]) :
    Calls Tryd.prog 62 #[.agg #[.slice aw 3 cw,.int .i64 x.q,.slice ad 3 cd,.int .i64 x.t],.slice ah 3 ch] w fun e w' => RetX x [h0,h1,h2] w e w':=by
  by_cases hb : linD x [h0,h1,h2] = 0
  · obtain ⟨ws,ds,q,t⟩:=x
    obtain ⟨w0,w1,w2,rfl⟩:=list3 l1
    obtain ⟨d0,d1,d2,rfl⟩:=list3 l2
    exact next_ok aw cw ad cd w0 w1 w2 d0 d1 d2 q t h0 h1 h2 ah ch w hw hd hh hb
  · have h9:=next_bad aw cw ad cd x ah ch [h0,h1,h2] w hw hd hh hb
    rw [l1,l2] at h9
    exact h9
set_option maxHeartbeats 6400000 in
theorem choose_bad (c : Array Value) (x : Wy) (hg : GdW x) (hlz : x.sz.length = x.l.length) (S : Nat → Prop) (w : World) (hS : ∀ b,S b → b < w.heap.size) (hW : WayS S w c x) (hne : linD x.dr (headsS x) ≠ 0) :
  Calls Tryd.prog 39 #[.agg c] w fun e w' => RetH S x w e w':=by
 obtain ⟨aw,cw,ad,cd,ap,cp,al,cl,ob,cq,az,cz,rfl,hcq3,hcqm,Rw,Rd,Rp,Rl,Rq,Rz,nw,nd,np,nl9,nz9⟩:=hW
 have hp3:=hg.ps3
 obtain ⟨l1,l2,_,_,_,_,_⟩:=hg.dr
 obtain ⟨wA,hwA⟩ : ∃ v,v = w.alloc (.cells #[.slice aw 3 cw,.int .i64 x.dr.q,.slice ad 3 cd,.int .i64 x.dr.t,.slice ap 3 cp,.slice al x.l.length cl,.slice (some ⟨ob,0,none⟩) 3 cq,.slice az x.sz.length cz,.int .u64 x.us,.int .i64 x.bu,.int .i64 x.by'] 70):=⟨_,rfl⟩
 obtain ⟨wB,hwB⟩ : ∃ v,v = wA.alloc (.cells #[.slice none 0 0,.int .i64 0,.slice none 0 0,.int .i64 0,.slice none 0 0,.slice none 0 0,.slice none 0 0,.slice none 0 0,.int .u64 0,.int .i64 0,.int .i64 0] 70):=⟨_,rfl⟩
 have BB : Below w.heap.size w wB:=by rw [hwB,hwA];exact ((Below.refl _ _).alloc (Nat.le_refl _) _).alloc (by simp) _
 have gc:=cand_ok _ x hg hlz wB ⟨aw,cw,ad,cd,ap,cp,al,cl,ob,cq,az,cz,rfl,hcq3,hcqm,Rw.below BB,Rd.below BB,Rp.below BB,Rl.below BB,Rq.at.below BB,Rz.below BB⟩
 rw [hwB,hwA] at gc
 have GC:=Lib.hid gc
 clear gc BB hwB hwA wB wA
 have NX : Hid (∀ W,Below w.heap.size w W → ∀ f2 e2,SRow ic 1 W f2 e2 (headsS x) → Calls Tryd.prog 62 #[.agg #[.slice aw 3 cw,.int .i64 x.dr.q,.slice ad 3 cd,.int .i64 x.dr.t],.slice f2 3 e2] W fun e w' => e = .returned (.tuple #[.int .i64 0,.agg #[.slice none 0 0,.int .i64 0,.slice none 0 0,.int .i64 0],.int .i64 (linD x.dr (headsS x))]) ∧ Below W.heap.size W w'):=Lib.hid (fun W hB f2 e2 hf => by
  refine (next_gd aw cw ad cd x.dr f2 e2 (headA x 0) (headA x 1) (headA x 2) W l1 l2 (Rw.below hB) (Rd.below hB) hf).mono ?_
  rintro e w' ⟨h1,⟨_,h2⟩|⟨h2,_⟩⟩
  ·exact ⟨h2,h1⟩
  ·exact absurd h2 hne)
 have FIN : Hid (∀ T,Below w.heap.size w T → RetH S x w (.returned (.tuple #[.int .i64 0,.agg #[.slice aw 3 cw,.int .i64 x.dr.q,.slice ad 3 cd,.int .i64 x.dr.t,.slice ap 3 cp,.slice al x.l.length cl,.slice (some ⟨ob,0,none⟩) 3 cq,.slice az x.sz.length cz,.int .u64 x.us,.int .i64 x.bu,.int .i64 x.by'],.int .i64 (linD x.dr (headsS x))])) T):=Lib.hid (fun T bT => by
  have e : chooseS x = (0,x,linD x.dr (headsS x)):=by unfold chooseS;rw [if_pos hne]
  refine ⟨_,by rw [e],?_,bT⟩
  rw [e]
  exact ⟨aw,cw,ad,cd,ap,cp,al,cl,ob,cq,az,cz,rfl,hcq3,hcqm,Rw.below bT,Rd.below bT,Rp.below bT,Rl.below bT,Rq.below bT,Rz.below bT,nw,nd,np,nl9,nz9⟩)
 obtain ⟨err,he⟩ : ∃ e,linD x.dr (headsS x) = e:=⟨_,rfl⟩
 rw [he] at NX FIN hne
 have t1 : (err != 0) = true:=by simpa using hne
 obtain ⟨us,eu⟩ : ∃ z,z = x.us:=⟨_,rfl⟩
 obtain ⟨bu,eb⟩ : ∃ z,z = x.bu:=⟨_,rfl⟩
 obtain ⟨by',ey⟩ : ∃ z,z = x.by':=⟨_,rfl⟩
 obtain ⟨q0,eq0⟩ : ∃ z,z = x.dr.q:=⟨_,rfl⟩
 obtain ⟨t0,et0⟩ : ∃ z,z = x.dr.t:=⟨_,rfl⟩
 obtain ⟨nl,hnl⟩ : ∃ n,n = x.l.length:=⟨_,rfl⟩
 obtain ⟨nz,hnz⟩ : ∃ n,n = x.sz.length:=⟨_,rfl⟩
 rw [← eu,← eb,← ey,← eq0,← et0,← hnl,← hnz] at GC
 rw [← eu,← eb,← ey,← eq0,← hnl,← hnz] at FIN
 (try rw [← et0] at FIN)
 rw [← eq0,← et0] at NX
 rw [← eu,← eb,← ey,← eq0,← et0,← hnl,← hnz]
 clear eu eb ey eq0 et0 hnl hnz
 clear he hne nw nd np nl9 nz9 Rw Rd Rp Rl Rq Rz hlz hg hp3 l1 l2
 go_enter Tryd.func39,Tryd.ntmps39
 go_upto_region 4 with (first|(go_at_call 55;(with_reducible refine (GC.out).mono ?_);rintro e u1 ⟨f1,e1,f2,e2,rfl,F1,F2,hB⟩;(have b1 : Below w.heap.size w u1:=by (repeat(first|(with_reducible first|assumption|exact Below.refl _ _|refine je ?_|refine jl ?_)|((with_reducible refine jp ?_ ?_);first|focus(dsimp only;assumption)|focus(simp;done)|focus(dsimp only;omega))|(with_reducible refine bt ?_ (by assumption)))));(have k1 : blk u1 w.heap.size = some #[.slice aw 3 cw,.int .i64 q0,.slice ad 3 cd,.int .i64 t0,.slice ap 3 cp,.slice al nl cl,.slice (some ⟨ob,0,none⟩) 3 cq,.slice az nz cz,.int .u64 us,.int .i64 bu,.int .i64 by']:=blk_below hB (blk_alloc (blk_alloc_new _ _ _ rfl) _));(have z1 : blk u1 (w.heap.size + 1) = some #[.slice none 0 0,.int .i64 0,.slice none 0 0,.int .i64 0,.slice none 0 0,.slice none 0 0,.slice none 0 0,.slice none 0 0,.int .u64 0,.int .i64 0,.int .i64 0]:=blk_below hB (blk_alloc_new _ _ _ (by simp)));(have n1:=kn k1);(have GN:=Lib.hid (NX.out u1 b1 f2 e2 F2));clear hB F2)|(go_at_call 62;(with_reducible refine (GN.out).mono ?_);rintro e u2 ⟨rfl,hB⟩;(have b2:=bt b1 hB);(have k2:=blk_below hB k1);(have z2:=blk_below hB z1);clear hB k1 z1 n1))
 obtain ⟨V,eV⟩ : ∃ v,v = u2.alloc (.cells #[.slice none 0 0,.int .i64 0,.slice none 0 0,.int .i64 0] 26):=⟨_,rfl⟩
 have kV : blk V w.heap.size = some #[.slice aw 3 cw,.int .i64 q0,.slice ad 3 cd,.int .i64 t0,.slice ap 3 cp,.slice al nl cl,.slice (some ⟨ob,0,none⟩) 3 cq,.slice az nz cz,.int .u64 us,.int .i64 bu,.int .i64 by']:=(by rw [eV];exact blk_alloc k2 _)
 have zV : blk V (w.heap.size + 1) = some #[.slice none 0 0,.int .i64 0,.slice none 0 0,.int .i64 0,.slice none 0 0,.slice none 0 0,.slice none 0 0,.slice none 0 0,.int .u64 0,.int .i64 0,.int .i64 0]:=(by rw [eV];exact blk_alloc z2 _)
 have bV : Below w.heap.size w V:=(by rw [eV];exact b2.alloc b2.size _)
 rw [← eV]
 clear eV k2 z2 b2
 refine wp_region_held_drew (S:=fun W => ∀ o,W.cell? ⟨w.heap.size,o,none⟩ = (#[.slice aw 3 cw,.int .i64 q0,.slice ad 3 cd,.int .i64 t0,.slice ap 3 cp,.slice al nl cl,.slice (some ⟨ob,0,none⟩) 3 cq,.slice az nz cz,.int .u64 us,.int .i64 bu,.int .i64 by'] : Array Value)[o]?) (by kernel_rfl) (fun o => blk_cell (blk_drew kV) o) (fun hHeld => ?_)
 obtain ⟨d0,ed⟩ : ∃ v,v = V.drew:=⟨_,rfl⟩
 have kd0 : blk d0 w.heap.size = some #[.slice aw 3 cw,.int .i64 q0,.slice ad 3 cd,.int .i64 t0,.slice ap 3 cp,.slice al nl cl,.slice (some ⟨ob,0,none⟩) 3 cq,.slice az nz cz,.int .u64 us,.int .i64 bu,.int .i64 by']:=(by rw [ed];exact blk_drew kV)
 have zd0 : blk d0 (w.heap.size + 1) = some #[.slice none 0 0,.int .i64 0,.slice none 0 0,.int .i64 0,.slice none 0 0,.slice none 0 0,.slice none 0 0,.slice none 0 0,.int .u64 0,.int .i64 0,.int .i64 0]:=(by rw [ed];exact blk_drew zV)
 have bd0 : Below w.heap.size w d0:=(by rw [ed];exact bV.drew)
 rw [← ed] at hHeld ⊢
 clear ed kV zV bV
 refine jK (v:=?_) 1 ?_ ?_
 rotate_left;focus(intro W h;(try dsimp only at h);go_simp;(try with_reducible rfl));(try simp only[Act.put,jA,jB,jC,jD,jE,jF])
 refine jK (v:=?_) 2 ?_ ?_
 rotate_left;focus(intro W h;(try dsimp only at h);go_simp;(try with_reducible rfl));(try simp only[Act.put,jA,jB,jC,jD,jE,jF])
 refine jK (v:=.agg #[.slice aw 3 cw,.int .i64 q0,.slice ad 3 cd,.int .i64 t0,.slice ap 3 cp,.slice al nl cl,.slice (some ⟨ob,0,none⟩) 3 cq,.slice az nz cz,.int .u64 us,.int .i64 bu,.int .i64 by']) 0 ?_ ?_
 focus (intro W hSw;exact load_runW 70 (.tmp 1) w.heap.size 0 [.slice aw 3 cw,.int .i64 q0,.slice ad 3 cd,.int .i64 t0,.slice ap 3 cp,.slice al nl cl,.slice (some ⟨ob,0,none⟩) 3 cq,.slice az nz cz,.int .u64 us,.int .i64 bu,.int .i64 by'] _ rfl rfl W (rangeS hSw) Tryd.underlying70 rfl (by kernel_rfl))
 (try simp only[Act.put,jA,jB,jC,jD,jE,jF])
 refine jR 3 (fun K hK => ?_)
 refine wp_store_midB 70 (.tmp 3) (.tmp 27) (w.heap.size + 1) 0 #[.slice none 0 0,.int .i64 0,.slice none 0 0,.int .i64 0,.slice none 0 0,.slice none 0 0,.slice none 0 0,.slice none 0 0,.int .u64 0,.int .i64 0,.int .i64 0] #[.slice aw 3 cw,.int .i64 q0,.slice ad 3 cd,.int .i64 t0,.slice ap 3 cp,.slice al nl cl,.slice (some ⟨ob,0,none⟩) 3 cq,.slice az nz cz,.int .u64 us,.int .i64 bu,.int .i64 by'] #[.slice aw 3 cw,.int .i64 q0,.slice ad 3 cd,.int .i64 t0,.slice ap 3 cp,.slice al nl cl,.slice (some ⟨ob,0,none⟩) 3 cq,.slice az nz cz,.int .u64 us,.int .i64 bu,.int .i64 by'] zd0 rfl rfl rfl (by simp) (by kernel_rfl) (by kernel_rfl) (by kernel_rfl) ?_
 intro T kT sT BT zT
 have bT:=BT _ _ (Nat.le_succ w.heap.size) bd0
 have kkT:=blk_same kd0 (show w.heap.size ≠ w.heap.size + 1 by omega) sT
 clear BT zT
 refine hK.out _ _ (fun o => blk_cell kkT o) (fun _ => ?_)
 clear hK K
 (try simp only[Act.put,jA,jB,jC,jD,jE,jF])
 refine jK (v:=?_) 4 ?_ ?_
 rotate_left;focus(intro W h;(try dsimp only at h);go_simp;(try with_reducible rfl));(try simp only[Act.put,jA,jB,jC,jD,jE,jF])
 refine wpAnyH_done (by kernel_rfl) ?_ _
 go_wp2
 refine ret_blk (b:=w.heap.size + 1) (c:=#[.slice aw 3 cw,.int .i64 q0,.slice ad 3 cd,.int .i64 t0,.slice ap 3 cp,.slice al nl cl,.slice (some ⟨ob,0,none⟩) 3 cq,.slice az nz cz,.int .u64 us,.int .i64 bu,.int .i64 by']) (v:=.tuple #[.int .i64 0,.agg #[.slice aw 3 cw,.int .i64 q0,.slice ad 3 cd,.int .i64 t0,.slice ap 3 cp,.slice al nl cl,.slice (some ⟨ob,0,none⟩) 3 cq,.slice az nz cz,.int .u64 us,.int .i64 bu,.int .i64 by'],.int .i64 err]) kT (fun W' hc => by simp [results,Tryd.results39,go_sem,hc]) rfl ?_
 exact FIN.out T bT
set_option maxHeartbeats 6400000 in
theorem choose_go (c : Array Value) (x : Wy) (hg : GdW x) (hlz : x.sz.length = x.l.length) (hps : okP x.ps) (hby : x.by' ≤ 100) (S : Nat → Prop) (w : World) (hS : ∀ b,S b → b < w.heap.size) (hW : WayS S w c x) (hz : linD x.dr (headsS x) = 0) :
  Calls Tryd.prog 39 #[.agg c] w fun e w' => RetH S x w e w':=by
 obtain ⟨aw,cw,ad,cd,ap,cp,al,cl,ob,cq,az,cz,rfl,hcq3,hcqm,Rw,Rd,Rp,Rl,Rq,Rz,nw,nd,np,nl9,nz9⟩:=hW
 have hp3:=hg.ps3
 obtain ⟨l1,l2,_,_,_,_,_⟩:=hg.dr
 obtain ⟨wA,hwA⟩ : ∃ v,v = w.alloc (.cells #[.slice aw 3 cw,.int .i64 x.dr.q,.slice ad 3 cd,.int .i64 x.dr.t,.slice ap 3 cp,.slice al x.l.length cl,.slice (some ⟨ob,0,none⟩) 3 cq,.slice az x.sz.length cz,.int .u64 x.us,.int .i64 x.bu,.int .i64 x.by'] 70):=⟨_,rfl⟩
 obtain ⟨wB,hwB⟩ : ∃ v,v = wA.alloc (.cells #[.slice none 0 0,.int .i64 0,.slice none 0 0,.int .i64 0,.slice none 0 0,.slice none 0 0,.slice none 0 0,.slice none 0 0,.int .u64 0,.int .i64 0,.int .i64 0] 70):=⟨_,rfl⟩
 have BB : Below w.heap.size w wB:=by rw [hwB,hwA];exact ((Below.refl _ _).alloc (Nat.le_refl _) _).alloc (by simp) _
 have gc:=cand_ok _ x hg hlz wB ⟨aw,cw,ad,cd,ap,cp,al,cl,ob,cq,az,cz,rfl,hcq3,hcqm,Rw.below BB,Rd.below BB,Rp.below BB,Rl.below BB,Rq.at.below BB,Rz.below BB⟩
 rw [hwB,hwA] at gc
 have GC:=Lib.hid gc
 clear gc BB hwB hwA wB wA
 have h22 : (chooseS x).2.2 = 0:=by unfold chooseS;rw [if_neg (by simpa using hz)]
 obtain ⟨p,p0,p2,hp,hi,hm,_,hpos,hcs,hok⟩:=choose_some hg h22
 obtain ⟨pn,rfl⟩ : ∃ n : Nat,p = n:=⟨p.toNat,by omega⟩
 have hpn : pn < 3:=by omega
 obtain ⟨m,em⟩ : ∃ n : Nat,candA x pn = n:=⟨(candA x pn).toNat,by omega⟩
 obtain ⟨cs,hQ,lob,hrg⟩:=qrow_of Rq.at
 obtain ⟨aq,cqq,hcp,Rpq⟩:=hQ.get hpn
 have eq3 : q3 (quA x 0) (quA x 1) (quA x 2) pn = quA x pn:=by
  match pn,hpn with
  | 0,_ => rfl
  | 1,_ => rfl
  | 2,_ => rfl
 rw [eq3] at hcp Rpq
 have hq0 : 0 < (quA x pn).length:=List.length_pos_of_mem hm
 obtain ⟨bq,oq,rfl,lbq,_⟩:=Rpq.2.2.2 hq0
 have CQ:=Lib.hid (show w.cell? ⟨ob,pn,none⟩ = some (.slice (some ⟨bq,oq,none⟩) (quA x pn).length cqq) by have:=hrg pn _ hcp;rw [Nat.zero_add] at this;exact this)
 have CH:=Lib.hid (show w.cell? ⟨bq,oq,none⟩ = some (.int .i64 (at3 (quA x pn) 0)) by
  have h9:=(srow_cellE Rpq (j:=0) hq0).2
  have e9 : at3 (quA x pn) 0 = (quA x pn)[0]:=by
   have e8 : at3 (quA x pn) ((0 : Nat) : Int) = (quA x pn)[0]:=by unfold at3;rw [Int.toNat_natCast,List.getD_eq_getElem?_getD,List.getElem?_eq_getElem hq0];rfl
   exact e8
  rw [e9];exact h9)
 have hlq:=Rpq.1
 have PB : Hid (∀ pv,at3 x.ps pn = pv → ¬ at3 (quA x pn) 0 = (m : Int) → 0 ≤ pv ∧ pv ≤ 100):=Lib.hid (fun pv e _ => by
  have hl : pn < x.ps.length:=by omega
  have e9 : at3 x.ps pn = x.ps[pn]:=by unfold at3;rw [Int.toNat_natCast,List.getD_eq_getElem?_getD,List.getElem?_eq_getElem hl];rfl
  rw [← e,e9]
  exact hps _ (List.getElem_mem _))
 have CM : Hid ((candsS x)[pn]'(by simp [candsS];omega) = (m : Int)):=Lib.hid (by
  rw [← em]
  match pn,hpn with
  | 0,_ => rfl
  | 1,_ => rfl
  | 2,_ => rfl)
 have PL:=Lib.hid hp3
 obtain ⟨wl,hwl⟩ : ∃ l,l = x.dr.w:=⟨_,rfl⟩
 obtain ⟨dl,hdl⟩ : ∃ l,l = (nextD x.dr (headsS x)).2.d:=⟨_,rfl⟩
 obtain ⟨t9,ht9⟩ : ∃ l,l = (nextD x.dr (headsS x)).2.t:=⟨_,rfl⟩
 have NX : Hid (∀ W,Below w.heap.size w W → ∀ f2 e2,SRow ic 1 W f2 e2 (headsS x) → Calls Tryd.prog 62 #[.agg #[.slice aw 3 cw,.int .i64 x.dr.q,.slice ad 3 cd,.int .i64 x.dr.t],.slice f2 3 e2] W fun e w' => ∃ a1 c1 a2 c2,e = .returned (.tuple #[.int .i64 pn,.agg #[.slice a1 3 c1,.int .i64 x.dr.q,.slice a2 3 c2,.int .i64 t9],.int .i64 0]) ∧ Below W.heap.size W w' ∧ SRow ic 1 w' a1 c1 wl ∧ SRow ic 1 w' a2 c2 dl ∧ upR W.heap.size a1 ∧ upR W.heap.size a2):=Lib.hid (fun W hB f2 e2 hf => by
  refine (next_gd aw cw ad cd x.dr f2 e2 (headA x 0) (headA x 1) (headA x 2) W l1 l2 (Rw.below hB) (Rd.below hB) hf).mono ?_
  rintro e w' ⟨h1,⟨h2,_⟩|⟨_,a1,c1,a2,c2,h2,h3,h4,h5,h6⟩⟩
  ·exact absurd hz h2
  ·rw [hwl,hdl,ht9,hp]
   exact ⟨a1,c1,a2,c2,h2,h1,h3,h4,h5,h6⟩)
 have GP:=Lib.hid (fun W (hB : Below w.heap.size w W) => (show Calls Tryd.prog 60 #[.slice ap 3 cp] W fun e w' => OwnI x.ps W e w' from by
  have h9:=cloneI_any ap cp x.ps (by omega) W (Rp.below hB)
  rw [hp3] at h9
  exact h9))
 have FIN : Hid (∀ T a1 c1 a2 c2 g5 c5 sp v,v = (if at3 (quA x pn) 0 = (m : Int) then 0 else at3 x.ps pn + 1) → Below w.heap.size w T → SRow ic 1 T a1 c1 wl → SRow ic 1 T a2 c2 dl → blk T g5 = some (rowC ic (x.ps.set pn v) ++ sp).toArray → 3 ≤ c5 → c5 ≤ maxLen → upR w.heap.size a1 → upR w.heap.size a2 → w.heap.size ≤ g5 → RetH S x w (.returned (.tuple #[.int .i64 m,.agg #[.slice a1 3 c1,.int .i64 x.dr.q,.slice a2 3 c2,.int .i64 t9,.slice (some ⟨g5,0,none⟩) 3 c5,.slice al x.l.length cl,.slice (some ⟨ob,0,none⟩) 3 cq,.slice az x.sz.length cz,.int .u64 x.us,.int .i64 x.bu,.int .i64 x.by'],.int .i64 0])) T):=Lib.hid (fun T a1 c1 a2 c2 g5 c5 sp v hv bT r1 r2 kp h5 h5m u1 u2 h5g => by
  refine ⟨_,by rw [hi,em,h22],?_,bT⟩
  rw [hcs,em,← hv]
  have hpl : (x.ps.set pn v).length = 3:=by rw [List.length_set];exact hp3
  rw [Int.toNat_natCast]
  refine ⟨a1,c1,a2,c2,some ⟨g5,0,none⟩,c5,al,cl,ob,cq,az,cz,?_,hcq3,hcqm,?_,?_,?_,Rl.below bT,Rq.below bT,Rz.below bT,u1.neS hS _,u2.neS hS _,(upR_at h5g).neS hS _,nl9,nz9⟩
  ·simp [(nextD_wq x.dr (headsS x)).2,ht9]
  ·show SRow ic 1 T a1 c1 (nextD x.dr (headsS x)).2.w
   rw [(nextD_wq _ _).1,← hwl];exact r1
  ·show SRow ic 1 T a2 c2 (nextD x.dr (headsS x)).2.d
   rw [← hdl];exact r2
  ·exact ⟨by rw [hpl];exact h5,h5m,(fun h => by cases h),fun _ => ⟨g5,0,rfl,blk_lt kp,fun i hi => by rw [Nat.zero_add];exact range_row ic_len kp (List.getElem?_eq_getElem hi)⟩⟩)
 obtain ⟨hd,hhd⟩ : ∃ v,v = at3 (quA x pn) 0:=⟨_,rfl⟩
 obtain ⟨lq,hlq2⟩ : ∃ v,v = (quA x pn).length:=⟨_,rfl⟩
 rw [← hhd] at CH PB FIN
 rw [← hlq2] at CQ hq0 hlq
 have hlq0 : (0 : Int) < (lq : Int):=by omega
 have hpi : (pn : Int) < 3:=by omega
 have t1 : ((0 : Int) != 0) = false:=rfl
 have hcpl:=Rp.1
 rw [hp3] at hcpl
 obtain ⟨us,eu⟩ : ∃ z,z = x.us:=⟨_,rfl⟩
 obtain ⟨bu,eb⟩ : ∃ z,z = x.bu:=⟨_,rfl⟩
 obtain ⟨by',ey⟩ : ∃ z,z = x.by':=⟨_,rfl⟩
 obtain ⟨q0,eq0⟩ : ∃ z,z = x.dr.q:=⟨_,rfl⟩
 obtain ⟨t0,et0⟩ : ∃ z,z = x.dr.t:=⟨_,rfl⟩
 obtain ⟨nl,hnl⟩ : ∃ n,n = x.l.length:=⟨_,rfl⟩
 obtain ⟨nz,hnz⟩ : ∃ n,n = x.sz.length:=⟨_,rfl⟩
 rw [← eu,← eb,← ey,← eq0,← et0,← hnl,← hnz] at GC
 rw [← eu,← eb,← ey,← eq0,← hnl,← hnz] at FIN
 (try rw [← et0] at FIN)
 rw [← eq0,← et0] at NX
 rw [← eu,← eb,← ey,← eq0,← et0,← hnl,← hnz]
 clear eu eb ey eq0 et0 hnl hnz
 clear hQ hrg hcp Rpq eq3 nw nd np nl9 nz9 Rw Rd Rp Rl Rq Rz hlz hg hp3 l1 l2 hps hby hz h22 p0 p2 hp hi hm hpos hcs hok em hwl hdl ht9 hhd hlq2
 obtain ⟨aq,haq⟩ : ∃ a : Option Addr,a = some ⟨bq,oq,none⟩:=⟨_,rfl⟩
 subst haq
 go_enter Tryd.func39,Tryd.ntmps39
 go_upto_region 5 with (first|(go_at_call 55;(with_reducible refine (GC.out).mono ?_);rintro e u1 ⟨f1,e1,f2,e2,rfl,F1,F2,hB⟩;(have b1 : Below w.heap.size w u1:=by (repeat(first|(with_reducible first|assumption|exact Below.refl _ _|refine je ?_|refine jl ?_)|((with_reducible refine jp ?_ ?_);first|focus(dsimp only;assumption)|focus(simp;done)|focus(dsimp only;omega))|(with_reducible refine bt ?_ (by assumption)))));(have k1 : blk u1 w.heap.size = some #[.slice aw 3 cw,.int .i64 q0,.slice ad 3 cd,.int .i64 t0,.slice ap 3 cp,.slice al nl cl,.slice (some ⟨ob,0,none⟩) 3 cq,.slice az nz cz,.int .u64 us,.int .i64 bu,.int .i64 by']:=blk_below hB (blk_alloc (blk_alloc_new _ _ _ rfl) _));(have z1 : blk u1 (w.heap.size + 1) = some #[.slice none 0 0,.int .i64 0,.slice none 0 0,.int .i64 0,.slice none 0 0,.slice none 0 0,.slice none 0 0,.slice none 0 0,.int .u64 0,.int .i64 0,.int .i64 0]:=blk_below hB (blk_alloc_new _ _ _ (by simp)));(have n1:=kn k1);(have GN:=Lib.hid (NX.out u1 b1 f2 e2 F2));clear hB F2)|(go_at_call 62;(with_reducible refine (GN.out).mono ?_);rintro e u2 ⟨a1,c1,a2,c2,rfl,hB,R1,R2,U1,U2⟩;(have b2:=bt b1 hB);(have k2:=blk_below hB k1);(have z2:=blk_below hB z1);(have F2:=F1.below hB);(have n2:=kn k2);(have lu:=blk_lt z1);clear hB k1 z1 n1 F1))
 obtain ⟨V,eV⟩ : ∃ v,v = u2.alloc (.cells #[.slice a1 3 c1,.int .i64 q0,.slice a2 3 c2,.int .i64 t9] 26):=⟨_,rfl⟩
 obtain ⟨dr,edr⟩ : ∃ v,v = u2.heap.size:=⟨_,rfl⟩
 have hV : Below u2.heap.size u2 V:=(by rw [eV];exact (Below.refl _ _).alloc (Nat.le_refl _) _)
 have kV:=blk_below hV k2
 have zV:=blk_below hV z2
 have bV:=bt b2 hV
 have FV:=F2.below hV
 have R1V:=R1.below hV
 have R2V:=R2.below hV
 have yV : blk V dr = some #[.slice a1 3 c1,.int .i64 q0,.slice a2 3 c2,.int .i64 t9]:=(by rw [eV];exact blk_alloc_new _ _ _ edr)
 have ldr : w.heap.size + 1 < dr:=(by rw [edr];exact blk_lt z2)
 rw [← eV,← edr]
 clear eV edr hV k2 z2 b2 F2 R1 R2 n2
 obtain ⟨bf,of,rfl,lbf,_⟩:=FV.2.2.2 (by simp [candsS])
 have cf:=(srow_cellE FV (j:=pn) (by simp [candsS];omega)).2
 have ef : (candsS x)[pn]'(by simp [candsS];omega) = (m : Int):=CM.out
 rw [ef] at cf
 have hfc:=FV.1
 clear FV ef
 go_upto_region 6 with fail
 clear cf hfc
 refine wp_region_held_drew (S:=fun W => ∀ o,W.cell? ⟨dr,o,none⟩ = (#[.slice a1 3 c1,.int .i64 q0,.slice a2 3 c2,.int .i64 t9] : Array Value)[o]?) (by kernel_rfl) (fun o => blk_cell (blk_drew yV) o) (fun hHeld => ?_)
 obtain ⟨d0,ed⟩ : ∃ v,v = V.drew:=⟨_,rfl⟩
 have kd0 : blk d0 w.heap.size = some #[.slice aw 3 cw,.int .i64 q0,.slice ad 3 cd,.int .i64 t0,.slice ap 3 cp,.slice al nl cl,.slice (some ⟨ob,0,none⟩) 3 cq,.slice az nz cz,.int .u64 us,.int .i64 bu,.int .i64 by']:=(by rw [ed];exact blk_drew kV)
 have zd0 : blk d0 (w.heap.size + 1) = some #[.slice none 0 0,.int .i64 0,.slice none 0 0,.int .i64 0,.slice none 0 0,.slice none 0 0,.slice none 0 0,.slice none 0 0,.int .u64 0,.int .i64 0,.int .i64 0]:=(by rw [ed];exact blk_drew zV)
 have yd0 : blk d0 dr = some #[.slice a1 3 c1,.int .i64 q0,.slice a2 3 c2,.int .i64 t9]:=(by rw [ed];exact blk_drew yV)
 have bd0 : Below w.heap.size w d0:=(by rw [ed];exact bV.drew)
 have R1d0 : SRow ic 1 d0 a1 c1 wl:=(by rw [ed];exact R1V)
 have R2d0 : SRow ic 1 d0 a2 c2 dl:=(by rw [ed];exact R2V)
 rw [← ed] at hHeld ⊢
 clear ed kV zV yV bV R1V R2V
 refine jK (v:=?_) 1 ?_ ?_
 rotate_left;focus(intro W h;(try dsimp only at h);go_simp;(try with_reducible rfl));(try simp only[Act.put,jA,jB,jC,jD,jE,jF])
 refine jK (v:=?_) 2 ?_ ?_
 rotate_left;focus(intro W h;(try dsimp only at h);go_simp;(try with_reducible rfl));(try simp only[Act.put,jA,jB,jC,jD,jE,jF])
 refine jK (v:=?_) 0 ?_ ?_
 rotate_left;focus(intro W h;(try dsimp only at h);go_simp;(try with_reducible rfl));(try simp only[Act.put,jA,jB,jC,jD,jE,jF])
 refine jR 3 (fun K hK => ?_)
 have c4:=blk_cell kd0 4
 go_simp
 refine hK.out _ _ (fun o => blk_cell yd0 o) (fun _ => ?_)
 clear hK K
 (try simp only[Act.put,jA,jB,jC,jD,jE,jF])
 refine jK (v:=?_) 5 ?_ ?_
 rotate_left;focus(intro W h;(try dsimp only at h);go_simp;(try with_reducible rfl));(try simp only[Act.put,jA,jB,jC,jD,jE,jF])
 refine jK (v:=?_) 6 ?_ ?_
 rotate_left;focus(intro W h;(try dsimp only at h);go_simp;(try with_reducible rfl));(try simp only[Act.put,jA,jB,jC,jD,jE,jF])
 refine jR 4 (fun K hK => ?_)
 go_simp
 clear c4
 go_at_call 60
 (with_reducible refine (GP.out _ bd0).mono ?_)
 rintro e u1 ⟨vv,rfl,ho,hB⟩
 have lps : x.ps.length = 3:=PL.out
 obtain ⟨ac,c5,rfl,R5,⟨_,h0⟩|⟨g5,cur,rfl,lg5,kg5,hcz,hct⟩⟩:=srow_of_owns ic_len ho
 ·rw [h0] at lps;cases lps
 rw [lps]
 (try go_wp2_with fail)
 have ku1:=blk_below hB kd0
 have zu1:=blk_below hB zd0
 have yu1:=blk_below hB yd0
 have bu1:=bt bd0 hB
 have R1u1:=R1d0.below hB
 have R2u1:=R2d0.below hB
 have N1 : neA g5 a1 wl:=R1d0.neNew lg5
 have N2 : neA g5 a2 dl:=R2d0.neNew lg5
 have lg : dr < g5:=Nat.lt_of_lt_of_le (blk_lt yd0) lg5
 have h5c : 3 ≤ c5:=by rw [← lps];exact R5.1
 have h5m:=R5.2.1
 obtain ⟨sp,hs⟩ : ∃ sp,sp = cur.toList.drop (x.ps.length * 1):=⟨_,rfl⟩
 have pu1 : blk u1 g5 = some (rowC ic x.ps ++ sp).toArray:=by rw [hs,← hct,List.take_append_drop];exact kg5
 clear ho R5 hcz hct kg5 hs hB lg5 kd0 zd0 yd0 bd0 R1d0 R2d0
 refine hK.out _ _ (fun o => blk_cell yu1 o) (fun _ => ?_)
 clear hK K
 (try simp only[Act.put,jA,jB,jC,jD,jE,jF])
 refine jR 7 (fun K hK => ?_)
 refine wp_store_midB 26 (.tmp 39) (.tmp 33) w.heap.size 0 #[.slice aw 3 cw,.int .i64 q0,.slice ad 3 cd,.int .i64 t0,.slice ap 3 cp,.slice al nl cl,.slice (some ⟨ob,0,none⟩) 3 cq,.slice az nz cz,.int .u64 us,.int .i64 bu,.int .i64 by'] #[.slice a1 3 c1,.int .i64 q0,.slice a2 3 c2,.int .i64 t9,.slice ap 3 cp,.slice al nl cl,.slice (some ⟨ob,0,none⟩) 3 cq,.slice az nz cz,.int .u64 us,.int .i64 bu,.int .i64 by'] #[.slice a1 3 c1,.int .i64 q0,.slice a2 3 c2,.int .i64 t9] ku1 rfl rfl rfl (by simp) (by kernel_rfl) (by kernel_rfl) (by kernel_rfl) ?_
 intro u3 ku3 sT BT zT
 have zu3:=blk_same zu1 (show w.heap.size + 1 ≠ w.heap.size by omega) sT
 have yu3:=blk_same yu1 (show dr ≠ w.heap.size by omega) sT
 have pu3:=blk_same pu1 (show g5 ≠ w.heap.size by omega) sT
 have bu3:=BT _ _ (Nat.le_refl w.heap.size) bu1
 have R1u3:=R1u1.sameB sT (U1.neA (by omega) _)
 have R2u3:=R2u1.sameB sT (U2.neA (by omega) _)
 clear sT BT zT ku1 zu1 yu1 pu1 bu1 R1u1 R2u1
 refine hK.out _ _ (fun o => blk_cell yu3 o) (fun _ => ?_)
 clear hK K
 (try simp only[Act.put,jA,jB,jC,jD,jE,jF])
 refine jK (v:=?_) 8 ?_ ?_
 rotate_left;focus(intro W h;(try dsimp only at h);go_simp;(try with_reducible rfl));(try simp only[Act.put,jA,jB,jC,jD,jE,jF])
 refine jK (v:=?_) 9 ?_ ?_
 rotate_left;focus(intro W h;(try dsimp only at h);go_simp;(try with_reducible rfl));(try simp only[Act.put,jA,jB,jC,jD,jE,jF])
 refine jR 10 (fun K hK => ?_)
 have n3:=kn ku3
 go_simp
 obtain ⟨X,eX⟩ : ∃ v,v = u3.setCell ⟨w.heap.size,4,none⟩ (.slice (some ⟨g5,0,none⟩) 3 c5):=⟨_,rfl⟩
 have hX : SameB w.heap.size u3 X:=(by rw [eX];exact (SameB.refl _ _).set _ _)
 have kX : blk X w.heap.size = some #[.slice a1 3 c1,.int .i64 q0,.slice a2 3 c2,.int .i64 t9,.slice (some ⟨g5,0,none⟩) 3 c5,.slice al nl cl,.slice (some ⟨ob,0,none⟩) 3 cq,.slice az nz cz,.int .u64 us,.int .i64 bu,.int .i64 by']:=(by rw [eX];exact blk_set ku3)
 have zX:=blk_same zu3 (show w.heap.size + 1 ≠ w.heap.size by omega) hX
 have yX:=blk_same yu3 (show dr ≠ w.heap.size by omega) hX
 have pX:=blk_same pu3 (show g5 ≠ w.heap.size by omega) hX
 have bX : Below w.heap.size w X:=(by rw [eX];exact bu3.setCell (Nat.le_refl _) _)
 have R1X:=R1u3.sameB hX (U1.neA (by omega) _)
 have R2X:=R2u3.sameB hX (U2.neA (by omega) _)
 rw [← eX]
 clear eX hX n3 ku3 zu3 yu3 pu3 bu3 R1u3 R2u3
 refine hK.out _ _ (fun o => blk_cell yX o) (fun _ => ?_)
 clear hK K
 (try simp only[Act.put,jA,jB,jC,jD,jE,jF])
 refine wpAnyH_done (by kernel_rfl) ?_ _
 clear hHeld
 have nX:=kn kX
 have cq0 : X.cell? ⟨ob,pn,none⟩ = some (.slice (some ⟨bq,oq,none⟩) lq cqq):=(bX.cell (p:=⟨ob,pn,none⟩) lob).trans CQ.out
 have ch0 : X.cell? ⟨bq,oq,none⟩ = some (.int .i64 hd):=(bX.cell (p:=⟨bq,oq,none⟩) lbq).trans CH.out
 obtain ⟨pv,hpv⟩ : ∃ v,x.ps[pn]? = some v:=⟨_,List.getElem?_eq_getElem (by rw [PL.out];exact hpn)⟩
 have cp0:=blk_cellI hpv pX
 have fp0:=blk_frozen pX pn
 have PV:=Lib.hid hpv
 clear hpv
 by_cases hh : hd = (m : Int)
 ·have t1 : (hd == (m : Int)) = true:=by simpa using hh
  have HQV:=Lib.hid (show (0 : Int) = if hd = (m : Int) then 0 else at3 x.ps pn + 1 by rw [if_pos hh])
  clear hh
  go_upto_region 10 with fail
  obtain ⟨Y,eY⟩ : ∃ v,v = X.setCell ⟨g5,pn,none⟩ (.int .i64 0):=⟨_,rfl⟩
  have hY : SameB g5 X Y:=(by rw [eY];exact (SameB.refl _ _).set _ _)
  have kY:=blk_same kX (show w.heap.size ≠ g5 by omega) hY
  have zY:=blk_same zX (show w.heap.size + 1 ≠ g5 by omega) hY
  have pY : blk Y g5 = some (rowC ic (x.ps.set pn 0) ++ sp).toArray:=(by rw [eY];exact blk_setI PV.out pX)
  have bY : Below w.heap.size w Y:=(by rw [eY];exact bX.setCell (show w.heap.size ≤ g5 by omega) _)
  have R1Y:=R1X.sameB hY N1
  have R2Y:=R2X.sameB hY N2
  rw [← eY]
  clear eY hY nX kX zX pX bX R1X R2X cq0 ch0 cp0 fp0 yX
  refine wp_region_held_drew (S:=fun W => ∀ o,W.cell? ⟨w.heap.size,o,none⟩ = (#[.slice a1 3 c1,.int .i64 q0,.slice a2 3 c2,.int .i64 t9,.slice (some ⟨g5,0,none⟩) 3 c5,.slice al nl cl,.slice (some ⟨ob,0,none⟩) 3 cq,.slice az nz cz,.int .u64 us,.int .i64 bu,.int .i64 by'] : Array Value)[o]?) (by kernel_rfl) (fun o => blk_cell (blk_drew kY) o) (fun hHeld => ?_)
  obtain ⟨d0,ed⟩ : ∃ v,v = Y.drew:=⟨_,rfl⟩
  have kd0 : blk d0 w.heap.size = some #[.slice a1 3 c1,.int .i64 q0,.slice a2 3 c2,.int .i64 t9,.slice (some ⟨g5,0,none⟩) 3 c5,.slice al nl cl,.slice (some ⟨ob,0,none⟩) 3 cq,.slice az nz cz,.int .u64 us,.int .i64 bu,.int .i64 by']:=(by rw [ed];exact blk_drew kY)
  have zd0 : blk d0 (w.heap.size + 1) = some #[.slice none 0 0,.int .i64 0,.slice none 0 0,.int .i64 0,.slice none 0 0,.slice none 0 0,.slice none 0 0,.slice none 0 0,.int .u64 0,.int .i64 0,.int .i64 0]:=(by rw [ed];exact blk_drew zY)
  have pd0 : blk d0 g5 = some (rowC ic (x.ps.set pn 0) ++ sp).toArray:=(by rw [ed];exact blk_drew pY)
  have bd0 : Below w.heap.size w d0:=(by rw [ed];exact bY.drew)
  have R1d0 : SRow ic 1 d0 a1 c1 wl:=(by rw [ed];exact R1Y)
  have R2d0 : SRow ic 1 d0 a2 c2 dl:=(by rw [ed];exact R2Y)
  rw [← ed] at hHeld ⊢
  clear ed kY zY pY bY R1Y R2Y
  refine jK (v:=?_) 0 ?_ ?_
  rotate_left;focus(intro W h;(try dsimp only at h);go_simp;(try with_reducible rfl));(try simp only[Act.put,jA,jB,jC,jD,jE,jF])
  refine jK (v:=?_) 2 ?_ ?_
  rotate_left;focus(intro W h;(try dsimp only at h);go_simp;(try with_reducible rfl));(try simp only[Act.put,jA,jB,jC,jD,jE,jF])
  refine jK (v:=.agg #[.slice a1 3 c1,.int .i64 q0,.slice a2 3 c2,.int .i64 t9,.slice (some ⟨g5,0,none⟩) 3 c5,.slice al nl cl,.slice (some ⟨ob,0,none⟩) 3 cq,.slice az nz cz,.int .u64 us,.int .i64 bu,.int .i64 by']) 1 ?_ ?_
  focus (intro W hSw;exact load_runW 70 (.tmp 1) w.heap.size 0 [.slice a1 3 c1,.int .i64 q0,.slice a2 3 c2,.int .i64 t9,.slice (some ⟨g5,0,none⟩) 3 c5,.slice al nl cl,.slice (some ⟨ob,0,none⟩) 3 cq,.slice az nz cz,.int .u64 us,.int .i64 bu,.int .i64 by'] _ rfl rfl W (rangeS hSw) Tryd.underlying70 rfl (by kernel_rfl))
  (try simp only[Act.put,jA,jB,jC,jD,jE,jF])
  refine jR 3 (fun K hK => ?_)
  refine wp_store_midB 70 (.tmp 3) (.tmp 65) (w.heap.size + 1) 0 #[.slice none 0 0,.int .i64 0,.slice none 0 0,.int .i64 0,.slice none 0 0,.slice none 0 0,.slice none 0 0,.slice none 0 0,.int .u64 0,.int .i64 0,.int .i64 0] #[.slice a1 3 c1,.int .i64 q0,.slice a2 3 c2,.int .i64 t9,.slice (some ⟨g5,0,none⟩) 3 c5,.slice al nl cl,.slice (some ⟨ob,0,none⟩) 3 cq,.slice az nz cz,.int .u64 us,.int .i64 bu,.int .i64 by'] #[.slice a1 3 c1,.int .i64 q0,.slice a2 3 c2,.int .i64 t9,.slice (some ⟨g5,0,none⟩) 3 c5,.slice al nl cl,.slice (some ⟨ob,0,none⟩) 3 cq,.slice az nz cz,.int .u64 us,.int .i64 bu,.int .i64 by'] zd0 rfl rfl rfl (by simp) (by kernel_rfl) (by kernel_rfl) (by kernel_rfl) ?_
  intro T kT sT BT zT
  have bT:=BT _ _ (Nat.le_succ w.heap.size) bd0
  have kkT:=blk_same kd0 (show w.heap.size ≠ w.heap.size + 1 by omega) sT
  clear BT zT
  refine hK.out _ _ (fun o => blk_cell kkT o) (fun _ => ?_)
  clear hK K
  (try simp only[Act.put,jA,jB,jC,jD,jE,jF])
  refine jK (v:=?_) 4 ?_ ?_
  rotate_left;focus(intro W h;(try dsimp only at h);go_simp;(try with_reducible rfl));(try simp only[Act.put,jA,jB,jC,jD,jE,jF])
  refine wpAnyH_done (by kernel_rfl) ?_ _
  go_wp2
  refine ret_blk (b:=w.heap.size + 1) (c:=#[.slice a1 3 c1,.int .i64 q0,.slice a2 3 c2,.int .i64 t9,.slice (some ⟨g5,0,none⟩) 3 c5,.slice al nl cl,.slice (some ⟨ob,0,none⟩) 3 cq,.slice az nz cz,.int .u64 us,.int .i64 bu,.int .i64 by']) (v:=.tuple #[.int .i64 m,.agg #[.slice a1 3 c1,.int .i64 q0,.slice a2 3 c2,.int .i64 t9,.slice (some ⟨g5,0,none⟩) 3 c5,.slice al nl cl,.slice (some ⟨ob,0,none⟩) 3 cq,.slice az nz cz,.int .u64 us,.int .i64 bu,.int .i64 by'],.int .i64 0]) kT (fun W' hc => by simp [results,Tryd.results39,go_sem,hc]) rfl ?_
  exact FIN.out T a1 c1 a2 c2 g5 c5 sp 0 HQV.out bT (R1d0.sameB sT (U1.neA (by omega) _)) (R2d0.sameB sT (U2.neA (by omega) _)) (blk_same pd0 (show g5 ≠ w.heap.size + 1 by omega) sT) h5c h5m (U1.mono (by omega)) (U2.mono (by omega)) (by omega)
 ·have t1 : (hd == (m : Int)) = false:=by simpa using hh
  have epv : at3 x.ps pn = pv:=by unfold at3;rw [Int.toNat_natCast,List.getD_eq_getElem?_getD,PV.out];rfl
  have HQV:=Lib.hid (show pv + 1 = if hd = (m : Int) then 0 else at3 x.ps pn + 1 by rw [if_neg hh,epv])
  have hpv1:=PB.out pv epv hh
  have vw : IntKind.i64.wrap (pv + 1) = pv + 1:=IntWalk.i64_in _ (by omega)
  clear hh epv
  go_upto_region 10 with fail
  obtain ⟨Y,eY⟩ : ∃ v,v = X.setCell ⟨g5,pn,none⟩ (.int .i64 (pv + 1)):=⟨_,rfl⟩
  have hY : SameB g5 X Y:=(by rw [eY];exact (SameB.refl _ _).set _ _)
  have kY:=blk_same kX (show w.heap.size ≠ g5 by omega) hY
  have zY:=blk_same zX (show w.heap.size + 1 ≠ g5 by omega) hY
  have pY : blk Y g5 = some (rowC ic (x.ps.set pn (pv + 1)) ++ sp).toArray:=(by rw [eY];exact blk_setI PV.out pX)
  have bY : Below w.heap.size w Y:=(by rw [eY];exact bX.setCell (show w.heap.size ≤ g5 by omega) _)
  have R1Y:=R1X.sameB hY N1
  have R2Y:=R2X.sameB hY N2
  rw [← eY]
  clear eY hY nX kX zX pX bX R1X R2X cq0 ch0 cp0 fp0 yX
  refine wp_region_held_drew (S:=fun W => ∀ o,W.cell? ⟨w.heap.size,o,none⟩ = (#[.slice a1 3 c1,.int .i64 q0,.slice a2 3 c2,.int .i64 t9,.slice (some ⟨g5,0,none⟩) 3 c5,.slice al nl cl,.slice (some ⟨ob,0,none⟩) 3 cq,.slice az nz cz,.int .u64 us,.int .i64 bu,.int .i64 by'] : Array Value)[o]?) (by kernel_rfl) (fun o => blk_cell (blk_drew kY) o) (fun hHeld => ?_)
  obtain ⟨d0,ed⟩ : ∃ v,v = Y.drew:=⟨_,rfl⟩
  have kd0 : blk d0 w.heap.size = some #[.slice a1 3 c1,.int .i64 q0,.slice a2 3 c2,.int .i64 t9,.slice (some ⟨g5,0,none⟩) 3 c5,.slice al nl cl,.slice (some ⟨ob,0,none⟩) 3 cq,.slice az nz cz,.int .u64 us,.int .i64 bu,.int .i64 by']:=(by rw [ed];exact blk_drew kY)
  have zd0 : blk d0 (w.heap.size + 1) = some #[.slice none 0 0,.int .i64 0,.slice none 0 0,.int .i64 0,.slice none 0 0,.slice none 0 0,.slice none 0 0,.slice none 0 0,.int .u64 0,.int .i64 0,.int .i64 0]:=(by rw [ed];exact blk_drew zY)
  have pd0 : blk d0 g5 = some (rowC ic (x.ps.set pn (pv + 1)) ++ sp).toArray:=(by rw [ed];exact blk_drew pY)
  have bd0 : Below w.heap.size w d0:=(by rw [ed];exact bY.drew)
  have R1d0 : SRow ic 1 d0 a1 c1 wl:=(by rw [ed];exact R1Y)
  have R2d0 : SRow ic 1 d0 a2 c2 dl:=(by rw [ed];exact R2Y)
  rw [← ed] at hHeld ⊢
  clear ed kY zY pY bY R1Y R2Y
  refine jK (v:=?_) 0 ?_ ?_
  rotate_left;focus(intro W h;(try dsimp only at h);go_simp;(try with_reducible rfl));(try simp only[Act.put,jA,jB,jC,jD,jE,jF])
  refine jK (v:=?_) 2 ?_ ?_
  rotate_left;focus(intro W h;(try dsimp only at h);go_simp;(try with_reducible rfl));(try simp only[Act.put,jA,jB,jC,jD,jE,jF])
  refine jK (v:=.agg #[.slice a1 3 c1,.int .i64 q0,.slice a2 3 c2,.int .i64 t9,.slice (some ⟨g5,0,none⟩) 3 c5,.slice al nl cl,.slice (some ⟨ob,0,none⟩) 3 cq,.slice az nz cz,.int .u64 us,.int .i64 bu,.int .i64 by']) 1 ?_ ?_
  focus (intro W hSw;exact load_runW 70 (.tmp 1) w.heap.size 0 [.slice a1 3 c1,.int .i64 q0,.slice a2 3 c2,.int .i64 t9,.slice (some ⟨g5,0,none⟩) 3 c5,.slice al nl cl,.slice (some ⟨ob,0,none⟩) 3 cq,.slice az nz cz,.int .u64 us,.int .i64 bu,.int .i64 by'] _ rfl rfl W (rangeS hSw) Tryd.underlying70 rfl (by kernel_rfl))
  (try simp only[Act.put,jA,jB,jC,jD,jE,jF])
  refine jR 3 (fun K hK => ?_)
  refine wp_store_midB 70 (.tmp 3) (.tmp 65) (w.heap.size + 1) 0 #[.slice none 0 0,.int .i64 0,.slice none 0 0,.int .i64 0,.slice none 0 0,.slice none 0 0,.slice none 0 0,.slice none 0 0,.int .u64 0,.int .i64 0,.int .i64 0] #[.slice a1 3 c1,.int .i64 q0,.slice a2 3 c2,.int .i64 t9,.slice (some ⟨g5,0,none⟩) 3 c5,.slice al nl cl,.slice (some ⟨ob,0,none⟩) 3 cq,.slice az nz cz,.int .u64 us,.int .i64 bu,.int .i64 by'] #[.slice a1 3 c1,.int .i64 q0,.slice a2 3 c2,.int .i64 t9,.slice (some ⟨g5,0,none⟩) 3 c5,.slice al nl cl,.slice (some ⟨ob,0,none⟩) 3 cq,.slice az nz cz,.int .u64 us,.int .i64 bu,.int .i64 by'] zd0 rfl rfl rfl (by simp) (by kernel_rfl) (by kernel_rfl) (by kernel_rfl) ?_
  intro T kT sT BT zT
  have bT:=BT _ _ (Nat.le_succ w.heap.size) bd0
  have kkT:=blk_same kd0 (show w.heap.size ≠ w.heap.size + 1 by omega) sT
  clear BT zT
  refine hK.out _ _ (fun o => blk_cell kkT o) (fun _ => ?_)
  clear hK K
  (try simp only[Act.put,jA,jB,jC,jD,jE,jF])
  refine jK (v:=?_) 4 ?_ ?_
  rotate_left;focus(intro W h;(try dsimp only at h);go_simp;(try with_reducible rfl));(try simp only[Act.put,jA,jB,jC,jD,jE,jF])
  refine wpAnyH_done (by kernel_rfl) ?_ _
  go_wp2
  refine ret_blk (b:=w.heap.size + 1) (c:=#[.slice a1 3 c1,.int .i64 q0,.slice a2 3 c2,.int .i64 t9,.slice (some ⟨g5,0,none⟩) 3 c5,.slice al nl cl,.slice (some ⟨ob,0,none⟩) 3 cq,.slice az nz cz,.int .u64 us,.int .i64 bu,.int .i64 by']) (v:=.tuple #[.int .i64 m,.agg #[.slice a1 3 c1,.int .i64 q0,.slice a2 3 c2,.int .i64 t9,.slice (some ⟨g5,0,none⟩) 3 c5,.slice al nl cl,.slice (some ⟨ob,0,none⟩) 3 cq,.slice az nz cz,.int .u64 us,.int .i64 bu,.int .i64 by'],.int .i64 0]) kT (fun W' hc => by simp [results,Tryd.results39,go_sem,hc]) rfl ?_
  exact FIN.out T a1 c1 a2 c2 g5 c5 sp (pv + 1) HQV.out bT (R1d0.sameB sT (U1.neA (by omega) _)) (R2d0.sameB sT (U2.neA (by omega) _)) (blk_same pd0 (show g5 ≠ w.heap.size + 1 by omega) sT) h5c h5m (U1.mono (by omega)) (U2.mono (by omega)) (by omega)
end Go.Proofs.YtkaehoihpgelnaaDoor
