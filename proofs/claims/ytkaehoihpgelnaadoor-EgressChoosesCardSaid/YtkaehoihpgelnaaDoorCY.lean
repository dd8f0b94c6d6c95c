/- Parts of a proof, printed by a program of mine out of my texts: SoSame, OpenRow, OpenBun, OpenExit. -/
import Derived.Deep.Slices
import Derived.DataReads
import Derived.ChangeSame
import Derived.Test.YtkaehoihpgelnaaDoorCA
import Derived.Test.YtkaehoihpgelnaaDoorCU
import Derived.Test.YtkaehoihpgelnaaDoorCW
set_option linter.unusedSimpArgs false
set_option linter.unusedVariables false
set_option maxRecDepth 100000
namespace Go.Proofs.YtkaehoihpgelnaaDoor
open Go.RowKit
def sameL : List Bn → List Bn → Bool
  | [],[] => true
  | x :: l,y :: m => eqB x y && sameL l m
  | _,_ => false
theorem sameL_iff : ∀ l m : List Bn,sameL l m = true ↔ l = m
  | [],[] => by simp [sameL]
  | [],y :: m => by simp [sameL]
  | x :: l,[] => by simp [sameL]
  | x :: l,y :: m => by simp [sameL,eqB_iff,sameL_iff l m]
theorem sameL_no {l m : List Bn} (h : l ≠ m) : sameL l m = false:=by
  cases hs : sameL l m
  · rfl
  · exact absurd ((sameL_iff l m).1 hs) h
theorem takeB_succ {xs ys : List Bn} {k : Nat} (h1 : k < xs.length) (h2 : k < ys.length) (h : xs.take k = ys.take k) (he : xs[k] = ys[k]) : xs.take (k + 1) = ys.take (k + 1):=by
  rw [List.take_succ_eq_append_getElem h1,List.take_succ_eq_append_getElem h2,h,he]
set_option maxHeartbeats 1600000 in
theorem sameB_any (a1 a2 : Option Addr) (c1 c2 : Nat) (l m : List Bn) (hl : l.length ≤ 100000) (hm : m.length ≤ 100000) (w : World) (h1 : SRow bn 9 w a1 c1 l) (h2 : SRow bn 9 w a2 c2 m) :
  Calls Tryd.prog 27 #[.slice a1 l.length c1,.slice a2 m.length c2] w fun e w' => e = .returned (.bool (sameL l m)) ∧ Below w.heap.size w w':=by
 have H1:=Lib.hid h1;have H2:=Lib.hid h2;clear h1 h2
 by_cases hlen : l.length = m.length
 ·have q1 : ((l.length : Int) != (m.length : Int)) = false:=by simp [hlen]
  have HL:=Lib.hid hlen
  clear hlen
  go_enter Tryd.func27,Tryd.ntmps27
  go_wp2
  go_loopw [5] (fun i wr => ∃ k : Nat,i = .int .i64 k ∧ k ≤ l.length ∧ Hid (l.take k = m.take k) ∧ Below w.heap.size w wr) (fun i _ => l.length - (intOf i).toNat)
  case atStart => exact ⟨0,rfl,Nat.zero_le _,Lib.hid rfl,Below.refl _ _⟩
  case round =>
   obtain ⟨k,rfl,hk,hE0,hB⟩:=hrel
   by_cases hlt : k < l.length
   ·have hlm : k < m.length:=by have:=HL.out;omega
    have i1 : (k : Int) < (l.length : Int):=by omega
    have i2 : (k : Int) < (m.length : Int):=by omega
    obtain ⟨b1,o1,rfl,g1,r1⟩:=(H1.out.below hB).2.2.2 (by omega)
    obtain ⟨b2,o2,rfl,g2,r2⟩:=(H2.out.below hB).2.2.2 (by omega)
    obtain ⟨x,hx⟩ : ∃ x,x = l[k]:=⟨_,rfl⟩
    obtain ⟨y,hy⟩ : ∃ x,x = m[k]:=⟨_,rfl⟩
    have R1:=r1 k hlt
    have R2:=r2 k hlm
    rw [← hx] at R1
    rw [← hy] at R2
    clear r1 r2
    have E:=fun W => run_bnNe x y W
    obtain ⟨q,hq⟩ : ∃ q,eqB x y = q:=⟨_,rfl⟩
    rw [hq] at E
    have HX:=Lib.hid hx;have HY:=Lib.hid hy;have HQ:=Lib.hid hq
    clear hx hy hq
    go_wp2_with fail
    refine wp_region_in (by kernel_rfl) (by kernel_rfl) ?_
    intro W0 hE hN
    have r1 : W0.rangeAt b1 (o1 + k * 9) (bn x):=(by rw [hE.out];exact R1)
    have r2 : W0.rangeAt b2 (o2 + k * 9) (bn y):=(by rw [hE.out];exact R2)
    have g1' : b1 < W0.heap.size:=(by rw [hE.out];exact g1)
    have g2' : b2 < W0.heap.size:=(by rw [hE.out];exact g2)
    have hB' : Below w.heap.size w W0:=(by rw [hE.out];exact hB)
    clear hE R1 R2 g1 g2 hB
    refine wpQuiet_split 3 ?_
    simp only [List.take_succ_cons,List.take_zero,List.drop_succ_cons,List.drop_zero]
    repeat (go_big_quiet_step (fail))
    refine wpQuiet_nil ?_
    refine wpQuiet_load_range 38 (.tmp 19) b1 (o1 + k * 9) (bn x) (fun W hW => by obtain ⟨x',rfl⟩:=hW;exact range_below g1' r1 x'.ok) _ (by kernel_rfl) rfl (by kernel_rfl) Tryd.underlying38 rfl (by kernel_rfl) ?_
    conv => arg 6;simp [Act.put]
    refine wpQuiet_split 3 ?_
    simp only [List.take_succ_cons,List.take_zero,List.drop_succ_cons,List.drop_zero]
    repeat (go_big_quiet_step (fail))
    refine wpQuiet_nil ?_
    refine wpQuiet_load_range 38 (.tmp 23) b2 (o2 + k * 9) (bn y) (fun W hW => by obtain ⟨x',rfl⟩:=hW;exact range_below g2' r2 x'.ok) _ (by kernel_rfl) rfl (by kernel_rfl) Tryd.underlying38 rfl (by kernel_rfl) ?_
    conv => arg 6;simp [Act.put]
    repeat (go_big_quiet_step (fail))
    refine wpQuiet_nil ?_
    rintro _ ⟨x',rfl⟩
    have hB2:=bt hB' x'.ok
    obtain ⟨u,hu⟩ : ∃ u,u = x'.wd:=⟨_,rfl⟩
    rw [← hu] at hB2 ⊢
    clear hu x' hN r1 r2 g1' g2' hB' E
    cases q
    ·go_wp2
     go_ret
     refine ⟨?_,hB2⟩
     rw [sameL_no (fun e => by subst e;have h3:=HQ.out;rw [HX.out,HY.out] at h3;exact absurd ((eqB_iff _ _).2 rfl) (by rw [h3];decide))]
     rfl
    ·go_wp2
     go_roundw
     case rel => exact ⟨k + 1,by go_num,by omega,Lib.hid (takeB_succ hlt hlm hE0.out (by rw [← HX.out,← HY.out];exact (eqB_iff _ _).1 HQ.out)),hB2⟩
     case measure => simp [intOf];omega
   ·obtain rfl : k = l.length:=by omega
    have e : l = m:=by
     have:=hE0.out
     rwa [List.take_length,HL.out,List.take_length] at this
    have hs : sameL l m = true:=(sameL_iff l m).2 e
    have HS:=Lib.hid hs
    clear hs e
    go_wp2
    go_ret
    exact ⟨by rw [HS.out];rfl,hB⟩
 ·have q1 : ((l.length : Int) != (m.length : Int)) = true:=by simp;omega
  rw [sameL_no (fun e => hlen (by rw [e]))]
  clear hlen
  go_enter Tryd.func27,Tryd.ntmps27
  go_wp2
  go_ret
  exact ⟨rfl,Below.refl _ _⟩
end Go.Proofs.YtkaehoihpgelnaaDoor
namespace Go.Proofs.YtkaehoihpgelnaaDoor
open Go.RowKit Go.ChangeShapes Go.WideShapes Go.Deep
section
variable {H : Type} {enc : TypeId × Value → H} {P : Program} {w : World} {base : Nat} {spare : Nat → Bool} {held : Bool}
theorem open_structs {α : Type} {r : Reach} {b0 : Nat} {t e : TypeId} {v : Value} {d : DataW H} {p : List MemPlace} {ks : List CellKind} {en : α → List Value} {k : Nat} {Good : α → Prop} (n : Nat)
    (ht : P.underlying t = some (.slice e)) (hks : flat P n e = some ks) (hce : P.cellsOf e = k) (hk : 0 < k) (hlen : ∀ x,(en x).length = k) (hmk : ∀ cs,CellsAre ks cs → ∃ x,cs = en x ∧ Good x)
    (hv : Value.okWide P w r b0 t v) (h : DataW.Trod enc P w base spare held t v d p) : ∃ a cap,∃ l : List α,v = .slice a l.length cap ∧ SRow en k w a cap l ∧ ∀ x ∈ l,Good x:=by
  obtain ⟨a,len,cap,rfl⟩:=okWide_slice ht hv
  obtain ⟨fuel,hf⟩:=h
  rcases open_slice ht hf with ⟨hcs,_⟩|⟨x,len',cap',m,n',D,Pl,hcs,hb,hl,hm,hmm,_,hx⟩
  · simp [Value.cells] at hcs
    obtain ⟨rfl,rfl,rfl⟩:=hcs
    exact ⟨none,0,[],rfl,srow_nil w,by simp⟩
  · simp [Value.cells] at hcs
    obtain ⟨rfl,rfl,rfl⟩:=hcs
    have hlm : len ≤ m:=by rw [hmm];split <;> omega
    have key : ∀ i,i < len → ∃ y : α,Good y ∧ ∀ j,j < k → w.cell? ((x.add (i * k)).add j) = (en y)[j]?:=fun i hi => by
      obtain ⟨cs',h1,h2⟩:=hx i (by omega)
      rw [hce] at h1
      obtain ⟨_,hl2,hc2⟩:=World.cells?_some h1
      obtain ⟨y,rfl,hg⟩:=hmk cs' (flat_are n e ks _ _ _ hks h2)
      exact ⟨y,hg,hc2⟩
    rcases Nat.eq_zero_or_pos len with h0|h0
    · subst h0
      exact ⟨some x,cap,[],rfl,⟨Nat.zero_le _,hm,(fun h => by cases h),fun h => absurd h (by simp)⟩,by simp⟩
    · obtain ⟨y0,_,_⟩:=key 0 h0
      have : Inhabited α:=⟨y0⟩
      obtain ⟨f,hf2⟩:=choose_lt key
      have hll : ((List.range len).map f).length = len:=by simp
      refine ⟨some x,cap,(List.range len).map f,by rw [hll],⟨by rw [hll];exact hl,hm,(fun h => by cases h),fun _ => ?_⟩,fun z hz => ?_⟩
      · have h1:=(hf2 0 h0).2 0 hk
        rw [Nat.zero_mul,Addr.add_zero',Addr.add_zero'] at h1
        have hy : (en (f 0))[0]? = some ((en (f 0))[0]'(by rw [hlen];exact hk)):=List.getElem?_eq_getElem _
        rw [hy] at h1
        obtain ⟨b,off,spot⟩:=x
        have hs : spot = none:=World.cell?_spot h1
        subst hs
        refine ⟨b,off,rfl,?_,fun i hi j u hu => ?_⟩
        · unfold World.cell? at h1
          cases ho : w.heap[b]? with
          | none => simp [ho] at h1
          | some o => exact (Array.getElem?_eq_some_iff.1 ho).1
        · have hi' : i < len:=by simpa using hi
          have hj : j < k:=by
            have:=(List.getElem?_eq_some_iff.1 hu).1
            rwa [hlen] at this
          have h2:=(hf2 i hi').2 j hj
          rw [Addr.add_lit,Addr.add_lit] at h2
          rw [h2]
          simpa using hu
      · obtain ⟨i,hi,rfl⟩:=List.mem_map.1 hz
        exact (hf2 i (by simpa using hi)).1
end
end Go.Proofs.YtkaehoihpgelnaaDoor
namespace Go.Proofs.YtkaehoihpgelnaaDoor
open Go.RowKit
abbrev kib : CellKind:=some (some .i64)
abbrev kub : CellKind:=some (some .u64)
def bnK : List CellKind:=[kib,kub,kib,kib,kib,kib,kib,kib,some none]
def GdB (b : Bn) : Prop:=b.da.size ≤ maxLen ∧ (Lit.int .u64 b.sq).wf = true
theorem bn_mk (cs : List Value) (h : CellsAre bnK cs) : ∃ x : Bn,cs = bn x ∧ GdB x:=by
  obtain ⟨c0,r0,rfl,q0,h⟩:=CellsAre.cons h
  obtain ⟨c1,r1,rfl,q1,h⟩:=CellsAre.cons h
  obtain ⟨c2,r2,rfl,q2,h⟩:=CellsAre.cons h
  obtain ⟨c3,r3,rfl,q3,h⟩:=CellsAre.cons h
  obtain ⟨c4,r4,rfl,q4,h⟩:=CellsAre.cons h
  obtain ⟨c5,r5,rfl,q5,h⟩:=CellsAre.cons h
  obtain ⟨c6,r6,rfl,q6,h⟩:=CellsAre.cons h
  obtain ⟨c7,r7,rfl,q7,h⟩:=CellsAre.cons h
  obtain ⟨c8,r8,rfl,q8,h⟩:=CellsAre.cons h
  obtain rfl:=CellsAre.nil h
  obtain ⟨n0,rfl,_⟩:=q0
  obtain ⟨n1,rfl,w1⟩:=q1
  obtain ⟨n2,rfl,_⟩:=q2
  obtain ⟨n3,rfl,_⟩:=q3
  obtain ⟨n4,rfl,_⟩:=q4
  obtain ⟨n5,rfl,_⟩:=q5
  obtain ⟨n6,rfl,_⟩:=q6
  obtain ⟨n7,rfl,_⟩:=q7
  obtain ⟨s8,rfl,w8⟩:=q8
  exact ⟨⟨n0,n1,n2,n3,n4,n5,n6,n7,s8⟩,rfl,w8,w1⟩
end Go.Proofs.YtkaehoihpgelnaaDoor
namespace Go.Proofs.YtkaehoihpgelnaaDoor
open Go.RowKit Go.ChangeShapes Go.WideShapes Go.Deep
section
variable {H : Type} {enc : TypeId × Value → H} {P : Program} {w : World} {base : Nat} {spare : Nat → Bool} {held : Bool}
theorem open_rowC {α : Type} {t e : TypeId} {ks : List CellKind} {en : α → List Value} {k : Nat} {fuel : Nat} {cs0 : List Value} {X : DataW H × List MemPlace} (n : Nat)
    (ht : P.underlying t = some (.slice e)) (hks : flat P n e = some ks) (hce : P.cellsOf e = k) (hk : 0 < k) (hlen : ∀ x,(en x).length = k) (hmk : ∀ cs,CellsAre ks cs → ∃ x,cs = en x)
    (hf : DataW.trod enc P w base spare held fuel t cs0 = some X) : ∃ a cap,∃ l : List α,cs0 = [.slice a l.length cap] ∧ SRow en k w a cap l:=by
  rcases open_slice ht hf with ⟨rfl,_⟩|⟨x,len,cap,m,n',D,Pl,rfl,hb,hl,hm,hmm,_,hx⟩
  · exact ⟨none,0,[],rfl,srow_nil w⟩
  · have hlm : len ≤ m:=by rw [hmm];split <;> omega
    have key : ∀ i,i < len → ∃ y : α,∀ j,j < k → w.cell? ((x.add (i * k)).add j) = (en y)[j]?:=fun i hi => by
      obtain ⟨cs',h1,h2⟩:=hx i (by omega)
      rw [hce] at h1
      obtain ⟨_,hl2,hc2⟩:=World.cells?_some h1
      obtain ⟨y,rfl⟩:=hmk cs' (flat_are n e ks _ _ _ hks h2)
      exact ⟨y,hc2⟩
    rcases Nat.eq_zero_or_pos len with h0|h0
    · subst h0
      exact ⟨some x,cap,[],rfl,⟨Nat.zero_le _,hm,(fun h => by cases h),fun h => absurd h (by simp)⟩⟩
    · obtain ⟨y0,_⟩:=key 0 h0
      have : Inhabited α:=⟨y0⟩
      obtain ⟨f,hf2⟩:=choose_lt (show ∀ i,i < len → ∃ y : α,∀ j,j < k → w.cell? ((x.add (i * k)).add j) = (en y)[j]? from key)
      have hll : ((List.range len).map f).length = len:=by simp
      refine ⟨some x,cap,(List.range len).map f,by rw [hll],⟨by rw [hll];exact hl,hm,(fun h => by cases h),fun _ => ?_⟩⟩
      have h1:=hf2 0 h0 0 hk
      rw [Nat.zero_mul,Addr.add_zero',Addr.add_zero'] at h1
      have hy : (en (f 0))[0]? = some ((en (f 0))[0]'(by rw [hlen];exact hk)):=List.getElem?_eq_getElem _
      rw [hy] at h1
      obtain ⟨b,off,spot⟩:=x
      have hs : spot = none:=World.cell?_spot h1
      subst hs
      refine ⟨b,off,rfl,?_,fun i hi j u hu => ?_⟩
      · unfold World.cell? at h1
        cases ho : w.heap[b]? with
        | none => simp [ho] at h1
        | some o => exact (Array.getElem?_eq_some_iff.1 ho).1
      · have hi' : i < len:=by simpa using hi
        have hj : j < k:=by
          have:=(List.getElem?_eq_some_iff.1 hu).1
          rwa [hlen] at this
        have h2:=hf2 i hi' j hj
        rw [Addr.add_lit,Addr.add_lit] at h2
        rw [h2]
        simpa using hu
theorem trod_struct4 {t : TypeId} {f0 f1 f2 f3 : Field} {fuel : Nat} {cs : List Value} {x : DataW H × List MemPlace} (ht : P.underlying t = some (.struct #[f0,f1,f2,f3])) (h : DataW.trod enc P w base spare held fuel t cs = some x) :
    ∃ y0 y1 y2 y3 n,DataW.trod enc P w base spare held n f0.type ((cs.drop f0.offset).take (P.cellsOf f0.type)) = some y0 ∧ DataW.trod enc P w base spare held n f1.type ((cs.drop f1.offset).take (P.cellsOf f1.type)) = some y1 ∧
      DataW.trod enc P w base spare held n f2.type ((cs.drop f2.offset).take (P.cellsOf f2.type)) = some y2 ∧ DataW.trod enc P w base spare held n f3.type ((cs.drop f3.offset).take (P.cellsOf f3.type)) = some y3:=by
  obtain ⟨xs,n,_,rfl,hl,hlen,hf⟩:=DataW.trod_struct ht h
  match xs,hlen with
  | [y0,y1,y2,y3],_ => exact ⟨y0,y1,y2,y3,n,by simpa using hf 0 f0 rfl,by simpa using hf 1 f1 rfl,by simpa using hf 2 f2 rfl,by simpa using hf 3 f3 rfl⟩
theorem ic_mk (cs : List Value) (h : CellsAre [some (some .i64)] cs) : ∃ x : Int,cs = ic x:=by
  obtain ⟨c0,r0,rfl,q0,h⟩:=CellsAre.cons h
  obtain rfl:=CellsAre.nil h
  obtain ⟨n0,rfl,_⟩:=q0
  exact ⟨n0,rfl⟩
theorem open_ints1 {fuel : Nat} {cs0 : List Value} {X : DataW H × List MemPlace} (hf : DataW.trod enc Tryd.prog w base spare held fuel 22 cs0 = some X) : ∃ a cap,∃ l : List Int,cs0 = [.slice a l.length cap] ∧ SRow ic 1 w a cap l :=
  open_rowC (en:=ic) (ks:=[some (some .i64)]) 4 Tryd.underlying22 (by kernel_rfl) (by kernel_rfl) (by decide) ic_len ic_mk hf
theorem open_exit {r : Reach} {b0 : Nat} {v : Value} {d : DataW H} {p : List MemPlace} (hv : Value.okWide Tryd.prog w r b0 28 v) (h : DataW.Trod enc Tryd.prog w base spare held 28 v d p) :
    ∃ aw cw ad cd ap cp,∃ ws ds ps : List Int,∃ q t : Int,v = .agg #[.slice aw ws.length cw,.int .i64 q,.slice ad ds.length cd,.int .i64 t,.slice ap ps.length cp] ∧ SRow ic 1 w aw cw ws ∧ SRow ic 1 w ad cd ds ∧ SRow ic 1 w ap cp ps:=by
  obtain ⟨cs,rfl,hsz⟩:=okWide_struct Tryd.underlying28 hv
  obtain ⟨fuel,hf⟩:=h
  have hf' : DataW.trod enc Tryd.prog w base spare held fuel 28 cs.toList = some (d,p):=hf
  obtain ⟨y0,y1,n,_,hl,h0,h1⟩:=trod_struct2 Tryd.underlying28 hf'
  obtain ⟨z0,z1,z2,z3,n2,g0,g1,g2,g3⟩:=trod_struct4 Tryd.underlying26 h0
  have e5 : cs.toList.length = 5:=hl.trans (by kernel_rfl)
  obtain ⟨L,hL⟩ : ∃ L,L = cs.toList:=⟨_,rfl⟩
  have ea : cs = L.toArray:=by rw [hL]
  rw [← hL] at e5 h1 g0 g1 g2 g3
  clear hL hf hf' h0 hl hsz hv
  subst ea
  match L,e5 with
  | [v0,v1,v2,v3,v4],_ =>
    have c22 : Tryd.prog.cellsOf 22 = 1:=by kernel_rfl
    have c3 : Tryd.prog.cellsOf 3 = 1:=by kernel_rfl
    have c26 : Tryd.prog.cellsOf 26 = 4:=by kernel_rfl
    simp only [c22,c3,c26,List.drop_zero,List.take_succ_cons,List.take_zero,List.drop_succ_cons] at h1 g0 g1 g2 g3
    obtain ⟨aw,cw,ws,ew,hw⟩:=open_ints1 g0
    obtain ⟨ad,cd,ds,ed,hd⟩:=open_ints1 g2
    obtain ⟨ap,cp,ps,ep,hp⟩:=open_ints1 h1
    obtain ⟨q,eq,_,_⟩:=DataW.trod_int Tryd.underlying3 g1
    obtain ⟨t,et,_,_⟩:=DataW.trod_int Tryd.underlying3 g3
    cases ew;cases ed;cases ep;cases eq;cases et
    exact ⟨aw,cw,ad,cd,ap,cp,ws,ds,ps,q,t,rfl,hw,hd,hp⟩
theorem open_three {r : Reach} {b0 : Nat} {v : Value} {d : DataW H} {p : List MemPlace} (hv : Value.okWide Tryd.prog w r b0 45 v) (h : DataW.Trod enc Tryd.prog w base spare held 45 v d p) :
    ∃ x0 x1 x2 : Int,v = .agg #[.int .i64 x0,.int .i64 x1,.int .i64 x2]:=by
  obtain ⟨cs,rfl⟩ : ∃ cs,v = .agg cs:=by
    simp only [Value.okWide,Tryd.underlying45] at hv
    obtain ⟨cs,h1,_⟩:=hv
    exact ⟨cs,h1⟩
  obtain ⟨fuel,hf⟩:=h
  have hc : CellsAre [some (some .i64),some (some .i64),some (some .i64)] cs.toList:=flat_are 4 45 _ fuel cs.toList (d,p) (by kernel_rfl) hf
  obtain ⟨c0,r0,e0,q0,hc⟩:=CellsAre.cons hc
  obtain ⟨c1,r1,rfl,q1,hc⟩:=CellsAre.cons hc
  obtain ⟨c2,r2,rfl,q2,hc⟩:=CellsAre.cons hc
  obtain rfl:=CellsAre.nil hc
  obtain ⟨x0,rfl,_⟩:=q0
  obtain ⟨x1,rfl,_⟩:=q1
  obtain ⟨x2,rfl,_⟩:=q2
  refine ⟨x0,x1,x2,?_⟩
  have : cs = #[.int .i64 x0,.int .i64 x1,.int .i64 x2]:=by
    apply Array.toList_inj.1
    exact e0
  rw [this]
end
end Go.Proofs.YtkaehoihpgelnaaDoor
