/- Parts of a proof, printed by a program of mine out of my texts: EgQcl, EgApp. -/
import Derived.Test.YtkaehoihpgelnaaDoorCA
import Derived.Test.YtkaehoihpgelnaaDoorCR
import Derived.Test.YtkaehoihpgelnaaDoorCU
set_option linter.unusedSimpArgs false
set_option linter.unusedVariables false
set_option maxRecDepth 100000
namespace Go.Proofs.YtkaehoihpgelnaaDoor
open Go.RowKit
theorem lessQ_any (a b : Bn) (ha : BnI a) (hb : BnI b) (w : World) : Calls Tryd.prog 72 #[.agg (bn a).toArray,.agg (bn b).toArray] w fun e w' => e = .returned (.bool (ltB a b)) ∧ Below w.heap.size w w' :=
  less_any a.no a.sq a.of a.de a.pr a.bo a.li a.to a.da b.no b.sq b.of b.de b.pr b.bo b.li b.to b.da ha.1 ha.2 hb.1 hb.2 w
def HdQ (c : Nat) (a : Option Addr) (cap : Nat) (l : List Bn) (W : World) : Prop:=blk W c = some #[.slice a l.length cap] ∧ SRow bn 9 W a cap l
theorem HdQ.below {c : Nat} {a : Option Addr} {cap : Nat} {l : List Bn} {W W' : World} (h : HdQ c a cap l W) (hb : Below W.heap.size W W') : HdQ c a cap l W':=⟨blk_below hb h.1,h.2.below hb⟩
theorem range_otherE {w : World} {b o g j : Nat} {cs : List Value} {v : Value} (h : w.rangeAt b o cs) (hne : b ≠ g) : (w.setCell ⟨g,j,none⟩ v).rangeAt b o cs:=fun i u hu => by
  have:=h i u hu
  unfold World.cell? at this ⊢
  rw [Below.heap_setCell w ⟨g,j,none⟩ v b hne]
  exact this
theorem SRow.setOtherE {α : Type} {enc : α → List Value} {k : Nat} {w : World} {a : Option Addr} {cap : Nat} {l : List α} (h : SRow enc k w a cap l) {g : Nat} (hne : ∀ b off,a = some ⟨b,off,none⟩ → b ≠ g) (j : Nat) (v : Value) : SRow enc k (w.setCell ⟨g,j,none⟩ v) a cap l:=by
  obtain ⟨h1,h2,h3,h4⟩:=h
  refine ⟨h1,h2,h3,fun h0 => ?_⟩
  obtain ⟨b,off,e,hlt,hc⟩:=h4 h0
  exact ⟨b,off,e,by simpa using hlt,fun i hi => range_otherE (hc i hi) (hne b off e)⟩
set_option maxHeartbeats 3200000 in
theorem qcl_any (l : List Bn) (i k : Nat) (hi : i < l.length) (hk : k < l.length) (hI : ∀ x ∈ l,BnI x) (c : Nat) (a : Option Addr) (cap : Nat) (w : World) (h : HdQ c a cap l w) :
  Calls Tryd.prog 71 #[.int .i64 i,.int .i64 k,.pointer (some ⟨c,0,none⟩)] w fun e w' => e = .returned (.int .i64 (cmQ l i k)) ∧ Below w.heap.size w w':=by
 unfold cmQ
 rw [bnL_nat l i hi,bnL_nat l k hk]
 obtain ⟨b,off,rfl,hbl,hcs⟩:=h.2.2.2.2 (by omega)
 obtain ⟨x,hx⟩ : ∃ x,x = l[i]:=⟨_,rfl⟩
 obtain ⟨y,hy⟩ : ∃ x,x = l[k]:=⟨_,rfl⟩
 have r1:=hcs i hi
 have r2:=hcs k hk
 rw [← hx] at r1 ⊢
 rw [← hy] at r2 ⊢
 have g1:=fun W => lessQ_any x y (by rw [hx];exact hI _ (List.getElem_mem hi)) (by rw [hy];exact hI _ (List.getElem_mem hk)) W
 have g2:=fun W => lessQ_any y x (by rw [hy];exact hI _ (List.getElem_mem hk)) (by rw [hx];exact hI _ (List.getElem_mem hi)) W
 obtain ⟨p,hp⟩ : ∃ q,ltB x y = q:=⟨_,rfl⟩
 obtain ⟨q,hq⟩ : ∃ q,ltB y x = q:=⟨_,rfl⟩
 rw [hp] at g1 ⊢
 rw [hq] at g2 ⊢
 replace g1:=Lib.hid g1;replace g2:=Lib.hid g2
 have hc:=h.1
 have hcap:=h.2.1
 have hmax:=h.2.2.1
 unfold maxLen at hmax
 have p1 : (i : Int) < (l.length : Int):=by omega
 have p2 : (k : Int) < (l.length : Int):=by omega
 have R1:=Lib.hid r1;have R2:=Lib.hid r2
 clear hx hy hp hq hcs h hI r1 r2
 have b0 : Below w.heap.size w w:=Below.refl _ _
 go_enter Tryd.func71,Tryd.ntmps71
 go_wp2_with fail
 refine wp_region_in (by kernel_rfl) (by kernel_rfl) ?_
 intro W0 hE hN
 have q1 : blk W0 c = some #[.slice (some ⟨b,off,none⟩) l.length cap]:=(by rw [hE.out];exact hc)
 have n1:=calm_kn q1
 have bW : Below w.heap.size w W0:=(by rw [hE.out];exact b0)
 have r1:=range_below hbl R1.out bW
 have r2:=range_below hbl R2.out bW
 have gl : b < W0.heap.size:=Nat.lt_of_lt_of_le hbl bW.size
 clear hE b0 hc
 refine wpQuiet_split 3 ?_
 simp only [List.take_succ_cons,List.take_zero,List.drop_succ_cons,List.drop_zero]
 repeat (go_big_quiet_step (fail))
 refine wpQuiet_nil ?_
 refine wpQuiet_load_range 38 (.tmp 9) b (off + i * 9) (bn x) (fun W hW => by obtain ⟨x',rfl⟩:=hW;exact range_below gl r1 x'.ok) _ (by kernel_rfl) rfl (by kernel_rfl) Tryd.underlying38 rfl (by kernel_rfl) ?_
 conv => arg 6;simp [Act.put]
 refine wpQuiet_split 3 ?_
 simp only [List.take_succ_cons,List.take_zero,List.drop_succ_cons,List.drop_zero]
 repeat (go_big_quiet_step (fail))
 refine wpQuiet_nil ?_
 refine wpQuiet_load_range 38 (.tmp 13) b (off + k * 9) (bn y) (fun W hW => by obtain ⟨x',rfl⟩:=hW;exact range_below gl r2 x'.ok) _ (by kernel_rfl) rfl (by kernel_rfl) Tryd.underlying38 rfl (by kernel_rfl) ?_
 conv => arg 6;simp [Act.put]
 repeat (go_big_quiet_step ((go_at_call 72;(with_reducible refine Class.go _ (g1.out _)))))
 refine wpQuiet_nil ?_
 rintro _ ⟨x',rfl⟩
 have b1:=bt bW x'.ok
 have hc1:=blk_below x'.ok q1
 obtain ⟨u,hu⟩ : ∃ u,u = x'.wd:=⟨_,rfl⟩
 rw [← hu] at b1 hc1 ⊢
 clear hu x' hN n1 q1 bW r1 r2 gl g1
 cases p
 ·go_wp2_with fail
  refine wp_region_in (by kernel_rfl) (by kernel_rfl) ?_
  intro W0 hE hN
  have q1 : blk W0 c = some #[.slice (some ⟨b,off,none⟩) l.length cap]:=(by rw [hE.out];exact hc1)
  have n1:=calm_kn q1
  have bW : Below w.heap.size w W0:=(by rw [hE.out];exact b1)
  have r1:=range_below hbl R1.out bW
  have r2:=range_below hbl R2.out bW
  have gl : b < W0.heap.size:=Nat.lt_of_lt_of_le hbl bW.size
  clear hE b1 hc1
  refine wpQuiet_split 3 ?_
  simp only [List.take_succ_cons,List.take_zero,List.drop_succ_cons,List.drop_zero]
  repeat (go_big_quiet_step (fail))
  refine wpQuiet_nil ?_
  refine wpQuiet_load_range 38 (.tmp 19) b (off + k * 9) (bn y) (fun W hW => by obtain ⟨x',rfl⟩:=hW;exact range_below gl r2 x'.ok) _ (by kernel_rfl) rfl (by kernel_rfl) Tryd.underlying38 rfl (by kernel_rfl) ?_
  conv => arg 6;simp [Act.put]
  refine wpQuiet_split 3 ?_
  simp only [List.take_succ_cons,List.take_zero,List.drop_succ_cons,List.drop_zero]
  repeat (go_big_quiet_step (fail))
  refine wpQuiet_nil ?_
  refine wpQuiet_load_range 38 (.tmp 23) b (off + i * 9) (bn x) (fun W hW => by obtain ⟨x',rfl⟩:=hW;exact range_below gl r1 x'.ok) _ (by kernel_rfl) rfl (by kernel_rfl) Tryd.underlying38 rfl (by kernel_rfl) ?_
  conv => arg 6;simp [Act.put]
  repeat (go_big_quiet_step ((go_at_call 72;(with_reducible refine Class.go _ (g2.out _)))))
  refine wpQuiet_nil ?_
  rintro _ ⟨x',rfl⟩
  have b2:=bt bW x'.ok
  obtain ⟨u2,hu⟩ : ∃ u,u = x'.wd:=⟨_,rfl⟩
  rw [← hu] at b2 ⊢
  clear hu x' hN n1 q1 bW r1 r2 gl g2
  cases q
  ·go_wp2
   go_ret
   exact ⟨rfl,b2⟩
  ·go_wp2
   go_ret
   exact ⟨rfl,b2⟩
 ·go_wp2
  go_ret
  exact ⟨rfl,b1⟩
theorem run_append_fresh {P : Program} (w : World) (base : Nat) (t ty e : TypeId) (i : TypeInfo) (z : Value) (size bytes : Nat) (ht : P.underlying t = some (.slice e)) (hi : P.info? e = some i) (hz : i.zero = some z)
    (hsize : i.size = size) (hby : i.bytes = bytes) (hzs : z.cells.size = size) (hsz : 0 < size)
    (v : Value) (n : Nat) (xs : List Value) (hown : w.ownsRow base e size v n xs)
    (a : Addr) (m c : Nat) (news : List Value) (hl : news.length = m * size) (hnews : ∀ j u,news[j]? = some u → w.cell? (a.add j) = some u) (h1 : ∀ u ∈ news,u.oneCell' = true) (hm : 0 < m)
    (h63 : n + m ≤ maxLen) (hbytes : (n + m) * bytes ≤ 140737488355328) (hbase : base ≤ w.heap.size) :
    ∃ v' w',(Builtin.append_ #[t,t] ty #[v,.slice (some a) m c]).run P w = .ok v' w' ∧ w'.ownsRow base e size v' (n + m) (xs ++ news) ∧ w.grownBy w' v.ownBlock ∧ (v'.ownBlock = v.ownBlock ∨ v'.ownBlock = some w.heap.size):=by
  obtain ⟨v',w',hr,h2,h3,_⟩:=run_append_own (P:=P) w base t ty e i z size bytes ht hi hz hsize hby hzs hsz v n xs hown a m c news hl hnews h1 h63 hbytes hbase
  refine ⟨v',w',hr,h2,h3,?_⟩
  subst hsize
  subst hby
  have hmax:=h63
  unfold maxLen at hmax
  rcases hown.2 with ⟨rfl,rfl⟩|⟨g,cap,cur,rfl,hbg,hg,hnc,hcm,hcs,htk⟩
  · have h9:=run_append_nil (P:=P) w t ty e i z ht hi hz a m c news hl hnews hm (by omega) (by have hb:=hbytes;simp only [Nat.zero_add] at hb;omega)
    rw [hr] at h9
    injection h9 with e1 e2
    exact .inr (by rw [e1];rfl)
  · by_cases hroom : n + m ≤ cap
    · have hfit : n * i.size + news.length ≤ cur.size:=by rw [hl,hcs,← Nat.add_mul];exact Nat.mul_le_mul_right _ hroom
      have h9:=run_append_room (P:=P) w t ty e i ht hi g n cap cur hg a m c news hl hnews h1 hroom hfit
      rw [hr] at h9
      injection h9 with e1 e2
      exact .inl (by rw [e1];rfl)
    · have h9:=run_append_grow (P:=P) w t ty e i z ht hi hz ⟨g,0,none⟩ n cap xs hown.1 (hown.cells (g:=g) rfl) a m c news hl hnews (by omega) (by omega) (growslice_fits (by omega) hbytes)
      rw [hr] at h9
      injection h9 with e1 e2
      exact .inr (by rw [e1];rfl)
theorem wp_append_fresh {P : Program} {w : World} {o : Oper} {a : Act} {K : Act → World → Prop} {Q : Exit → Act → World → Prop} (s x : Operand) (t : TypeId)
    (ho : o.op = .call { callee:=.builtin .append,args:=#[s,x],argTypes:=#[t,t] })
    (base : Nat) (e : TypeId) (i : TypeInfo) (z : Value) (size bytes : Nat) (ht : P.underlying t = some (.slice e)) (hi : P.info? e = some i) (hz : i.zero = some z)
    (hsize : i.size = size) (hby : i.bytes = bytes) (hzs : z.cells.size = size) (hsz : 0 < size)
    (v : Value) (n : Nat) (xs : List Value) (hs : a.eval s = v) (hown : w.ownsRow base e size v n xs)
    (ad : Addr) (m c : Nat) (news : List Value) (hx : a.eval x = .slice (some ad) m c) (hl : news.length = m * size) (hnews : ∀ j u,news[j]? = some u → w.cell? (ad.add j) = some u) (h1 : ∀ u ∈ news,u.oneCell' = true) (hm : 0 < m)
    (h63 : n + m ≤ maxLen) (hbytes : (n + m) * bytes ≤ 140737488355328) (hbase : base ≤ w.heap.size)
    (h : ∀ v' w',w'.ownsRow base e size v' (n + m) (xs ++ news) → w.grownBy w' v.ownBlock → (v'.ownBlock = v.ownBlock ∨ v'.ownBlock = some w.heap.size) → K (a.put o.dst v') w') : o.wp P a w K Q:=by
  obtain ⟨v',w',hr,h2,h3,h4⟩:=run_append_fresh (P:=P) w base t o.type e i z size bytes ht hi hz hsize hby hzs hsz v n xs hown ad m c news hl hnews h1 hm h63 hbytes hbase
  unfold Oper.wp execOp
  simp only [ho,resolve,invoke,builtin,Sem.run_bind,Sem.run_pure,Result.andThen_ok,List.map_toArray,List.map_cons,List.map_nil,hs,hx,hr]
  exact h v' w' h2 h3 h4
def apartV (a b : Value) : Prop:=∀ k,a.ownBlock = some k → b.ownBlock ≠ some k
theorem apartV.symm {a b : Value} (h : apartV a b) : apartV b a:=fun k e e2 => h k e2 e
theorem owns_keptE {w w' : World} {base : Nat} {e : TypeId} {size : Nat} {v : Value} {n : Nat} {xs : List Value} {row : Option Nat} (h : w.ownsRow base e size v n xs) (hg : w.grownBy w' row) (hne : ∀ k,v.ownBlock = some k → row ≠ some k) : w'.ownsRow base e size v n xs:=by
  obtain ⟨h1,h2⟩:=h
  refine ⟨h1,?_⟩
  rcases h2 with h2|⟨g,cap,cur,rfl,hb,hc,h3⟩
  · exact .inl h2
  · exact .inr ⟨g,cap,cur,rfl,hb,(hg.block g (Array.getElem?_eq_some_iff.1 hc).1 (fun e => hne g rfl e.symm)).trans hc,h3⟩
end Go.Proofs.YtkaehoihpgelnaaDoor
