/- Parts of a proof, printed by a program of mine out of my texts: EgMir, EgLeft, EgLawW, EgPas, EgSameX. -/
import Derived.Test.YtkaehoihpgelnaaDoorCF
import Derived.Test.YtkaehoihpgelnaaDoorCI
import Derived.Test.YtkaehoihpgelnaaDoorCL
import Derived.Test.YtkaehoihpgelnaaDoorCW
set_option linter.unusedSimpArgs false
set_option linter.unusedVariables false
set_option maxRecDepth 100000
namespace Go.Proofs.YtkaehoihpgelnaaDoor
theorem sorted_unique {α : Type} {R : α → α → Prop} (asym : ∀ a b,R a b → ¬ R b a) : ∀ (xs ys : List α),xs.Pairwise R → ys.Pairwise R → (∀ z,z ∈ xs ↔ z ∈ ys) → xs = ys
  | [],ys,_,_,h => by
    cases ys with
    | nil => rfl
    | cons y r => exact absurd ((h y).2 (by simp)) (by simp)
  | x :: r,[],_,_,h => absurd ((h x).1 (by simp)) (by simp)
  | x :: r,y :: s,h1,h2,h => by
    obtain ⟨a1,a2⟩:=List.pairwise_cons.1 h1
    obtain ⟨b1,b2⟩:=List.pairwise_cons.1 h2
    have e : x = y:=by
      rcases List.mem_cons.1 ((h x).1 (by simp)) with e|hx
      · exact e
      · rcases List.mem_cons.1 ((h y).2 (by simp)) with e|hy
        · exact e.symm
        · exact absurd (a1 y hy) (asym _ _ (b1 x hx))
    subst e
    have hr : ∀ z ∈ r,z ≠ x:=fun z hz e => by subst e;exact asym _ _ (a1 z hz) (a1 z hz)
    have hs : ∀ z ∈ s,z ≠ x:=fun z hz e => by subst e;exact asym _ _ (b1 z hz) (b1 z hz)
    rw [sorted_unique asym r s a2 b2 (fun z => ⟨fun hz => by
      rcases List.mem_cons.1 ((h z).1 (List.mem_cons_of_mem _ hz)) with e|h9
      · exact absurd e (hr z hz)
      · exact h9,fun hz => by
      rcases List.mem_cons.1 ((h z).2 (List.mem_cons_of_mem _ hz)) with e|h9
      · exact absurd e (hs z hz)
      · exact h9⟩)]
theorem choose_err {w : Wy} : (chooseS w).2.2 = linD w.dr (headsS w):=by
  unfold chooseS
  split
  · rfl
  · rename_i h;exact (Classical.byContradiction fun e => h (fun e2 => e e2.symm))
end Go.Proofs.YtkaehoihpgelnaaDoor
namespace Go.Proofs.YtkaehoihpgelnaaDoor
def keepI (L : List Int) (k : Nat) : List Nat:=(List.range k).filter (fun i => decide ((i : Int) ∉ L))
def tE (L : List Int) (n : Nat) (i : Int) : Int:=((keepI L n).getD i.toNat 0 : Nat)
end Go.Proofs.YtkaehoihpgelnaaDoor
namespace Go.Proofs.YtkaehoihpgelnaaDoor
open Go.RowKit
def LpW (W : World) (al a1 : Option Addr) (cl c1 sb eb : Nat) (l : List Bn) (L : List Int) (S : List Bool) (c : Array Value) (r : Rr) (ps : List Int) : Prop :=
  SRow bn 9 W al cl l ∧ SRow ic 1 W a1 c1 L ∧ blk W sb = some (cellB S) ∧ blk W eb = some c ∧ ExitS (or2 (fun _ => False) sb sb) W c r ps
theorem LpW.below {W W' : World} {al a1 : Option Addr} {cl c1 sb eb : Nat} {l : List Bn} {L : List Int} {S : List Bool} {c : Array Value} {r : Rr} {ps : List Int} (h : LpW W al a1 cl c1 sb eb l L S c r ps) (hb : Below W.heap.size W W') : LpW W' al a1 cl c1 sb eb l L S c r ps :=
  ⟨h.1.below hb,h.2.1.below hb,blk_below hb h.2.2.1,blk_below hb h.2.2.2.1,h.2.2.2.2.below hb⟩
end Go.Proofs.YtkaehoihpgelnaaDoor
namespace Go.Proofs.YtkaehoihpgelnaaDoor
theorem lstE_nodup {l : List Bn} (h : lstE l = 0) : (l.map bid).Nodup:=by
  unfold lstE at h
  split at h
  · cases h
  · split at h
    · rename_i h1;exact absurd h h1
    · split at h
      · rename_i h1;exact h1
      · cases h
theorem lstE_ids {l : List Bn} (h : lstE l = 0) : IdsE l:=by
  intro i k hi hk h1 h2 h3
  have hn:=lstE_nodup h
  rw [List.Nodup,List.pairwise_iff_getElem] at hn
  rcases Nat.lt_trichotomy i k with hik|hik|hik
  · exfalso
    refine hn i k (by simpa using hi) (by simpa using hk) hik ?_
    rw [List.getElem_map,List.getElem_map];unfold bid;rw [h1,h2,h3]
  · exact hik
  · exfalso
    refine hn k i (by simpa using hk) (by simpa using hi) hik ?_
    rw [List.getElem_map,List.getElem_map];unfold bid;rw [h1,h2,h3]
end Go.Proofs.YtkaehoihpgelnaaDoor
namespace Go.Proofs.YtkaehoihpgelnaaDoor
open Go.RowKit
def ExitG (W : World) (c : Array Value) (r : Rr) (ps : List Int) : Prop:=∃ aw cw ad cd ap cp,c = #[.slice aw r.w.length cw,.int .i64 r.q,.slice ad r.d.length cd,.int .i64 r.t,.slice ap ps.length cp] ∧ SRow ic 1 W aw cw r.w ∧ SRow ic 1 W ad cd r.d ∧ SRow ic 1 W ap cp ps
theorem ExitG.below {W W' : World} {c : Array Value} {r : Rr} {ps : List Int} (h : ExitG W c r ps) (hb : Below W.heap.size W W') : ExitG W' c r ps:=by
  obtain ⟨aw,cw,ad,cd,ap,cp,e,h1,h2,h3⟩:=h
  exact ⟨aw,cw,ad,cd,ap,cp,e,h1.below hb,h2.below hb,h3.below hb⟩
theorem ExitS.g {S : Nat → Prop} {W : World} {c : Array Value} {r : Rr} {ps : List Int} (h : ExitS S W c r ps) (l1 : r.w.length = 3) (l2 : r.d.length = 3) (l3 : ps.length = 3) : ExitG W c r ps:=by
  obtain ⟨aw,cw,ad,cd,ap,cp,e,h1,h2,h3,_⟩:=h
  exact ⟨aw,cw,ad,cd,ap,cp,by rw [l1,l2,l3];exact e,h1,h2,h3⟩
def eqX (r r2 : Rr) (ps ps2 : List Int) : Bool:=decide (r.w = r2.w) && (decide (r.d = r2.d) && ((r.q == r2.q) && ((r.t == r2.t) && decide (ps = ps2))))
theorem eqX_self (r : Rr) (ps : List Int) : eqX r r ps ps = true:=by simp [eqX]
set_option maxHeartbeats 3200000 in
theorem sameX_any (c1 c2 : Array Value) (r r2 : Rr) (ps ps2 : List Int) (w : World) (h1 : ExitG w c1 r ps) (h2 : ExitG w c2 r2 ps2) (l1 : r.w.length ≤ 100000) (l2 : r.d.length ≤ 100000) (l3 : ps.length ≤ 100000) (m1 : r2.w.length ≤ 100000) (m2 : r2.d.length ≤ 100000) (m3 : ps2.length ≤ 100000) :
    Calls Tryd.prog 16 #[.agg c1,.agg c2] w fun e w' => e = .returned (.bool (eqX r r2 ps ps2)) ∧ Below w.heap.size w w':=by
  obtain ⟨aw1,cw1,ad1,cd1,ap1,cp1,rfl,a1,a2,a3⟩:=h1
  obtain ⟨aw2,cw2,ad2,cd2,ap2,cp2,rfl,e1,e2,e3⟩:=h2
  have g1:=Lib.hid (fun W (hB : Below w.heap.size w W) => sameZ_any aw1 aw2 cw1 cw2 r.w r2.w l1 m1 W (a1.below hB) (e1.below hB))
  have g2:=Lib.hid (fun W (hB : Below w.heap.size w W) => sameZ_any ad1 ad2 cd1 cd2 r.d r2.d l2 m2 W (a2.below hB) (e2.below hB))
  have g3:=Lib.hid (fun W (hB : Below w.heap.size w W) => sameZ_any ap1 ap2 cp1 cp2 ps ps2 l3 m3 W (a3.below hB) (e3.below hB))
  clear a1 a2 a3 e1 e2 e3 l1 l2 l3 m1 m2 m3
  unfold eqX
  obtain ⟨b1,hb1⟩ : ∃ b,decide (r.w = r2.w) = b:=⟨_,rfl⟩
  obtain ⟨b2,hb2⟩ : ∃ b,decide (r.d = r2.d) = b:=⟨_,rfl⟩
  obtain ⟨b5,hb5⟩ : ∃ b,decide (ps = ps2) = b:=⟨_,rfl⟩
  rw [hb1] at g1 ⊢;rw [hb2] at g2 ⊢;rw [hb5] at g3 ⊢
  obtain ⟨nw1,hnw1⟩ : ∃ v,v = r.w.length:=⟨_,rfl⟩
  obtain ⟨nd1,hnd1⟩ : ∃ v,v = r.d.length:=⟨_,rfl⟩
  obtain ⟨np1,hnp1⟩ : ∃ v,v = ps.length:=⟨_,rfl⟩
  obtain ⟨q1,hq1⟩ : ∃ v,v = r.q:=⟨_,rfl⟩
  obtain ⟨t1,ht1⟩ : ∃ v,v = r.t:=⟨_,rfl⟩
  obtain ⟨nw2,hnw2⟩ : ∃ v,v = r2.w.length:=⟨_,rfl⟩
  obtain ⟨nd2,hnd2⟩ : ∃ v,v = r2.d.length:=⟨_,rfl⟩
  obtain ⟨np2,hnp2⟩ : ∃ v,v = ps2.length:=⟨_,rfl⟩
  obtain ⟨q2,hq2⟩ : ∃ v,v = r2.q:=⟨_,rfl⟩
  obtain ⟨t2,ht2⟩ : ∃ v,v = r2.t:=⟨_,rfl⟩
  rw [← hnw1,← hnw2] at g1 ⊢;rw [← hnd1,← hnd2] at g2 ⊢;rw [← hnp1,← hnp2] at g3 ⊢;rw [← hq1,← hq2,← ht1,← ht2]
  clear hb1 hb2 hb5 hnw1 hnd1 hnp1 hq1 ht1 hnw2 hnd2 hnp2 hq2 ht2
  obtain ⟨b3,h3⟩ : ∃ b,(q1 == q2) = b:=⟨_,rfl⟩
  obtain ⟨b4,h4⟩ : ∃ b,(t1 == t2) = b:=⟨_,rfl⟩
  rw [h3,h4]
  go_enter Tryd.func16,Tryd.ntmps16
  obtain ⟨u0,hu0⟩ : ∃ v,v = (w.alloc (.cells #[.slice aw1 nw1 cw1,.int .i64 q1,.slice ad1 nd1 cd1,.int .i64 t1,.slice ap1 np1 cp1] 28)).alloc (.cells #[.slice aw2 nw2 cw2,.int .i64 q2,.slice ad2 nd2 cd2,.int .i64 t2,.slice ap2 np2 cp2] 28):=⟨_,rfl⟩
  have blk_k0a : blk u0 w.heap.size = some #[.slice aw1 nw1 cw1,.int .i64 q1,.slice ad1 nd1 cd1,.int .i64 t1,.slice ap1 np1 cp1]:=by rw [hu0];exact blk_alloc (blk_alloc_new _ _ _ rfl) _
  have blk_k0b : blk u0 (w.heap.size + 1) = some #[.slice aw2 nw2 cw2,.int .i64 q2,.slice ad2 nd2 cd2,.int .i64 t2,.slice ap2 np2 cp2]:=by rw [hu0];exact blk_alloc_new _ _ _ (by simp)
  have B0 : Below w.heap.size w u0:=by rw [hu0];exact ((Below.refl _ _).alloc (Nat.le_refl _) _).alloc (by simp) _
  have n0a:=kn blk_k0a;have n0b:=kn blk_k0b
  go_upto_region 1 with fail
  rw [← hu0]
  clear hu0
  have hun : undef = Value.tuple #[]:=rfl
  cases b1
  · skip
    go_wp2_with (go_at_call 26;first|(with_reducible refine (g1.out _ B0).mono ?_;rintro e u1 ⟨rfl,h9⟩;(have B1 : Below w.heap.size w u1:=bt B0 h9);(have k1a : blk u1 w.heap.size = some #[.slice aw1 nw1 cw1,.int .i64 q1,.slice ad1 nd1 cd1,.int .i64 t1,.slice ap1 np1 cp1]:=blk_below h9 blk_k0a);(have k1b : blk u1 (w.heap.size + 1) = some #[.slice aw2 nw2 cw2,.int .i64 q2,.slice ad2 nd2 cd2,.int .i64 t2,.slice ap2 np2 cp2]:=blk_below h9 blk_k0b);(have n1a:=kn k1a);(have n1b:=kn k1b);clear h9)|(with_reducible refine (g2.out _ B1).mono ?_;rintro e u2 ⟨rfl,h9⟩;(have B2 : Below w.heap.size w u2:=bt B1 h9);(have k2a : blk u2 w.heap.size = some #[.slice aw1 nw1 cw1,.int .i64 q1,.slice ad1 nd1 cd1,.int .i64 t1,.slice ap1 np1 cp1]:=blk_below h9 k1a);(have k2b : blk u2 (w.heap.size + 1) = some #[.slice aw2 nw2 cw2,.int .i64 q2,.slice ad2 nd2 cd2,.int .i64 t2,.slice ap2 np2 cp2]:=blk_below h9 k1b);(have n2a:=kn k2a);(have n2b:=kn k2b);clear h9)|(with_reducible refine (g3.out _ B2).mono ?_;rintro e u3 ⟨rfl,h9⟩;(have B3 : Below w.heap.size w u3:=bt B2 h9);(have k3a : blk u3 w.heap.size = some #[.slice aw1 nw1 cw1,.int .i64 q1,.slice ad1 nd1 cd1,.int .i64 t1,.slice ap1 np1 cp1]:=blk_below h9 k2a);(have k3b : blk u3 (w.heap.size + 1) = some #[.slice aw2 nw2 cw2,.int .i64 q2,.slice ad2 nd2 cd2,.int .i64 t2,.slice ap2 np2 cp2]:=blk_below h9 k2b);(have n3a:=kn k3a);(have n3b:=kn k3b);clear h9))
    go_ret
    exact ⟨by simp,B1⟩
  · skip
    cases b2
    · skip
      go_wp2_with (go_at_call 26;first|(with_reducible refine (g1.out _ B0).mono ?_;rintro e u1 ⟨rfl,h9⟩;(have B1 : Below w.heap.size w u1:=bt B0 h9);(have k1a : blk u1 w.heap.size = some #[.slice aw1 nw1 cw1,.int .i64 q1,.slice ad1 nd1 cd1,.int .i64 t1,.slice ap1 np1 cp1]:=blk_below h9 blk_k0a);(have k1b : blk u1 (w.heap.size + 1) = some #[.slice aw2 nw2 cw2,.int .i64 q2,.slice ad2 nd2 cd2,.int .i64 t2,.slice ap2 np2 cp2]:=blk_below h9 blk_k0b);(have n1a:=kn k1a);(have n1b:=kn k1b);clear h9)|(with_reducible refine (g2.out _ B1).mono ?_;rintro e u2 ⟨rfl,h9⟩;(have B2 : Below w.heap.size w u2:=bt B1 h9);(have k2a : blk u2 w.heap.size = some #[.slice aw1 nw1 cw1,.int .i64 q1,.slice ad1 nd1 cd1,.int .i64 t1,.slice ap1 np1 cp1]:=blk_below h9 k1a);(have k2b : blk u2 (w.heap.size + 1) = some #[.slice aw2 nw2 cw2,.int .i64 q2,.slice ad2 nd2 cd2,.int .i64 t2,.slice ap2 np2 cp2]:=blk_below h9 k1b);(have n2a:=kn k2a);(have n2b:=kn k2b);clear h9)|(with_reducible refine (g3.out _ B2).mono ?_;rintro e u3 ⟨rfl,h9⟩;(have B3 : Below w.heap.size w u3:=bt B2 h9);(have k3a : blk u3 w.heap.size = some #[.slice aw1 nw1 cw1,.int .i64 q1,.slice ad1 nd1 cd1,.int .i64 t1,.slice ap1 np1 cp1]:=blk_below h9 k2a);(have k3b : blk u3 (w.heap.size + 1) = some #[.slice aw2 nw2 cw2,.int .i64 q2,.slice ad2 nd2 cd2,.int .i64 t2,.slice ap2 np2 cp2]:=blk_below h9 k2b);(have n3a:=kn k3a);(have n3b:=kn k3b);clear h9))
      go_ret
      exact ⟨by simp,B2⟩
    · skip
      cases b3
      · skip
        go_wp2_with (go_at_call 26;first|(with_reducible refine (g1.out _ B0).mono ?_;rintro e u1 ⟨rfl,h9⟩;(have B1 : Below w.heap.size w u1:=bt B0 h9);(have k1a : blk u1 w.heap.size = some #[.slice aw1 nw1 cw1,.int .i64 q1,.slice ad1 nd1 cd1,.int .i64 t1,.slice ap1 np1 cp1]:=blk_below h9 blk_k0a);(have k1b : blk u1 (w.heap.size + 1) = some #[.slice aw2 nw2 cw2,.int .i64 q2,.slice ad2 nd2 cd2,.int .i64 t2,.slice ap2 np2 cp2]:=blk_below h9 blk_k0b);(have n1a:=kn k1a);(have n1b:=kn k1b);clear h9)|(with_reducible refine (g2.out _ B1).mono ?_;rintro e u2 ⟨rfl,h9⟩;(have B2 : Below w.heap.size w u2:=bt B1 h9);(have k2a : blk u2 w.heap.size = some #[.slice aw1 nw1 cw1,.int .i64 q1,.slice ad1 nd1 cd1,.int .i64 t1,.slice ap1 np1 cp1]:=blk_below h9 k1a);(have k2b : blk u2 (w.heap.size + 1) = some #[.slice aw2 nw2 cw2,.int .i64 q2,.slice ad2 nd2 cd2,.int .i64 t2,.slice ap2 np2 cp2]:=blk_below h9 k1b);(have n2a:=kn k2a);(have n2b:=kn k2b);clear h9)|(with_reducible refine (g3.out _ B2).mono ?_;rintro e u3 ⟨rfl,h9⟩;(have B3 : Below w.heap.size w u3:=bt B2 h9);(have k3a : blk u3 w.heap.size = some #[.slice aw1 nw1 cw1,.int .i64 q1,.slice ad1 nd1 cd1,.int .i64 t1,.slice ap1 np1 cp1]:=blk_below h9 k2a);(have k3b : blk u3 (w.heap.size + 1) = some #[.slice aw2 nw2 cw2,.int .i64 q2,.slice ad2 nd2 cd2,.int .i64 t2,.slice ap2 np2 cp2]:=blk_below h9 k2b);(have n3a:=kn k3a);(have n3b:=kn k3b);clear h9))
        go_ret
        exact ⟨by simp,B2⟩
      · skip
        cases b4
        · skip
          go_wp2_with (go_at_call 26;first|(with_reducible refine (g1.out _ B0).mono ?_;rintro e u1 ⟨rfl,h9⟩;(have B1 : Below w.heap.size w u1:=bt B0 h9);(have k1a : blk u1 w.heap.size = some #[.slice aw1 nw1 cw1,.int .i64 q1,.slice ad1 nd1 cd1,.int .i64 t1,.slice ap1 np1 cp1]:=blk_below h9 blk_k0a);(have k1b : blk u1 (w.heap.size + 1) = some #[.slice aw2 nw2 cw2,.int .i64 q2,.slice ad2 nd2 cd2,.int .i64 t2,.slice ap2 np2 cp2]:=blk_below h9 blk_k0b);(have n1a:=kn k1a);(have n1b:=kn k1b);clear h9)|(with_reducible refine (g2.out _ B1).mono ?_;rintro e u2 ⟨rfl,h9⟩;(have B2 : Below w.heap.size w u2:=bt B1 h9);(have k2a : blk u2 w.heap.size = some #[.slice aw1 nw1 cw1,.int .i64 q1,.slice ad1 nd1 cd1,.int .i64 t1,.slice ap1 np1 cp1]:=blk_below h9 k1a);(have k2b : blk u2 (w.heap.size + 1) = some #[.slice aw2 nw2 cw2,.int .i64 q2,.slice ad2 nd2 cd2,.int .i64 t2,.slice ap2 np2 cp2]:=blk_below h9 k1b);(have n2a:=kn k2a);(have n2b:=kn k2b);clear h9)|(with_reducible refine (g3.out _ B2).mono ?_;rintro e u3 ⟨rfl,h9⟩;(have B3 : Below w.heap.size w u3:=bt B2 h9);(have k3a : blk u3 w.heap.size = some #[.slice aw1 nw1 cw1,.int .i64 q1,.slice ad1 nd1 cd1,.int .i64 t1,.slice ap1 np1 cp1]:=blk_below h9 k2a);(have k3b : blk u3 (w.heap.size + 1) = some #[.slice aw2 nw2 cw2,.int .i64 q2,.slice ad2 nd2 cd2,.int .i64 t2,.slice ap2 np2 cp2]:=blk_below h9 k2b);(have n3a:=kn k3a);(have n3b:=kn k3b);clear h9))
          go_ret
          exact ⟨by simp,B2⟩
        · skip
          cases b5
          · skip
            go_wp2_with (go_at_call 26;first|(with_reducible refine (g1.out _ B0).mono ?_;rintro e u1 ⟨rfl,h9⟩;(have B1 : Below w.heap.size w u1:=bt B0 h9);(have k1a : blk u1 w.heap.size = some #[.slice aw1 nw1 cw1,.int .i64 q1,.slice ad1 nd1 cd1,.int .i64 t1,.slice ap1 np1 cp1]:=blk_below h9 blk_k0a);(have k1b : blk u1 (w.heap.size + 1) = some #[.slice aw2 nw2 cw2,.int .i64 q2,.slice ad2 nd2 cd2,.int .i64 t2,.slice ap2 np2 cp2]:=blk_below h9 blk_k0b);(have n1a:=kn k1a);(have n1b:=kn k1b);clear h9)|(with_reducible refine (g2.out _ B1).mono ?_;rintro e u2 ⟨rfl,h9⟩;(have B2 : Below w.heap.size w u2:=bt B1 h9);(have k2a : blk u2 w.heap.size = some #[.slice aw1 nw1 cw1,.int .i64 q1,.slice ad1 nd1 cd1,.int .i64 t1,.slice ap1 np1 cp1]:=blk_below h9 k1a);(have k2b : blk u2 (w.heap.size + 1) = some #[.slice aw2 nw2 cw2,.int .i64 q2,.slice ad2 nd2 cd2,.int .i64 t2,.slice ap2 np2 cp2]:=blk_below h9 k1b);(have n2a:=kn k2a);(have n2b:=kn k2b);clear h9)|(with_reducible refine (g3.out _ B2).mono ?_;rintro e u3 ⟨rfl,h9⟩;(have B3 : Below w.heap.size w u3:=bt B2 h9);(have k3a : blk u3 w.heap.size = some #[.slice aw1 nw1 cw1,.int .i64 q1,.slice ad1 nd1 cd1,.int .i64 t1,.slice ap1 np1 cp1]:=blk_below h9 k2a);(have k3b : blk u3 (w.heap.size + 1) = some #[.slice aw2 nw2 cw2,.int .i64 q2,.slice ad2 nd2 cd2,.int .i64 t2,.slice ap2 np2 cp2]:=blk_below h9 k2b);(have n3a:=kn k3a);(have n3b:=kn k3b);clear h9))
            go_ret
            exact ⟨by simp,B3⟩
          · skip
            go_wp2_with (go_at_call 26;first|(with_reducible refine (g1.out _ B0).mono ?_;rintro e u1 ⟨rfl,h9⟩;(have B1 : Below w.heap.size w u1:=bt B0 h9);(have k1a : blk u1 w.heap.size = some #[.slice aw1 nw1 cw1,.int .i64 q1,.slice ad1 nd1 cd1,.int .i64 t1,.slice ap1 np1 cp1]:=blk_below h9 blk_k0a);(have k1b : blk u1 (w.heap.size + 1) = some #[.slice aw2 nw2 cw2,.int .i64 q2,.slice ad2 nd2 cd2,.int .i64 t2,.slice ap2 np2 cp2]:=blk_below h9 blk_k0b);(have n1a:=kn k1a);(have n1b:=kn k1b);clear h9)|(with_reducible refine (g2.out _ B1).mono ?_;rintro e u2 ⟨rfl,h9⟩;(have B2 : Below w.heap.size w u2:=bt B1 h9);(have k2a : blk u2 w.heap.size = some #[.slice aw1 nw1 cw1,.int .i64 q1,.slice ad1 nd1 cd1,.int .i64 t1,.slice ap1 np1 cp1]:=blk_below h9 k1a);(have k2b : blk u2 (w.heap.size + 1) = some #[.slice aw2 nw2 cw2,.int .i64 q2,.slice ad2 nd2 cd2,.int .i64 t2,.slice ap2 np2 cp2]:=blk_below h9 k1b);(have n2a:=kn k2a);(have n2b:=kn k2b);clear h9)|(with_reducible refine (g3.out _ B2).mono ?_;rintro e u3 ⟨rfl,h9⟩;(have B3 : Below w.heap.size w u3:=bt B2 h9);(have k3a : blk u3 w.heap.size = some #[.slice aw1 nw1 cw1,.int .i64 q1,.slice ad1 nd1 cd1,.int .i64 t1,.slice ap1 np1 cp1]:=blk_below h9 k2a);(have k3b : blk u3 (w.heap.size + 1) = some #[.slice aw2 nw2 cw2,.int .i64 q2,.slice ad2 nd2 cd2,.int .i64 t2,.slice ap2 np2 cp2]:=blk_below h9 k2b);(have n3a:=kn k3a);(have n3b:=kn k3b);clear h9))
            go_ret
            exact ⟨by simp,B3⟩
end Go.Proofs.YtkaehoihpgelnaaDoor
