/- Parts of a proof, printed by a program of mine out of my texts: EgDel, EgWo. -/
import Derived.Test.YtkaehoihpgelnaaDoorCW
set_option linter.unusedSimpArgs false
set_option linter.unusedVariables false
set_option maxRecDepth 100000
namespace Go.Proofs.YtkaehoihpgelnaaDoor
open Go.RowKit
theorem run_clearI (w : World) (g p c : Nat) (cs : Array Value) (hb : blk w g = some cs) (hp : p < cs.size) (ty : TypeId) : Sem.run Tryd.prog (Builtin.clear_ #[22] ty #[.slice (some ⟨g,p,none⟩) 1 c]) w = .ok (.tuple #[]) (w.setCell ⟨g,p,none⟩ (.int .i64 0)):=by
  have hz : ∀ w,(zeroValue 3).run Tryd.prog w = .ok (.int .i64 0) w:=fun w => by kernel_rfl
  have hst:=run_storeCells_cells (P:=Tryd.prog) g p [.int .i64 0] 0 w (fun j hj => by
    have hj : j < 1:=hj
    rw [blk_cell hb,Array.getElem?_eq_getElem (by omega)]
    rfl) (fun j hj => blk_frozen hb _) (by simp [Value.oneCell'])
  simp only [Nat.add_zero] at hst
  simp only [Builtin.clear_,Sem.run_bind,run_underlying Tryd.underlying22,Result.andThen_ok,hz,List.getElem?_toArray,List.getElem?_cons_zero]
  rw [show (Builtin.zeroCells (Value.cells (.int .i64 0)) 1).toList = [.int .i64 0] from by kernel_rfl,hst]
  rfl
theorem woCl_any (v i : Int) (c : Nat) (w : World) (hc : blk w c = some #[.int .i64 i]) : Calls Tryd.prog 65 #[.int .i64 v,.pointer (some ⟨c,0,none⟩)] w fun e w' => e = .returned (.bool (v == i)) ∧ w = w':=by
  have nc:=kn hc
  clear hc
  go_enter Tryd.func65,Tryd.ntmps65
  go_wp2
  go_ret
  exact ⟨rfl,rfl⟩
theorem at_mid (A B : List Int) (i : Int) : (A ++ i :: B)[A.length]? = some i:=by simp
theorem at_left {A B : List Int} {i : Int} {k : Nat} (hk : k < A.length) : (A ++ i :: B)[k]? = A[k]?:=List.getElem?_append_left hk
set_option maxHeartbeats 1600000 in
theorem idxW_any (g cp : Nat) (A B : List Int) (i : Int) (sp : List Value) (c : Nat) (hA : i ∉ A) (hcap : A.length + 1 + B.length ≤ cp) (hmx : cp ≤ maxLen) (w : World) (hb : blk w g = some (rowC ic (A ++ i :: B) ++ sp).toArray) (hc : blk w c = some #[.int .i64 i]) :
    Calls Tryd.prog 74 #[.slice (some ⟨g,0,none⟩) (A.length + 1 + B.length) cp,.func (.func 65) #[] #[.pointer (some ⟨c,0,none⟩)]] w fun e w' => e = .returned (.int .i64 A.length) ∧ w = w':=by
  have HB:=Lib.hid hb;have HC:=Lib.hid hc;have HA:=Lib.hid hA
  obtain ⟨n,hn⟩ : ∃ n,n = A.length + 1 + B.length:=⟨_,rfl⟩
  obtain ⟨p,hp⟩ : ∃ p,p = A.length:=⟨_,rfl⟩
  rw [← hn] at hcap ⊢
  rw [← hp]
  have hpn : p < n:=by omega
  have Hp:=Lib.hid hp
  have hmax:=hmx
  unfold maxLen at hmax
  clear hb hc hA hmx hn hp
  go_enter Tryd.func74,Tryd.ntmps74
  go_wp2
  go_loopw [8] (fun i wr => ∃ k : Nat,i = .int .i64 k ∧ k ≤ p ∧ w = wr) (fun i _ => n - (intOf i).toNat)
  case atStart => exact ⟨0,rfl,Nat.zero_le _,rfl⟩
  case round =>
    obtain ⟨k,rfl,hk,rfl⟩:=hrel
    have hltz : (k : Int) < (n : Int):=by omega
    have hlt : k < n:=by omega
    by_cases h1 : k < p
    · have h2 : k < A.length:=by rw [← Hp.out];exact h1
      have c1 : w.cell? ⟨g,k,none⟩ = some (.int .i64 A[k]):=blk_cellI (by rw [at_left h2,List.getElem?_eq_getElem h2]) HB.out
      obtain ⟨x,hx⟩ : ∃ x,x = A[k]:=⟨_,rfl⟩
      rw [← hx] at c1
      have hne : (x == i) = false:=by
        have : x ≠ i:=fun e => HA.out (by rw [← e,hx];exact List.getElem_mem _)
        simpa using this
      have gp:=woCl_any x i c w HC.out
      rw [hne] at gp
      replace gp:=Lib.hid gp
      clear hx hne h2
      go_wp2_with (go_at_call 65;(with_reducible refine (gp.out).mono ?_);rintro e w2 ⟨rfl,rfl⟩)
      go_roundw
      case rel => exact ⟨k + 1,by go_num,by omega,trivial⟩
      case measure => simp [intOf];omega
    · obtain rfl : k = p:=by omega
      have c1 : w.cell? ⟨g,k,none⟩ = some (.int .i64 i):=blk_cellI (by rw [Hp.out];exact at_mid A B i) HB.out
      have gp:=woCl_any i i c w HC.out
      rw [beq_self_eq_true] at gp
      replace gp:=Lib.hid gp
      clear h1 hk
      go_wp2_with (go_at_call 65;(with_reducible refine (gp.out).mono ?_);rintro e w2 ⟨rfl,rfl⟩)
      go_ret
      exact ⟨rfl,rfl⟩
def shM (A B : List Int) (i : Int) (m : Nat) : List Int:=A ++ (B.take m ++ (i :: B).drop m)
theorem shM_zero (A B : List Int) (i : Int) : shM A B i 0 = A ++ i :: B:=by simp [shM]
theorem shM_len (A B : List Int) (i : Int) (m : Nat) (hm : m ≤ B.length) : (shM A B i m).length = A.length + 1 + B.length:=by
  simp [shM];omega
theorem shM_at (A B : List Int) (i : Int) (m : Nat) (hm : m < B.length) : (shM A B i m)[A.length + 1 + m]? = some B[m]:=by
  unfold shM
  rw [List.getElem?_append_right (by omega),List.getElem?_append_right (by rw [List.length_take];omega),List.length_take,List.getElem?_drop]
  have e : m + (A.length + 1 + m - A.length - min m B.length) = m + 1:=by omega
  rw [e,List.getElem?_cons_succ,List.getElem?_eq_getElem hm]
theorem shM_set (A B : List Int) (i : Int) (m : Nat) (hm : m < B.length) : (shM A B i m).set (A.length + m) B[m] = shM A B i (m + 1):=by
  unfold shM
  rw [List.set_append_right _ _ (by omega),List.set_append_right _ _ (by rw [List.length_take];omega),List.length_take]
  have e : A.length + m - A.length - min m B.length = 0:=by omega
  rw [e]
  have e2 : (i :: B).drop m = (i :: B)[m]'(by simp;omega) :: B.drop m:=by
    rw [List.drop_eq_getElem_cons (by simp;omega)];rfl
  rw [e2,List.set_cons_zero,List.drop_succ_cons,List.take_succ_eq_append_getElem hm,List.append_assoc]
  rfl
theorem shM_end (A B : List Int) (i : Int) : ∃ z,shM A B i B.length = A ++ B ++ [z]:=by
  refine ⟨(i :: B)[B.length]'(by simp),?_⟩
  unfold shM
  rw [List.take_length,List.drop_eq_getElem_cons (by simp),List.drop_eq_nil_of_le (by simp),List.append_assoc]
set_option maxHeartbeats 3200000 in
theorem deleteF_any (g cp : Nat) (A B : List Int) (i : Int) (sp : List Value) (c : Nat) (hA : i ∉ A) (hB : i ∉ B) (hcap : A.length + 1 + B.length ≤ cp) (hmx : cp ≤ maxLen) (hne : c ≠ g) (w : World) (hb : blk w g = some (rowC ic (A ++ i :: B) ++ sp).toArray) (hc : blk w c = some #[.int .i64 i]) :
    Calls Tryd.prog 64 #[.slice (some ⟨g,0,none⟩) (A.length + 1 + B.length) cp,.func (.func 65) #[] #[.pointer (some ⟨c,0,none⟩)]] w fun e w' => e = .returned (.slice (some ⟨g,0,none⟩) (A.length + B.length) cp) ∧ (∃ sp',blk w' g = some (rowC ic (A ++ B) ++ sp').toArray) ∧ Below g w w' ∧ SameB g w w':=by
  have GI:=Lib.hid (idxW_any g cp A B i sp c hA hcap hmx w hb hc)
  have HB:=Lib.hid hB
  have K0 : Hid (blk w g = some (rowC ic (shM A B i 0) ++ sp).toArray ∧ SameB g w w):=Lib.hid ⟨by rw [shM_zero];exact hb,SameB.refl _ _⟩
  have HC:=Lib.hid hc
  have hgs:=blk_lt hb
  obtain ⟨p,hp⟩ : ∃ p,p = A.length:=⟨_,rfl⟩
  obtain ⟨n,hn⟩ : ∃ n,n = p + 1 + B.length:=⟨_,rfl⟩
  have hmax:=hmx
  unfold maxLen at hmax
  have LA:=Lib.hid hp
  rw [← hp,← hn] at GI ⊢
  rw [← hp,← hn] at hcap
  have Hn:=Lib.hid hn
  have hpn0 : p < n:=by omega
  clear hb hc hA hB hmx hp hn
  have q1 : ((p : Int) == -1) = false:=by
    have : ¬ ((p : Int) = -1):=by omega
    exact beq_false_of_ne this
  go_enter Tryd.func64,Tryd.ntmps64
  go_wp2_with (go_at_call 74;(with_reducible refine (GI.out).mono ?_);rintro e w2 ⟨rfl,rfl⟩)
  go_loopw [5,6] (fun k j wr => ∃ m : Nat,k = .int .i64 (p + m : Nat) ∧ j = .int .i64 (p + 1 + m : Nat) ∧ m ≤ B.length ∧ Below g w wr ∧ Hid (blk wr g = some (rowC ic (shM A B i m) ++ sp).toArray ∧ SameB g w wr)) (fun k j _ => n - (intOf j).toNat)
  case atStart => exact ⟨0,by go_num,by go_num,Nat.zero_le _,Below.refl _ _,K0⟩
  case round =>
    clear K0
    obtain ⟨m,rfl,rfl,hm,hBw,HK⟩:=hrel
    have hn:=Hn.out
    by_cases hlt : m < B.length
    · have hjn : p + 1 + m < n:=by omega
      have hjz : ((p + 1 + m : Nat) : Int) < (n : Int):=by omega
      obtain ⟨x,hx⟩ : ∃ x,x = B[m]:=⟨_,rfl⟩
      have c1 : wr.cell? ⟨g,p + 1 + m,none⟩ = some (.int .i64 x):=by rw [hx];exact blk_cellI (by have:=shM_at A B i m hlt;rw [← LA.out] at this;exact this) HK.out.1
      have hne2 : (x == i) = false:=by
        have : x ≠ i:=fun e => HB.out (by rw [← e,hx];exact List.getElem_mem _)
        simpa using this
      have gp:=woCl_any x i c wr (blk_same HC.out hne HK.out.2)
      rw [hne2] at gp
      replace gp:=Lib.hid gp
      obtain ⟨y,hy⟩ : ∃ y,(shM A B i m)[p + m]? = some y:=⟨_,List.getElem?_eq_getElem (by rw [shM_len A B i m hm,← LA.out];omega)⟩
      have d1 : wr.cell? ⟨g,p + m,none⟩ = some (.int .i64 y):=blk_cellI hy HK.out.1
      have d2:=blk_frozen HK.out.1 (p + m)
      have K1 : Hid (blk (wr.setCell ⟨g,p + m,none⟩ (.int .i64 x)) g = some (rowC ic (shM A B i (m + 1)) ++ sp).toArray ∧ SameB g w (wr.setCell ⟨g,p + m,none⟩ (.int .i64 x))):=Lib.hid ⟨by
        have h9:=shM_set A B i m hlt
        rw [← LA.out,← hx] at h9
        rw [← h9];exact blk_setI hy HK.out.1,HK.out.2.set _ _⟩
      have hpn : p + m < n:=by omega
      have hpz : ((p + m : Nat) : Int) < (n : Int):=by omega
      obtain ⟨j,hj⟩ : ∃ j,j = p + 1 + m:=⟨_,rfl⟩
      obtain ⟨k,hk⟩ : ∃ k,k = p + m:=⟨_,rfl⟩
      have hjk : j = k + 1:=by omega
      rw [← hj] at hjn hjz c1 ⊢
      rw [← hk] at d1 d2 K1 hpn hpz ⊢
      have Hj:=Lib.hid hj;have Hk:=Lib.hid hk;have Hjk:=Lib.hid hjk
      clear hx hne2 hy hj hk hjk HK hn
      go_wp2_with (go_at_call 65;(with_reducible refine (gp.out).mono ?_);rintro e w2 ⟨rfl,rfl⟩)
      go_roundw
      case rel => exact ⟨m + 1,by rw [Hk.out];go_num,by rw [Hj.out];go_num,hlt,hBw.setCell (Nat.le_refl _) _,K1⟩
      case measure => have:=Hj.out;have:=Hn.out;simp [intOf];omega
    · obtain rfl : m = B.length:=by omega
      obtain ⟨z,hz⟩:=shM_end A B i
      have K1 : blk wr g = some (rowC ic (A ++ B ++ [z]) ++ sp).toArray:=by rw [← hz];exact HK.out.1
      have ez : (A ++ B ++ [z])[p + B.length]? = some z:=by rw [LA.out,← List.length_append];exact List.getElem?_concat_length
      have K2:=blk_setI (y:=0) ez K1
      have e2 : (A ++ B ++ [z]).set (p + B.length) 0 = A ++ B ++ [0]:=by rw [LA.out,← List.length_append,List.set_append_right _ _ (Nat.le_refl _),Nat.sub_self];rfl
      rw [e2,rowC_append,List.append_assoc] at K2
      have hsz : p + B.length < (rowC ic (A ++ B ++ [z]) ++ sp).toArray.size:=by
        have:=(List.getElem?_eq_some_iff.1 ez).1
        simp only [List.size_toArray,List.length_append,ic_lensE]
        simp only [List.length_append] at this
        omega
      have SX:=HK.out.2.set (p + B.length) (.int .i64 0)
      have K3:=Lib.hid (And.intro K1 (And.intro K2 (And.intro hsz SX)))
      obtain ⟨k,hk⟩ : ∃ k,k = p + B.length:=⟨_,rfl⟩
      have hnk : n = k + 1:=by omega
      have e3 : p + 1 + B.length = n:=hn.symm
      rw [e3]
      rw [← hk] at K3 ⊢
      have Hnk:=Lib.hid hnk
      have l1 : ¬ cp = k:=by omega
      have l2 : ¬ cp = 0:=by omega
      have l3 : k ≤ cp:=by omega
      have l4 : k ≤ n:=by omega
      have l5 : n ≤ cp:=by omega
      have l6 : n - k = 1:=by omega
      have l7 : ¬ ((n : Int) < (n : Int)):=by omega
      have Hk:=Lib.hid hk
      clear hz K1 ez K2 e2 hsz SX HK hnk hk hn e3
      have hcl:=fun ty => run_clearI wr g k (cp - k) _ K3.out.1 K3.out.2.2.1 ty
      go_wp2
      go_ret
      exact ⟨by rw [← Hk.out];rfl,⟨_,K3.out.2.1⟩,hBw.setCell (Nat.le_refl _) _,K3.out.2.2.2⟩
theorem nilEqQ (ad : Addr) (n c : Nat) (w : World) : Sem.run Tryd.prog (binOp BinOp.eql 50 (.slice (some ad) n c) (.slice none 0 0)) w = .ok (.bool false) w:=by kernel_rfl
theorem own_emptyQ (w : World) (e : TypeId) : (w.alloc (.cells #[] e)).ownsRow w.heap.size e 1 (.slice (some ⟨w.heap.size,0,none⟩) 0 0) 0 []:=own_emptyE w e
set_option maxHeartbeats 1600000 in
theorem cloneQ_any (ob cq : Nat) (cs : List Value) (h3 : cs.length = 3) (h1 : ∀ u ∈ cs,u.oneCell' = true) (hcq : 3 ≤ cq) (w : World) (lob : ob < w.heap.size) (hrow : w.rangeAt ob 0 cs) :
    Calls Tryd.prog 63 #[.slice (some ⟨ob,0,none⟩) 3 cq] w fun e w' => ∃ g c sp,e = .returned (.slice (some ⟨g,0,none⟩) 3 c) ∧ 3 ≤ c ∧ c ≤ maxLen ∧ w.heap.size ≤ g ∧ blk w' g = some (cs ++ sp).toArray ∧ Below w.heap.size w w':=by
  obtain ⟨i0,hi,hz0,hz1,hz2⟩:=info_parts infoSlE
  have Hi:=Lib.hid hi;have Hz0:=Lib.hid hz0;have Hz1:=Lib.hid hz1;have Hz2:=Lib.hid hz2
  clear hi hz0 hz1 hz2
  have ne:=nilEqQ
  have BA : Below w.heap.size w (w.alloc (.cells #[] 22)):=(Below.refl _ _).alloc (Nat.le_refl _) _
  have HC : Hid (∀ j u,cs[j]? = some u → (w.alloc (.cells #[] 22)).cell? ((⟨ob,0,none⟩ : Addr).add j) = some u):=Lib.hid (by
    intro j u hj
    rw [Addr.add_mid,BA.cell (p:=⟨ob,0 + j,none⟩) lob]
    exact hrow j u hj)
  have H1:=Lib.hid h1;have H3:=Lib.hid h3
  clear hrow h1 h3
  go_enter Tryd.func63,Tryd.ntmps63
  go_wp2_with (at_builtin;go_loud (refine wpList_append_own _ rfl _ _ 50 rfl w.heap.size 22 i0 (.slice none 0 0) 1 24 Tryd.underlying50 Hi.out Hz0.out Hz1.out Hz2.out rfl (by decide) (.slice (some ⟨w.heap.size,0,none⟩) 0 0) 0 [] rfl (own_emptyQ w _) ⟨ob,0,none⟩ 3 cq cs rfl H3.out HC.out H1.out (by unfold maxLen;omega) (by omega) (by simp) ?_);intro v' wb hown2 hgrow2 _)
  go_ret
  have h9 : wb.ownsRow w.heap.size 22 1 v' 3 cs:=by
    have h9:=hown2
    rw [Nat.zero_add,List.nil_append] at h9
    exact h9
  have hB:=BA.grown hgrow2 (by simp) (fun k e => (own_emptyQ w 22).lt k e |>.1)
  rcases h9.2 with ⟨_,e⟩|⟨g,cap,cur,e,hgb,hgg,hcl,hcm,hcs,hct⟩
  · cases e
  cases e
  exact ⟨g,cap,cur.toList.drop (3 * 1),rfl,hcl,hcm,hgb,by rw [blk_of hgg,← hct,List.take_append_drop],hB⟩
def QRow (W : World) (cs : List Value) (q0 q1 q2 : List Int) : Prop:=∃ a0 c0 a1 c1 a2 c2,cs = [.slice a0 q0.length c0,.slice a1 q1.length c1,.slice a2 q2.length c2] ∧ SRow ic 1 W a0 c0 q0 ∧ SRow ic 1 W a1 c1 q1 ∧ SRow ic 1 W a2 c2 q2
theorem qrow_of {W : World} {ob : Nat} {q0 q1 q2 : List Int} (h : QAt W ob q0 q1 q2) : ∃ cs,QRow W cs q0 q1 q2 ∧ ob < W.heap.size ∧ W.rangeAt ob 0 cs:=by
  obtain ⟨a0,c0,a1,c1,a2,c2,h1,h2,h3,h4,h5⟩:=h
  exact ⟨_,⟨a0,c0,a1,c1,a2,c2,rfl,h3,h4,h5⟩,h1,h2⟩
theorem QRow.qat {W : World} {cs : List Value} {ob : Nat} {q0 q1 q2 : List Int} (h : QRow W cs q0 q1 q2) (h1 : ob < W.heap.size) (h2 : W.rangeAt ob 0 cs) : QAt W ob q0 q1 q2:=by
  obtain ⟨a0,c0,a1,c1,a2,c2,rfl,h3,h4,h5⟩:=h
  exact ⟨a0,c0,a1,c1,a2,c2,h1,h2,h3,h4,h5⟩
theorem QRow.len {W : World} {cs : List Value} {q0 q1 q2 : List Int} (h : QRow W cs q0 q1 q2) : cs.length = 3:=by
  obtain ⟨a0,c0,a1,c1,a2,c2,rfl,_⟩:=h;rfl
theorem QRow.one {W : World} {cs : List Value} {q0 q1 q2 : List Int} (h : QRow W cs q0 q1 q2) : ∀ u ∈ cs,u.oneCell' = true:=by
  obtain ⟨a0,c0,a1,c1,a2,c2,rfl,_⟩:=h
  intro u hu
  simp at hu
  rcases hu with rfl|rfl|rfl <;> rfl
theorem QRow.below {W W' : World} {cs : List Value} {q0 q1 q2 : List Int} (h : QRow W cs q0 q1 q2) (hb : Below W.heap.size W W') : QRow W' cs q0 q1 q2:=by
  obtain ⟨a0,c0,a1,c1,a2,c2,e,h3,h4,h5⟩:=h
  exact ⟨a0,c0,a1,c1,a2,c2,e,h3.below hb,h4.below hb,h5.below hb⟩
def q3 (q0 q1 q2 : List Int) (p : Nat) : List Int:=[q0,q1,q2].getD p []
theorem QRow.get {W : World} {cs : List Value} {q0 q1 q2 : List Int} (h : QRow W cs q0 q1 q2) {p : Nat} (hp : p < 3) : ∃ a c,cs[p]? = some (.slice a (q3 q0 q1 q2 p).length c) ∧ SRow ic 1 W a c (q3 q0 q1 q2 p):=by
  obtain ⟨a0,c0,a1,c1,a2,c2,rfl,h3,h4,h5⟩:=h
  match p,hp with
  | 0,_ => exact ⟨a0,c0,rfl,h3⟩
  | 1,_ => exact ⟨a1,c1,rfl,h4⟩
  | 2,_ => exact ⟨a2,c2,rfl,h5⟩
theorem QRow.put {W : World} {cs : List Value} {q0 q1 q2 q : List Int} (h : QRow W cs q0 q1 q2) {p : Nat} (hp : p < 3) {a : Option Addr} {c : Nat} (hq : SRow ic 1 W a c q) :
    QRow W (cs.set p (.slice a q.length c)) (if 0 = p then q else q0) (if 1 = p then q else q1) (if 2 = p then q else q2):=by
  obtain ⟨a0,c0,a1,c1,a2,c2,rfl,h3,h4,h5⟩:=h
  match p,hp with
  | 0,_ => exact ⟨a,c,a1,c1,a2,c2,rfl,hq,h4,h5⟩
  | 1,_ => exact ⟨a0,c0,a,c,a2,c2,rfl,h3,hq,h5⟩
  | 2,_ => exact ⟨a0,c0,a1,c1,a,c,rfl,h3,h4,hq⟩
def QRowS (S : Nat → Prop) (W : World) (cs : List Value) (q0 q1 q2 : List Int) : Prop:=∃ a0 c0 a1 c1 a2 c2,cs = [.slice a0 q0.length c0,.slice a1 q1.length c1,.slice a2 q2.length c2] ∧ SRow ic 1 W a0 c0 q0 ∧ SRow ic 1 W a1 c1 q1 ∧ SRow ic 1 W a2 c2 q2 ∧ neS S a0 q0 ∧ neS S a1 q1 ∧ neS S a2 q2
theorem qrowS_of {S : Nat → Prop} {W : World} {ob : Nat} {q0 q1 q2 : List Int} (h : QAtS S W ob q0 q1 q2) : ∃ cs,QRowS S W cs q0 q1 q2 ∧ ob < W.heap.size ∧ W.rangeAt ob 0 cs:=by
  obtain ⟨a0,c0,a1,c1,a2,c2,_,h1,h2,h3,h4,h5,n⟩:=h
  exact ⟨_,⟨a0,c0,a1,c1,a2,c2,rfl,h3,h4,h5,n⟩,h1,h2⟩
theorem QRowS.row {S : Nat → Prop} {W : World} {cs : List Value} {q0 q1 q2 : List Int} (h : QRowS S W cs q0 q1 q2) : QRow W cs q0 q1 q2:=by
  obtain ⟨a0,c0,a1,c1,a2,c2,e,h3,h4,h5,n⟩:=h
  exact ⟨a0,c0,a1,c1,a2,c2,e,h3,h4,h5⟩
theorem QRowS.qat {S : Nat → Prop} {W : World} {cs : List Value} {ob : Nat} {q0 q1 q2 : List Int} (h : QRowS S W cs q0 q1 q2) (h0 : ¬ S ob) (h1 : ob < W.heap.size) (h2 : W.rangeAt ob 0 cs) : QAtS S W ob q0 q1 q2:=by
  obtain ⟨a0,c0,a1,c1,a2,c2,rfl,h3,h4,h5,n⟩:=h
  exact ⟨a0,c0,a1,c1,a2,c2,h0,h1,h2,h3,h4,h5,n⟩
theorem QRowS.below {S : Nat → Prop} {W W' : World} {cs : List Value} {q0 q1 q2 : List Int} (h : QRowS S W cs q0 q1 q2) (hb : Below W.heap.size W W') : QRowS S W' cs q0 q1 q2:=by
  obtain ⟨a0,c0,a1,c1,a2,c2,e,h3,h4,h5,n⟩:=h
  exact ⟨a0,c0,a1,c1,a2,c2,e,h3.below hb,h4.below hb,h5.below hb,n⟩
theorem QRowS.put {S : Nat → Prop} {W : World} {cs : List Value} {q0 q1 q2 q : List Int} (h : QRowS S W cs q0 q1 q2) {p : Nat} (hp : p < 3) {a : Option Addr} {c : Nat} (hq : SRow ic 1 W a c q) (hn : neS S a q) :
    QRowS S W (cs.set p (.slice a q.length c)) (if 0 = p then q else q0) (if 1 = p then q else q1) (if 2 = p then q else q2):=by
  obtain ⟨a0,c0,a1,c1,a2,c2,rfl,h3,h4,h5,n0,n1,n2⟩:=h
  match p,hp with
  | 0,_ => exact ⟨a,c,a1,c1,a2,c2,rfl,hq,h4,h5,hn,n1,n2⟩
  | 1,_ => exact ⟨a0,c0,a,c,a2,c2,rfl,h3,hq,h5,n0,hn,n2⟩
  | 2,_ => exact ⟨a0,c0,a1,c1,a,c,rfl,h3,h4,hq,n0,n1,hn⟩
def RetW (S : Nat → Prop) (x : Wy) (w : World) (e : Ending) (w' : World) : Prop:=∃ c,e = .returned (.agg c) ∧ WayS S w' c x ∧ Below w.heap.size w w'
theorem filter_mid {A B : List Int} {i : Int} (hA : i ∉ A) (hB : i ∉ B) : (A ++ i :: B).filter (· ≠ i) = A ++ B:=by
  rw [List.filter_append,List.filter_cons,if_neg (by simp)]
  congr 1
  · exact List.filter_eq_self.2 (fun x hx => by simpa using fun e : x = i => hA (e ▸ hx))
  · exact List.filter_eq_self.2 (fun x hx => by simpa using fun e : x = i => hB (e ▸ hx))
set_option maxHeartbeats 6400000 in
theorem without_ok (c : Array Value) (x : Wy) (n pn : Nat) (hq3 : x.qs.length = 3) (hn : n < x.l.length) (hpr : (bnL x.l n).pr = pn) (hpn : pn < 3) (A B : List Int) (hq : quA x pn = A ++ (n : Int) :: B) (hA : (n : Int) ∉ A) (hB : (n : Int) ∉ B)
    (hlq : A.length + 1 + B.length ≤ 100000) (hsz : n < x.sz.length) (hz : 1 ≤ at3 x.sz n ∧ at3 x.sz n ≤ x.us ∧ at3 x.sz n ≤ x.bu) (hus : x.us ≤ 18446744073709551615) (hbu : x.bu ≤ 9223372036854775807) (S : Nat → Prop) (w : World) (hS : ∀ b,S b → b < w.heap.size) (hW : WayS S w c x) :
    Calls Tryd.prog 40 #[.agg c,.int .i64 n] w fun e w' => RetW S (withoutS x n) w e w':=by
  obtain ⟨aw,cw,ad,cd,ap,cp,al,cl,ob,cq,az,cz,rfl,hcq3,hcqm,Rw,Rd,Rp,Rl,Rq,Rz,nw,nd,np,nl9,nz9⟩:=hW
  obtain ⟨cs,hQS,lob,hrg⟩:=qrowS_of Rq
  have hQ:=hQS.row
  obtain ⟨aq,cq0,hcp,Rpq⟩:=hQ.get hpn
  have eq3 : q3 (quA x 0) (quA x 1) (quA x 2) pn = quA x pn:=by
    match pn,hpn with
    | 0,_ => rfl
    | 1,_ => rfl
    | 2,_ => rfl
  rw [eq3,hq] at hcp Rpq
  have elen : (A ++ (n : Int) :: B).length = A.length + 1 + B.length:=by simp;omega
  rw [elen] at hcp
  have GQ:=Lib.hid (fun W (hB : Below w.heap.size w W) => cloneQ_any ob cq cs hQ.len hQ.one hcq3 W (Nat.lt_of_lt_of_le lob hB.size) (range_below lob hrg hB))
  have GC:=Lib.hid (fun W (hB : Below w.heap.size w W) => (show Calls Tryd.prog 60 #[.slice aq (A.length + 1 + B.length) cq0] W fun e w' => OwnI (A ++ (n : Int) :: B) W e w' from by
    have h9:=cloneI_any aq cq0 (A ++ (n : Int) :: B) (by omega) W (Rpq.below hB)
    rw [elen] at h9
    exact h9))
  obtain ⟨bl,ol,rfl,lbl,rl⟩:=Rl.2.2.2 (by omega)
  have cpr : w.cell? ⟨bl,ol + n * 9 + 4,none⟩ = some (.int .i64 pn):=by
    have h9:=rl n hn 4 (.int .i64 x.l[n].pr) rfl
    have e9 : x.l[n].pr = pn:=by rw [← bnL_nat x.l n hn];exact hpr
    rw [e9] at h9
    exact h9
  obtain ⟨bz,oz,rfl,lbz,_⟩:=Rz.2.2.2 (by omega)
  have cz0 : w.cell? ⟨bz,oz + n,none⟩ = some (.int .i64 (at3 x.sz n)):=by
    have h9:=(srow_cellE Rz hsz).2
    have e9 : at3 x.sz n = x.sz[n]:=by unfold at3;rw [Int.toNat_natCast,List.getD_eq_getElem?_getD,List.getElem?_eq_getElem hsz];rfl
    rw [e9];exact h9
  have hcs3:=hQ.len
  have hwo : ∀ p' : Int,0 ≤ p' → p' ≤ 2 → quA (withoutS x n) p' = if p' = pn then A ++ B else quA x p':=by
    intro p' h0 h2
    have h9:=quA_set (w:=x) hq3 (p:=pn) (p':=p') (by omega) (by omega) h0 h2 ((quA x pn).filter (· ≠ (n : Int)))
    rw [hq,filter_mid hA hB] at h9
    rw [← h9]
    unfold withoutS
    rw [hpr,hq,filter_mid hA hB]
    rfl
  have FIN : Hid (∀ (T : World) (g g2 c2 cp2 : Nat) (sp sp3 : List Value),Below w.heap.size w T → blk T g = some ((cs ++ sp).toArray.setIfInBounds pn (.slice (some ⟨g2,0,none⟩) (A.length + B.length) cp2)) → blk T g2 = some (rowC ic (A ++ B) ++ sp3).toArray → 3 ≤ c2 → c2 ≤ maxLen → A.length + 1 + B.length ≤ cp2 → cp2 ≤ maxLen → g ≠ g2 → w.heap.size ≤ g → w.heap.size ≤ g2 →
      RetW S (withoutS x n) w (.returned (.agg #[.slice aw 3 cw,.int .i64 x.dr.q,.slice ad 3 cd,.int .i64 x.dr.t,.slice ap 3 cp,.slice (some ⟨bl,ol,none⟩) x.l.length cl,.slice (some ⟨g,0,none⟩) 3 c2,.slice (some ⟨bz,oz,none⟩) x.sz.length cz,.int .u64 (x.us - at3 x.sz n),.int .i64 (x.bu - at3 x.sz n),.int .i64 x.by'])) T):=Lib.hid (by
    intro T g g2 c2 cp2 sp sp3 bT gT hT h3 h4 h5 h6 hne hgg hg2
    refine ⟨_,rfl,⟨aw,cw,ad,cd,ap,cp,some ⟨bl,ol,none⟩,cl,g,c2,some ⟨bz,oz,none⟩,cz,rfl,h3,h4,Rw.below bT,Rd.below bT,Rp.below bT,Rl.below bT,?_,Rz.below bT,nw,nd,np,nl9,nz9⟩,bT⟩
    have hSr : SRow ic 1 T (some ⟨g2,0,none⟩) cp2 (A ++ B):=⟨by rw [List.length_append];omega,h6,(fun h => by cases h),fun _ => ⟨g2,0,rfl,blk_lt hT,fun i hi => by rw [Nat.zero_add];exact range_row ic_len hT (List.getElem?_eq_getElem hi)⟩⟩
    have hq9:=(hQS.below bT).put hpn hSr ((upR_at hg2).neS hS _)
    rw [hwo 0 (by omega) (by omega),hwo 1 (by omega) (by omega),hwo 2 (by omega) (by omega)]
    have e0 : (if (0 : Int) = pn then A ++ B else quA x 0) = (if 0 = pn then A ++ B else quA x 0):=by split <;> rename_i h <;> split <;> first|rfl|omega
    have e1 : (if (1 : Int) = pn then A ++ B else quA x 1) = (if 1 = pn then A ++ B else quA x 1):=by split <;> rename_i h <;> split <;> first|rfl|omega
    have e2 : (if (2 : Int) = pn then A ++ B else quA x 2) = (if 2 = pn then A ++ B else quA x 2):=by split <;> rename_i h <;> split <;> first|rfl|omega
    rw [e0,e1,e2]
    refine hq9.qat (fun h => by have:=hS _ h;omega) (blk_lt gT) ?_
    rw [List.setIfInBounds_toArray,List.set_append_left _ _ (by rw [hcs3];exact hpn)] at gT
    refine range_of_blk gT 0 _ ?_
    simp)
  have hz1 : IntKind.u64.wrap (at3 x.sz n) = at3 x.sz n:=IntWalk.u64_in _ (by omega)
  have hz2 : IntKind.u64.wrap (x.us - at3 x.sz n) = x.us - at3 x.sz n:=IntWalk.u64_in _ (by omega)
  have hz3 : IntKind.i64.wrap (x.bu - at3 x.sz n) = x.bu - at3 x.sz n:=IntWalk.i64_in _ (by omega)
  have hln : (n : Int) < (x.l.length : Int):=by omega
  have hlz : (n : Int) < (x.sz.length : Int):=by omega
  have hpi : (pn : Int) < 3:=by omega
  have HA:=Lib.hid hA;have HB:=Lib.hid hB
  obtain ⟨l,el⟩ : ∃ l,l = x.l:=⟨_,rfl⟩
  rw [← el] at hn hln FIN ⊢
  obtain ⟨nl,hnl⟩ : ∃ n,n = l.length:=⟨_,rfl⟩
  rw [← hnl] at hn hln FIN ⊢
  obtain ⟨nz,hnz⟩ : ∃ n,n = x.sz.length:=⟨_,rfl⟩
  rw [← hnz] at hsz hlz FIN ⊢
  obtain ⟨z,ez⟩ : ∃ z,z = at3 x.sz n:=⟨_,rfl⟩
  rw [← ez] at hz1 hz2 hz3 cz0 FIN
  have hcl:=Rl.1;have hcm:=Rl.2.1
  rw [← el,← hnl] at hcl
  have hczl:=Rz.1
  rw [← hnz] at hczl
  unfold maxLen at hcm
  obtain ⟨us,eu⟩ : ∃ z,z = x.us:=⟨_,rfl⟩
  obtain ⟨bu,eb⟩ : ∃ z,z = x.bu:=⟨_,rfl⟩
  obtain ⟨by',ey⟩ : ∃ z,z = x.by':=⟨_,rfl⟩
  obtain ⟨q0,eq0⟩ : ∃ z,z = x.dr.q:=⟨_,rfl⟩
  obtain ⟨t0,et0⟩ : ∃ z,z = x.dr.t:=⟨_,rfl⟩
  rw [← eu] at hz2 FIN ⊢
  rw [← eb] at hz3 FIN ⊢
  rw [← ey] at FIN ⊢
  rw [← eq0] at FIN ⊢
  rw [← et0] at FIN ⊢
  obtain ⟨N,hN⟩ : ∃ N,N = A.length + 1 + B.length:=⟨_,rfl⟩
  have HN:=Lib.hid hN
  rw [← hN] at GC hcp FIN hlq
  clear hN
  clear hQS nw nd np nl9 nz9 hQ hrg Rpq eq3 elen Rl rl Rz Rw Rd Rp Rq hwo hq3 hpr hq hlq hz hus hbu hA hB el hnl hnz ez eu eb ey eq0 et0
  obtain ⟨l1,hl1⟩ : ∃ k,k = l.length:=⟨_,rfl⟩
  clear hl1 l1
  go_enter Tryd.func40,Tryd.ntmps40
  go_upto_region 2 with (go_at_call 63;go_loud ((with_reducible refine (GQ.out _ (by (repeat(first|(with_reducible first|assumption|exact Below.refl _ _|refine je ?_|refine jl ?_)|((with_reducible refine jp ?_ ?_);first|focus(dsimp only;assumption)|focus(simp;done)|focus(dsimp only;omega))|(with_reducible refine bt ?_ (by assumption)))))).mono ?_);rintro e u ⟨g,c2,sp,rfl,hc3,hcm,hg,kg,hB⟩;(have bu1 : Below w.heap.size w u:=by (repeat(first|(with_reducible first|assumption|exact Below.refl _ _|refine je ?_|refine jl ?_)|((with_reducible refine jp ?_ ?_);first|focus(dsimp only;assumption)|focus(simp;done)|focus(dsimp only;omega))|(with_reducible refine bt ?_ (by assumption)))));(have k1 : blk u w.heap.size = some #[.slice aw 3 cw,.int .i64 q0,.slice ad 3 cd,.int .i64 t0,.slice ap 3 cp,.slice (some ⟨bl,ol,none⟩) nl cl,.slice (some ⟨ob,0,none⟩) 3 cq,.slice (some ⟨bz,oz,none⟩) nz cz,.int .u64 us,.int .i64 bu,.int .i64 by']:=blk_below hB (blk_alloc (blk_alloc (blk_alloc_new _ _ _ rfl) _) _));(have i1 : blk u (w.heap.size + 1) = some #[.int .i64 n]:=blk_below hB (blk_alloc (blk_alloc_new _ _ _ (by simp)) _));(have r1 : blk u (w.heap.size + 2) = some #[.slice none 0 0,.int .i64 0,.slice none 0 0,.int .i64 0,.slice none 0 0,.slice none 0 0,.slice none 0 0,.slice none 0 0,.int .u64 0,.int .i64 0,.int .i64 0]:=blk_below hB (blk_alloc_new _ _ _ (by simp)));(have n1:=kn k1);(have lg : w.heap.size + 2 < g:=by simp at hg;omega);clear hg hB))
  obtain ⟨V,eV⟩ : ∃ v,v = u.setCell ⟨w.heap.size,6,none⟩ (.slice (some ⟨g,0,none⟩) 3 c2):=⟨_,rfl⟩
  have kV : blk V w.heap.size = some #[.slice aw 3 cw,.int .i64 q0,.slice ad 3 cd,.int .i64 t0,.slice ap 3 cp,.slice (some ⟨bl,ol,none⟩) nl cl,.slice (some ⟨g,0,none⟩) 3 c2,.slice (some ⟨bz,oz,none⟩) nz cz,.int .u64 us,.int .i64 bu,.int .i64 by']:=(by rw [eV];exact blk_set k1)
  have iV : blk V (w.heap.size + 1) = some #[.int .i64 n]:=(by rw [eV];exact blk_other i1 (show w.heap.size + 1 ≠ w.heap.size by omega))
  have rV : blk V (w.heap.size + 2) = some #[.slice none 0 0,.int .i64 0,.slice none 0 0,.int .i64 0,.slice none 0 0,.slice none 0 0,.slice none 0 0,.slice none 0 0,.int .u64 0,.int .i64 0,.int .i64 0]:=(by rw [eV];exact blk_other r1 (show w.heap.size + 2 ≠ w.heap.size by omega))
  have gV : blk V g = some (cs ++ sp).toArray:=(by rw [eV];exact blk_other kg (show g ≠ w.heap.size by omega))
  have bV : Below w.heap.size w V:=(by rw [eV];exact bu1.setCell (Nat.le_refl _) _)
  rw [← eV]
  clear eV k1 i1 r1 kg n1 bu1 u
  have nV:=kn kV;have mV:=kn iV
  have pV : V.cell? ⟨bl,ol + n * 9 + 4,none⟩ = some (.int .i64 pn):=(bV.cell (p:=⟨bl,ol + n * 9 + 4,none⟩) lbl).trans cpr
  go_upto_region 3 with fail
  clear nV mV pV
  refine wp_region_held_drew (S:=fun W => ∀ o,W.cell? ⟨w.heap.size,o,none⟩ = (#[.slice aw 3 cw,.int .i64 q0,.slice ad 3 cd,.int .i64 t0,.slice ap 3 cp,.slice (some ⟨bl,ol,none⟩) nl cl,.slice (some ⟨g,0,none⟩) 3 c2,.slice (some ⟨bz,oz,none⟩) nz cz,.int .u64 us,.int .i64 bu,.int .i64 by'] : Array Value)[o]?) (by kernel_rfl) (fun o => blk_cell (blk_drew kV) o) (fun hHeld => ?_)
  obtain ⟨d0,ed⟩ : ∃ v,v = V.drew:=⟨_,rfl⟩
  have kd0 : blk d0 w.heap.size = some #[.slice aw 3 cw,.int .i64 q0,.slice ad 3 cd,.int .i64 t0,.slice ap 3 cp,.slice (some ⟨bl,ol,none⟩) nl cl,.slice (some ⟨g,0,none⟩) 3 c2,.slice (some ⟨bz,oz,none⟩) nz cz,.int .u64 us,.int .i64 bu,.int .i64 by']:=(by rw [ed];exact blk_drew kV)
  have id0 : blk d0 (w.heap.size + 1) = some #[.int .i64 n]:=(by rw [ed];exact blk_drew iV)
  have rd0 : blk d0 (w.heap.size + 2) = some #[.slice none 0 0,.int .i64 0,.slice none 0 0,.int .i64 0,.slice none 0 0,.slice none 0 0,.slice none 0 0,.slice none 0 0,.int .u64 0,.int .i64 0,.int .i64 0]:=(by rw [ed];exact blk_drew rV)
  have gd0 : blk d0 g = some (cs ++ sp).toArray:=(by rw [ed];exact blk_drew gV)
  have bd0 : Below w.heap.size w d0:=(by rw [ed];exact bV.drew)
  rw [← ed] at hHeld ⊢
  clear ed kV iV rV gV bV
  refine jK (v:=?_) 0 ?_ ?_
  rotate_left;focus(intro W h;(try dsimp only at h);go_simp;(try with_reducible rfl));(try simp only[Act.put,jA,jB,jC,jD,jE,jF])
  refine jK (v:=?_) 1 ?_ ?_
  rotate_left;focus(intro W h;(try dsimp only at h);go_simp;(try with_reducible rfl));(try simp only[Act.put,jA,jB,jC,jD,jE,jF])
  refine jK (v:=?_) 2 ?_ ?_
  rotate_left;focus(intro W h;(try dsimp only at h);go_simp;(try with_reducible rfl));(try simp only[Act.put,jA,jB,jC,jD,jE,jF])
  refine jK (v:=?_) 3 ?_ ?_
  rotate_left;focus(intro W h;(try dsimp only at h);go_simp;(try with_reducible rfl));(try simp only[Act.put,jA,jB,jC,jD,jE,jF])
  refine jK (v:=?_) 4 ?_ ?_
  rotate_left;focus(intro W h;(try dsimp only at h);go_simp;(try with_reducible rfl));(try simp only[Act.put,jA,jB,jC,jD,jE,jF])
  refine jK (v:=?_) 5 ?_ ?_
  rotate_left;focus(intro W h;(try dsimp only at h);go_simp;(try with_reducible rfl));(try simp only[Act.put,jA,jB,jC,jD,jE,jF])
  refine jK (v:=?_) 6 ?_ ?_
  rotate_left;focus(intro W h;(try dsimp only at h);go_simp;(try with_reducible rfl));(try simp only[Act.put,jA,jB,jC,jD,jE,jF])
  refine jK (v:=?_) 9 ?_ ?_
  rotate_left;focus(intro W h;(try dsimp only at h);go_simp;(try with_reducible rfl));(try simp only[Act.put,jA,jB,jC,jD,jE,jF])
  refine jR 7 (fun K hK => ?_)
  have fq0 : d0.cell? ⟨g,pn,none⟩ = some (.slice aq N cq0):=by
    rw [blk_cell gd0,List.getElem?_toArray,List.getElem?_append_left (by rw [hcs3];exact hpn)]
    exact hcp
  go_simp
  refine hK.out _ _ (fun o => blk_cell kd0 o) (fun _ => ?_)
  clear hK K
  (try simp only[Act.put,jA,jB,jC,jD,jE,jF])
  refine jR 8 (fun K hK => ?_)
  go_simp
  go_at_call 60
  (with_reducible refine (GC.out _ bd0).mono ?_)
  rintro e u1 ⟨vv,rfl,ho,hB⟩
  have ho2 : u1.ownsRow d0.heap.size 3 1 vv (A ++ (n : Int) :: B).length (rowC ic (A ++ (n : Int) :: B)):=ho
  obtain ⟨a2,cp2,rfl,R2,⟨_,h0⟩|⟨g2,cur,rfl,lg2,kg2,hcz,hct⟩⟩:=srow_of_owns ic_len ho2
  · exact absurd h0 (by simp)
  have e2 : (A ++ (n : Int) :: B).length = N:=by have:=HN.out;simp;omega
  have e3 : A.length + 1 + B.length = N:=HN.out.symm
  rw [e2]
  (try go_wp2_with fail)
  have ku1:=blk_below hB kd0
  have iu1:=blk_below hB id0
  have ru1:=blk_below hB rd0
  have gu1:=blk_below hB gd0
  have bu1:=bt bd0 hB
  have hc2 : N ≤ cp2:=by rw [← e2];exact R2.1
  have hm2:=R2.2.1
  obtain ⟨sp2,hs2⟩ : ∃ sp,sp = cur.toList.drop ((A ++ (n : Int) :: B).length * 1):=⟨_,rfl⟩
  have hu1 : blk u1 g2 = some (rowC ic (A ++ (n : Int) :: B) ++ sp2).toArray:=by rw [hs2,← hct,List.take_append_drop];exact kg2
  have lg3 : g < g2:=Nat.lt_of_lt_of_le (blk_lt gd0) lg2
  have gd:=deleteF_any g2 cp2 A B n sp2 (w.heap.size + 1) HA.out HB.out (by rw [e3];exact hc2) hm2 (by omega) u1 hu1 iu1
  rw [e3] at gd
  have GD:=Lib.hid gd
  clear gd e3
  clear ho ho2 R2 hct hcz kg2 hs2 hB lg2 e2
  refine hK.out _ _ (fun o => blk_cell ku1 o) (fun _ => ?_)
  clear hK K
  (try simp only[Act.put,jA,jB,jC,jD,jE,jF])
  refine jR 10 (fun K hK => ?_)
  go_simp
  go_at_call 64
  (with_reducible refine (GD.out).mono ?_)
  rintro e u2 ⟨rfl,⟨sp3,hu2⟩,hBg,hS⟩
  (try go_wp2_with fail)
  have hB : Below w.heap.size w u2:=bu1.trans (hBg.mono (by omega))
  have bu2:=hB
  have ku2:=blk_same ku1 (by omega) hS
  have iu2:=blk_same iu1 (by omega) hS
  have ru2:=blk_same ru1 (by omega) hS
  have gu2:=blk_same gu1 (by omega) hS
  clear GD hBg hS hu1 hB
  refine hK.out _ _ (fun o => blk_cell ku2 o) (fun _ => ?_)
  clear hK K
  (try simp only[Act.put,jA,jB,jC,jD,jE,jF])
  refine jK (v:=?_) 11 ?_ ?_
  rotate_left;focus(intro W h;(try dsimp only at h);go_simp;(try with_reducible rfl));(try simp only[Act.put,jA,jB,jC,jD,jE,jF])
  refine jR 12 (fun K hK => ?_)
  have ng2 : u2.cell? ⟨g,pn,none⟩ = some (.slice aq N cq0):=by
    rw [blk_cell gu2,List.getElem?_toArray,List.getElem?_append_left (by rw [hcs3];exact hpn)]
    exact hcp
  have fg2:=blk_frozen gu2 pn
  go_simp
  obtain ⟨X,eX⟩ : ∃ v,v = u2.setCell ⟨g,pn,none⟩ (.slice (some ⟨g2,0,none⟩) (A.length + B.length) cp2):=⟨_,rfl⟩
  have gX : blk X g = some ((cs ++ sp).toArray.setIfInBounds pn (.slice (some ⟨g2,0,none⟩) (A.length + B.length) cp2)):=(by rw [eX];exact blk_set gu2)
  have kX : blk X (w.heap.size) = some #[.slice aw 3 cw,.int .i64 q0,.slice ad 3 cd,.int .i64 t0,.slice ap 3 cp,.slice (some ⟨bl,ol,none⟩) nl cl,.slice (some ⟨g,0,none⟩) 3 c2,.slice (some ⟨bz,oz,none⟩) nz cz,.int .u64 us,.int .i64 bu,.int .i64 by']:=(by rw [eX];exact blk_other ku2 (show (w.heap.size) ≠ g by omega))
  have iX : blk X (w.heap.size + 1) = some #[.int .i64 n]:=(by rw [eX];exact blk_other iu2 (show (w.heap.size + 1) ≠ g by omega))
  have rX : blk X (w.heap.size + 2) = some #[.slice none 0 0,.int .i64 0,.slice none 0 0,.int .i64 0,.slice none 0 0,.slice none 0 0,.slice none 0 0,.slice none 0 0,.int .u64 0,.int .i64 0,.int .i64 0]:=(by rw [eX];exact blk_other ru2 (show (w.heap.size + 2) ≠ g by omega))
  have hX : blk X g2 = some (rowC ic (A ++ B) ++ sp3).toArray:=(by rw [eX];exact blk_other hu2 (show g2 ≠ g by omega))
  have bX : Below w.heap.size w X:=(by rw [eX];exact bu2.setCell (show w.heap.size ≤ g by omega) _)
  rw [← eX]
  clear eX ng2 fg2 gu2 ku2 iu2 ru2 hu2 bu2 fq0
  refine hK.out _ _ (fun o => blk_cell kX o) (fun _ => ?_)
  clear hK K
  (try simp only[Act.put,jA,jB,jC,jD,jE,jF])
  refine wpAnyH_done (by kernel_rfl) ?_ _
  clear hHeld GC GQ
  try clear n1
  skip
  go_upto_region 4 with fail
  refine wp_region_held_drew (S:=fun V => (V.cell? ⟨w.heap.size,7,none⟩ = some (.slice (some ⟨bz,oz,none⟩) nz cz) ∧ V.cell? ⟨w.heap.size + 1,0,none⟩ = some (.int .i64 n)) ∧ V.cell? ⟨bz,oz + n,none⟩ = some (.int .i64 z)) (by kernel_rfl) ⟨⟨blk_cell (blk_drew kX) 7,blk_cell (blk_drew iX) 0⟩,(bX.drew.cell (p:=⟨bz,oz + n,none⟩) lbz).trans cz0⟩ (fun hHeld => ?_)
  obtain ⟨e4,qe4⟩ : ∃ v,v = X.drew:=⟨_,rfl⟩
  have ke4 : blk e4 (w.heap.size) = some #[.slice aw 3 cw,.int .i64 q0,.slice ad 3 cd,.int .i64 t0,.slice ap 3 cp,.slice (some ⟨bl,ol,none⟩) nl cl,.slice (some ⟨g,0,none⟩) 3 c2,.slice (some ⟨bz,oz,none⟩) nz cz,.int .u64 us,.int .i64 bu,.int .i64 by']:=(by rw [qe4];exact blk_drew kX)
  have ie4 : blk e4 (w.heap.size + 1) = some #[.int .i64 n]:=(by rw [qe4];exact blk_drew iX)
  have re4 : blk e4 (w.heap.size + 2) = some #[.slice none 0 0,.int .i64 0,.slice none 0 0,.int .i64 0,.slice none 0 0,.slice none 0 0,.slice none 0 0,.slice none 0 0,.int .u64 0,.int .i64 0,.int .i64 0]:=(by rw [qe4];exact blk_drew rX)
  have ge4 : blk e4 (g) = some ((cs ++ sp).toArray.setIfInBounds pn (.slice (some ⟨g2,0,none⟩) (A.length + B.length) cp2)):=(by rw [qe4];exact blk_drew gX)
  have he4 : blk e4 (g2) = some (rowC ic (A ++ B) ++ sp3).toArray:=(by rw [qe4];exact blk_drew hX)
  have be4 : Below w.heap.size w e4:=(by rw [qe4];exact bX.drew)
  rw [← qe4] at hHeld ⊢
  clear qe4 kX iX rX gX hX bX
  refine jK (v:=?_) 0 ?_ ?_
  rotate_left;focus(intro W h;(try dsimp only at h);go_simp;(try with_reducible rfl));(try simp only[Act.put,jA,jB,jC,jD,jE,jF])
  refine jK (v:=?_) 2 ?_ ?_
  rotate_left;focus(intro W h;(try dsimp only at h);go_simp;(try with_reducible rfl));(try simp only[Act.put,jA,jB,jC,jD,jE,jF])
  refine jK (v:=?_) 3 ?_ ?_
  rotate_left;focus(intro W h;(try dsimp only at h);go_simp;(try with_reducible rfl));(try simp only[Act.put,jA,jB,jC,jD,jE,jF])
  refine jK (v:=?_) 4 ?_ ?_
  rotate_left;focus(intro W h;(try dsimp only at h);go_simp;(try with_reducible rfl));(try simp only[Act.put,jA,jB,jC,jD,jE,jF])
  refine jK (v:=?_) 5 ?_ ?_
  rotate_left;focus(intro W h;(try dsimp only at h);go_simp;(try with_reducible rfl));(try simp only[Act.put,jA,jB,jC,jD,jE,jF])
  refine jK (v:=?_) 6 ?_ ?_
  rotate_left;focus(intro W h;(try dsimp only at h);go_simp;(try with_reducible rfl));(try simp only[Act.put,jA,jB,jC,jD,jE,jF])
  refine jK (v:=?_) 7 ?_ ?_
  rotate_left;focus(intro W h;(try dsimp only at h);go_simp;(try with_reducible rfl));(try simp only[Act.put,jA,jB,jC,jD,jE,jF])
  refine jR 1 (fun K hK => ?_)
  have c8 : e4.cell? ⟨w.heap.size,8,none⟩ = some (.int .u64 us):=blk_cell ke4 8
  go_simp
  refine hK.out _ _ ⟨⟨blk_cell ke4 7,blk_cell ie4 0⟩,(be4.cell (p:=⟨bz,oz + n,none⟩) lbz).trans cz0⟩ (fun _ => ?_)
  clear hK K
  (try simp only[Act.put,jA,jB,jC,jD,jE,jF])
  refine jK (v:=?_) 8 ?_ ?_
  rotate_left;focus(intro W h;(try dsimp only at h);go_simp;(try with_reducible rfl));(try simp only[Act.put,jA,jB,jC,jD,jE,jF])
  refine jK (v:=?_) 9 ?_ ?_
  rotate_left;focus(intro W h;(try dsimp only at h);go_simp;(try with_reducible rfl));(try simp only[Act.put,jA,jB,jC,jD,jE,jF])
  refine jR 10 (fun K hK => ?_)
  have n8:=kn ke4
  go_simp
  obtain ⟨Y,eY⟩ : ∃ v,v = e4.setCell ⟨w.heap.size,8,none⟩ (.int .u64 (us - z)):=⟨_,rfl⟩
  have kY : blk Y w.heap.size = some #[.slice aw 3 cw,.int .i64 q0,.slice ad 3 cd,.int .i64 t0,.slice ap 3 cp,.slice (some ⟨bl,ol,none⟩) nl cl,.slice (some ⟨g,0,none⟩) 3 c2,.slice (some ⟨bz,oz,none⟩) nz cz,.int .u64 (us - z),.int .i64 bu,.int .i64 by']:=(by rw [eY];exact blk_set ke4)
  have iY : blk Y (w.heap.size + 1) = some #[.int .i64 n]:=(by rw [eY];exact blk_other ie4 (show (w.heap.size + 1) ≠ w.heap.size by omega))
  have rY : blk Y (w.heap.size + 2) = some #[.slice none 0 0,.int .i64 0,.slice none 0 0,.int .i64 0,.slice none 0 0,.slice none 0 0,.slice none 0 0,.slice none 0 0,.int .u64 0,.int .i64 0,.int .i64 0]:=(by rw [eY];exact blk_other re4 (show (w.heap.size + 2) ≠ w.heap.size by omega))
  have gY : blk Y (g) = some ((cs ++ sp).toArray.setIfInBounds pn (.slice (some ⟨g2,0,none⟩) (A.length + B.length) cp2)):=(by rw [eY];exact blk_other ge4 (show (g) ≠ w.heap.size by omega))
  have hY : blk Y (g2) = some (rowC ic (A ++ B) ++ sp3).toArray:=(by rw [eY];exact blk_other he4 (show (g2) ≠ w.heap.size by omega))
  have bY : Below w.heap.size w Y:=(by rw [eY];exact be4.setCell (Nat.le_refl _) _)
  rw [← eY]
  clear eY n8 c8 ke4 ie4 re4 ge4 he4 be4
  refine hK.out _ _ ⟨⟨blk_cell kY 7,blk_cell iY 0⟩,(bY.cell (p:=⟨bz,oz + n,none⟩) lbz).trans cz0⟩ (fun _ => ?_)
  clear hK K
  (try simp only[Act.put,jA,jB,jC,jD,jE,jF])
  refine wpAnyH_done (by kernel_rfl) ?_ _
  skip
  go_upto_region 5 with fail
  refine wp_region_held_drew (S:=fun V => (V.cell? ⟨w.heap.size,7,none⟩ = some (.slice (some ⟨bz,oz,none⟩) nz cz) ∧ V.cell? ⟨w.heap.size + 1,0,none⟩ = some (.int .i64 n)) ∧ V.cell? ⟨bz,oz + n,none⟩ = some (.int .i64 z)) (by kernel_rfl) ⟨⟨blk_cell (blk_drew kY) 7,blk_cell (blk_drew iY) 0⟩,(bY.drew.cell (p:=⟨bz,oz + n,none⟩) lbz).trans cz0⟩ (fun hHeld => ?_)
  obtain ⟨e5,qe5⟩ : ∃ v,v = Y.drew:=⟨_,rfl⟩
  have ke5 : blk e5 (w.heap.size) = some #[.slice aw 3 cw,.int .i64 q0,.slice ad 3 cd,.int .i64 t0,.slice ap 3 cp,.slice (some ⟨bl,ol,none⟩) nl cl,.slice (some ⟨g,0,none⟩) 3 c2,.slice (some ⟨bz,oz,none⟩) nz cz,.int .u64 (us - z),.int .i64 bu,.int .i64 by']:=(by rw [qe5];exact blk_drew kY)
  have ie5 : blk e5 (w.heap.size + 1) = some #[.int .i64 n]:=(by rw [qe5];exact blk_drew iY)
  have re5 : blk e5 (w.heap.size + 2) = some #[.slice none 0 0,.int .i64 0,.slice none 0 0,.int .i64 0,.slice none 0 0,.slice none 0 0,.slice none 0 0,.slice none 0 0,.int .u64 0,.int .i64 0,.int .i64 0]:=(by rw [qe5];exact blk_drew rY)
  have ge5 : blk e5 (g) = some ((cs ++ sp).toArray.setIfInBounds pn (.slice (some ⟨g2,0,none⟩) (A.length + B.length) cp2)):=(by rw [qe5];exact blk_drew gY)
  have he5 : blk e5 (g2) = some (rowC ic (A ++ B) ++ sp3).toArray:=(by rw [qe5];exact blk_drew hY)
  have be5 : Below w.heap.size w e5:=(by rw [qe5];exact bY.drew)
  rw [← qe5] at hHeld ⊢
  clear qe5 kY iY rY gY hY bY
  refine jK (v:=?_) 0 ?_ ?_
  rotate_left;focus(intro W h;(try dsimp only at h);go_simp;(try with_reducible rfl));(try simp only[Act.put,jA,jB,jC,jD,jE,jF])
  refine jK (v:=?_) 2 ?_ ?_
  rotate_left;focus(intro W h;(try dsimp only at h);go_simp;(try with_reducible rfl));(try simp only[Act.put,jA,jB,jC,jD,jE,jF])
  refine jK (v:=?_) 3 ?_ ?_
  rotate_left;focus(intro W h;(try dsimp only at h);go_simp;(try with_reducible rfl));(try simp only[Act.put,jA,jB,jC,jD,jE,jF])
  refine jK (v:=?_) 4 ?_ ?_
  rotate_left;focus(intro W h;(try dsimp only at h);go_simp;(try with_reducible rfl));(try simp only[Act.put,jA,jB,jC,jD,jE,jF])
  refine jK (v:=?_) 5 ?_ ?_
  rotate_left;focus(intro W h;(try dsimp only at h);go_simp;(try with_reducible rfl));(try simp only[Act.put,jA,jB,jC,jD,jE,jF])
  refine jK (v:=?_) 6 ?_ ?_
  rotate_left;focus(intro W h;(try dsimp only at h);go_simp;(try with_reducible rfl));(try simp only[Act.put,jA,jB,jC,jD,jE,jF])
  refine jR 1 (fun K hK => ?_)
  have c8 : e5.cell? ⟨w.heap.size,9,none⟩ = some (.int .i64 bu):=blk_cell ke5 9
  go_simp
  refine hK.out _ _ ⟨⟨blk_cell ke5 7,blk_cell ie5 0⟩,(be5.cell (p:=⟨bz,oz + n,none⟩) lbz).trans cz0⟩ (fun _ => ?_)
  clear hK K
  (try simp only[Act.put,jA,jB,jC,jD,jE,jF])
  refine jK (v:=?_) 7 ?_ ?_
  rotate_left;focus(intro W h;(try dsimp only at h);go_simp;(try with_reducible rfl));(try simp only[Act.put,jA,jB,jC,jD,jE,jF])
  refine jK (v:=?_) 8 ?_ ?_
  rotate_left;focus(intro W h;(try dsimp only at h);go_simp;(try with_reducible rfl));(try simp only[Act.put,jA,jB,jC,jD,jE,jF])
  refine jR 9 (fun K hK => ?_)
  have n8:=kn ke5
  go_simp
  obtain ⟨Z,eZ⟩ : ∃ v,v = e5.setCell ⟨w.heap.size,9,none⟩ (.int .i64 (bu - z)):=⟨_,rfl⟩
  have kZ : blk Z w.heap.size = some #[.slice aw 3 cw,.int .i64 q0,.slice ad 3 cd,.int .i64 t0,.slice ap 3 cp,.slice (some ⟨bl,ol,none⟩) nl cl,.slice (some ⟨g,0,none⟩) 3 c2,.slice (some ⟨bz,oz,none⟩) nz cz,.int .u64 (us - z),.int .i64 (bu - z),.int .i64 by']:=(by rw [eZ];exact blk_set ke5)
  have iZ : blk Z (w.heap.size + 1) = some #[.int .i64 n]:=(by rw [eZ];exact blk_other ie5 (show (w.heap.size + 1) ≠ w.heap.size by omega))
  have rZ : blk Z (w.heap.size + 2) = some #[.slice none 0 0,.int .i64 0,.slice none 0 0,.int .i64 0,.slice none 0 0,.slice none 0 0,.slice none 0 0,.slice none 0 0,.int .u64 0,.int .i64 0,.int .i64 0]:=(by rw [eZ];exact blk_other re5 (show (w.heap.size + 2) ≠ w.heap.size by omega))
  have gZ : blk Z (g) = some ((cs ++ sp).toArray.setIfInBounds pn (.slice (some ⟨g2,0,none⟩) (A.length + B.length) cp2)):=(by rw [eZ];exact blk_other ge5 (show (g) ≠ w.heap.size by omega))
  have hZ : blk Z (g2) = some (rowC ic (A ++ B) ++ sp3).toArray:=(by rw [eZ];exact blk_other he5 (show (g2) ≠ w.heap.size by omega))
  have bZ : Below w.heap.size w Z:=(by rw [eZ];exact be5.setCell (Nat.le_refl _) _)
  rw [← eZ]
  clear eZ n8 c8 ke5 ie5 re5 ge5 he5 be5
  refine hK.out _ _ ⟨⟨blk_cell kZ 7,blk_cell iZ 0⟩,(bZ.cell (p:=⟨bz,oz + n,none⟩) lbz).trans cz0⟩ (fun _ => ?_)
  clear hK K
  (try simp only[Act.put,jA,jB,jC,jD,jE,jF])
  refine wpAnyH_done (by kernel_rfl) ?_ _
  go_upto_region 6 with fail
  refine wp_region_tail0 0 ?_
  intro W0 hE hN
  have k0 : blk W0 (w.heap.size) = some #[.slice aw 3 cw,.int .i64 q0,.slice ad 3 cd,.int .i64 t0,.slice ap 3 cp,.slice (some ⟨bl,ol,none⟩) nl cl,.slice (some ⟨g,0,none⟩) 3 c2,.slice (some ⟨bz,oz,none⟩) nz cz,.int .u64 (us - z),.int .i64 (bu - z),.int .i64 by']:=(by rw [hE.out];exact kZ)
  have r0 : blk W0 (w.heap.size + 2) = some #[.slice none 0 0,.int .i64 0,.slice none 0 0,.int .i64 0,.slice none 0 0,.slice none 0 0,.slice none 0 0,.slice none 0 0,.int .u64 0,.int .i64 0,.int .i64 0]:=(by rw [hE.out];exact rZ)
  have g0 : blk W0 (g) = some ((cs ++ sp).toArray.setIfInBounds pn (.slice (some ⟨g2,0,none⟩) (A.length + B.length) cp2)):=(by rw [hE.out];exact gZ)
  have h0 : blk W0 (g2) = some (rowC ic (A ++ B) ++ sp3).toArray:=(by rw [hE.out];exact hZ)
  have b0 : Below w.heap.size w W0:=(by rw [hE.out];exact bZ)
  clear hE kZ iZ rZ gZ hZ bZ
  simp only [List.take_succ_cons,List.take_zero,List.drop_succ_cons,List.drop_zero]
  refine wpQuiet_nil ?_
  rintro _ ⟨x',rfl⟩
  have k1:=blk_below x'.ok k0
  have r1:=blk_below x'.ok r0
  have g1:=blk_below x'.ok g0
  have h1:=blk_below x'.ok h0
  have b1:=bt b0 x'.ok
  obtain ⟨u,hu⟩ : ∃ u,u = x'.wd:=⟨_,rfl⟩
  rw [← hu] at k1 r1 g1 h1 b1 ⊢
  clear hu x' hN k0 r0 g0 h0 b0
  refine wpList_load_mid rfl 70 (.tmp 2) rfl w.heap.size 0 rfl [.slice aw 3 cw,.int .i64 q0,.slice ad 3 cd,.int .i64 t0,.slice ap 3 cp,.slice (some ⟨bl,ol,none⟩) nl cl,.slice (some ⟨g,0,none⟩) 3 c2,.slice (some ⟨bz,oz,none⟩) nz cz,.int .u64 (us - z),.int .i64 (bu - z),.int .i64 by'] _ (range_of_blk k1 0 _ rfl) Tryd.underlying70 rfl (by kernel_rfl) ?_
  conv => arg 5;simp [Act.put]
  refine wpList_store_midW 70 (.tmp 4) (.tmp 47) (w.heap.size + 2) 0 #[.slice none 0 0,.int .i64 0,.slice none 0 0,.int .i64 0,.slice none 0 0,.slice none 0 0,.slice none 0 0,.slice none 0 0,.int .u64 0,.int .i64 0,.int .i64 0] #[.slice aw 3 cw,.int .i64 q0,.slice ad 3 cd,.int .i64 t0,.slice ap 3 cp,.slice (some ⟨bl,ol,none⟩) nl cl,.slice (some ⟨g,0,none⟩) 3 c2,.slice (some ⟨bz,oz,none⟩) nz cz,.int .u64 (us - z),.int .i64 (bu - z),.int .i64 by'] #[.slice aw 3 cw,.int .i64 q0,.slice ad 3 cd,.int .i64 t0,.slice ap 3 cp,.slice (some ⟨bl,ol,none⟩) nl cl,.slice (some ⟨g,0,none⟩) 3 c2,.slice (some ⟨bz,oz,none⟩) nz cz,.int .u64 (us - z),.int .i64 (bu - z),.int .i64 by'] r1 rfl rfl rfl rfl (by simp) (by kernel_rfl) (by kernel_rfl) (by kernel_rfl) ?_
  intro T kT sT BT zT
  conv => arg 5;simp [Act.put]
  have bT:=BT _ _ (Nat.le_add_right _ _) b1
  have gT:=blk_same g1 (show g ≠ w.heap.size + 2 by omega) sT
  have hT:=blk_same h1 (show g2 ≠ w.heap.size + 2 by omega) sT
  clear sT BT zT k1 r1 g1 h1 b1
  go_wp2
  refine ret_blk (b:=w.heap.size + 2) (c:=#[.slice aw 3 cw,.int .i64 q0,.slice ad 3 cd,.int .i64 t0,.slice ap 3 cp,.slice (some ⟨bl,ol,none⟩) nl cl,.slice (some ⟨g,0,none⟩) 3 c2,.slice (some ⟨bz,oz,none⟩) nz cz,.int .u64 (us - z),.int .i64 (bu - z),.int .i64 by']) (v:=.agg #[.slice aw 3 cw,.int .i64 q0,.slice ad 3 cd,.int .i64 t0,.slice ap 3 cp,.slice (some ⟨bl,ol,none⟩) nl cl,.slice (some ⟨g,0,none⟩) 3 c2,.slice (some ⟨bz,oz,none⟩) nz cz,.int .u64 (us - z),.int .i64 (bu - z),.int .i64 by']) kT (fun W' hc => by simp [results,Tryd.results40,go_sem,hc]) rfl ?_
  exact FIN.out T g g2 c2 cp2 sp sp3 bT gT hT hc3 hcm hc2 hm2 (by omega) (by omega) (by omega)
end Go.Proofs.YtkaehoihpgelnaaDoor
