/- Parts of a proof, printed by a program of mine out of my texts: Bytes, Range, NumMath, NumRef, NumPut, NumPut2, NumRefGet, NumGet, NumInt, NumText, Slice, KitMod. -/
import Derived.Lib.FrozenHead
import Derived.Lib.AppendStr
import Derived.RangeFuncNested
import Derived.RangeFuncBound
import Derived.RangeFuncCalls
import Derived.RangeFuncLeaves
import Derived.RangeFuncBox
import Derived.Shelf.Abstract
import Derived.OwnWalkIn
import Derived.TacticsInMore
import Derived.LoopNIn
import Derived.LoopIn
import Derived.WalkKit
import Derived.Lib.Strings
import Derived.Test.YtkaehoihpgelnaaDoorCA
set_option linter.unusedSimpArgs false
set_option linter.unusedVariables false
set_option maxRecDepth 100000
namespace Go.Proofs.YtkaehoihpgelnaaDoor
open Go.RowKit
def Free (cur : Array Value) (fz : Nat × Nat) : Prop:=∀ i,i < cur.size → ¬ (fz.1 ≤ i ∧ i < fz.2)
def OwnsB (w : World) (base : Nat) (e : TypeId) (v : Value) (g : Nat) (l : List UInt8) : Prop :=
  ∃ cap cur fz,v = .slice (some ⟨g,0,none⟩) l.length cap ∧ base ≤ g ∧ w.heap[g]? = some (.cells cur e fz) ∧ Free cur fz ∧ l.length ≤ cap ∧ cap ≤ maxLen ∧ cur.size = cap ∧
    cur.toList.take l.length = l.map fun b => Value.int .u8 b.toNat
theorem OwnsB.lt {w : World} {base : Nat} {e : TypeId} {v : Value} {g : Nat} {l : List UInt8} (h : OwnsB w base e v g l) : g < w.heap.size:=by
  obtain ⟨cap,cur,fz,_,_,hg,_⟩:=h
  exact (Array.getElem?_eq_some_iff.1 hg).1
theorem OwnsB.kept {w w' : World} {base : Nat} {e : TypeId} {v : Value} {g : Nat} {l : List UInt8} (h : OwnsB w base e v g l) (hk : w'.heap[g]? = w.heap[g]?) : OwnsB w' base e v g l:=by
  obtain ⟨cap,cur,fz,h1,h2,hg,h3⟩:=h
  exact ⟨cap,cur,fz,h1,h2,hk.trans hg,h3⟩
theorem OwnsB.below {w w' : World} {base : Nat} {e : TypeId} {v : Value} {g : Nat} {l : List UInt8} (h : OwnsB w base e v g l) (hb : Below w.heap.size w w') : OwnsB w' base e v g l:=h.kept (hb.block g h.lt)
theorem OwnsB.cell {w : World} {base : Nat} {e : TypeId} {v : Value} {g : Nat} {l : List UInt8} (h : OwnsB w base e v g l) (j : Nat) (hj : j < l.length) : w.cell? ⟨g,j,none⟩ = some (.int .u8 (l[j].toNat : Int)):=by
  obtain ⟨cap,cur,fz,h1,h2,hg,h3,h4,h5,h6,h7⟩:=h
  have h8 : (cur.toList.take l.length)[j]? = some (.int .u8 (l[j].toNat : Int)):=by rw [h7];simp [hj]
  rw [List.getElem?_take_of_lt hj,Array.getElem?_toList] at h8
  simp [World.cell?,hg,h8]
end Go.Proofs.YtkaehoihpgelnaaDoor
namespace Go.Proofs.YtkaehoihpgelnaaDoor
open Go.RowKit
structure Spares (B Bn : Nat) (W W' : World) : Prop where
  os : W'.os = W.os
  tape : W'.tape = W.tape
  output : W'.output = W.output
  size : W.heap.size ≤ W'.heap.size
  block : ∀ k,k < B → k ≠ Bn → W'.heap[k]? = W.heap[k]?
theorem Spares.alloc {B Bn : Nat} {W : World} (h : B ≤ W.heap.size) (o : Obj) : Spares B Bn W (W.alloc o) :=
  ⟨rfl,rfl,rfl,by simp,fun k hk _ => Below.heap_alloc W o k (by omega)⟩
theorem Spares.putObj {B Bn : Nat} {W : World} {l : Nat} (h : B ≤ l) (o : Obj) : Spares B Bn W (W.putObj l o) :=
  ⟨rfl,rfl,rfl,by simp,fun k hk _ => World.putObj_heap_other (by omega)⟩
theorem Spares.setCell {B : Nat} {W : World} (a : Addr) (x : Value) : Spares B a.block W (W.setCell a x) :=
  ⟨rfl,rfl,rfl,(KeepsWalks.setCell W a x).size,fun k _ hk => Below.heap_setCell W a x k hk⟩
theorem Spares.below {B Bn n₀ : Nat} {w W W' : World} (h : Spares B Bn W W') (hb : Below n₀ w W) (h1 : n₀ ≤ B) (h2 : n₀ ≤ Bn) : Below n₀ w W' :=
  ⟨h.os.trans hb.os,h.tape.trans hb.tape,h.output.trans hb.output,Nat.le_trans hb.size h.size,fun k hk => (h.block k (by omega) (by omega)).trans (hb.block k hk)⟩
theorem Spares.boxed {B Bn b : Nat} {t : TypeId} {v : Value} {W W' : World} (h : Spares B Bn W W') (hb : Boxed W b t v) (h1 : b < B) (h2 : b ≠ Bn) : Boxed W' b t v:=(h.block b h1 h2).trans hb
variable {F : Fence} {n : Nat} {P : Program}
theorem rangeFunc_rounds {g : Operand} {ps : Array Tmp} {assign body : Code} {Q : Exit → Act → World → Prop} {a : Act} {w : World}
    (hro : F.round = none) (h1 : 1 ≤ n) {gf : Nat} {lb : Array Value} (hg : a.eval g = .func (.func gf) #[] lb) (hFg : F.fn gf) (eg : ∀ args w,(callFunc gf args).run P w = .ok (.enter gf args) w)
    (encs : Nat → Array Value) (hps : ∀ k,(encs k).size = ps.size) (N Bn : Nat) (hBn : Bn < w.heap.size)
    (I : Nat → World → Prop) (hI : ∀ k W W',I k W → Spares w.heap.size Bn W W' → I k W') (h0 : I 0 w)
    (hseq : ∀ (l : Nat) (J : Nat → World → Prop) (W : World),(∀ k W x,J k W → J k (W.setCell ⟨Bn,0,none⟩ x)) →
      (∀ k W1,J k W1 → k < N → YieldAt F (n - 1 - 1) P l (encs k) W1 fun e W' => e = .returned (.bool true) ∧ J (k + 1) W' ∧ W'.heap[Bn]? = W1.heap[Bn]?) →
      J 0 W → W.heap[Bn]? = w.heap[Bn]? → CallsIn F (n - 1) P gf (#[.func (.yield l) #[] #[]] ++ lb) W fun e W' => (∃ v,e = .returned v) ∧ J N W')
    (a₁ : Nat → Act)
    (hassign : ∀ (l k : Nat) (W : World) (K : Act → World → Prop),K (a₁ k) W →
      assign.wpIn (F.inRound l) (n - 1 - 1) P (Exit.then K (fun _ _ _ => False)) { tmps:=(ps.zip (encs k)).foldl (fun t (p,v) => t.setIfInBounds p v) a.tmps,defers:=[] } W)
    (hbody : ∀ (l k : Nat) (W : World),I k W → k < N → body.wpIn (F.inRound l) (n - 1 - 1) P (Exit.then (fun _ W' => KeepsOthers W W' ∧ W'.heap[Bn]? = W.heap[Bn]? ∧ I (k + 1) W') (fun _ _ _ => False)) (a₁ k) W)
    (hdone : ∀ (D : Nat) (W : World),w.heap.size ≤ D → I N W → W.heap[D]? = some (.deferred (some [])) → Q .normal { a with defers:={ target:=.collected D,args:=#[] } :: a.defers } W) :
    (Code.rangeFunc g ps assign body).wpIn F n P Q a w:=by
  refine wpIn_rangeFunc ?_
  intro fn hfn
  rw [hro]
  obtain ⟨rec,hrec⟩ : ∃ rec : LoopState → Option Code → Loop,rec = fun st pe => { state:=st,pending:=pe,fn,tmps:=a.tmps,params:=ps,assign,body,defers:=w.heap.size }:=⟨_,rfl⟩
  obtain ⟨W1,hW1⟩ : ∃ W1,(w.alloc (.deferred (some []))).alloc (.loop (rec .ready none)) = W1:=⟨_,rfl⟩
  have hL1 : W1.heap[w.heap.size + 1]? = some (.loop (rec .ready none)):=by
    rw [← hW1];have:=World.alloc_heap_new (w.alloc (.deferred (some []))) (.loop (rec .ready none));rwa [World.size_alloc] at this
  have hK1 : W1.heap[w.heap.size]? = some (.deferred (some [])):=by
    rw [← hW1];exact (Below.heap_alloc _ _ _ (by simp)).trans (World.alloc_heap_new w _)
  have hI1 : I 0 W1:=by rw [← hW1];exact hI _ _ _ (hI _ _ _ h0 (Spares.alloc (Nat.le_refl _) _)) (Spares.alloc (by simp) _)
  have hB1 : W1.heap[Bn]? = w.heap[Bn]?:=by
    rw [← hW1];exact (Below.heap_alloc _ _ _ (by simp;omega)).trans (Below.heap_alloc _ _ _ hBn)
  refine ⟨w.heap.size + 1,[{ target:=.collected w.heap.size,args:=#[] }],W1,{ target:=.fn (.func gf) lb,args:=#[.func (.yield (w.heap.size + 1)) #[] #[]] },W1,gf,
    #[.func (.yield (w.heap.size + 1)) #[] #[]] ++ lb,W1,?_,?_,?_,?_,fun _ => h1,?_⟩
  · rw [← hW1,hrec];exact run_enterLoop_outer _ _ _ _ _
  · simp only [resolve,hg]
    simp [go_sem]
  · intro f' hf';simp [Target.leads] at hf';subst hf';exact hFg
  · simp [invoke,go_sem,eg]
  · refine (hseq (w.heap.size + 1)
      (fun k W => I k W ∧ W.heap[w.heap.size + 1]? = some (.loop (rec .ready none)) ∧ W.heap[w.heap.size]? = some (.deferred (some [])))
      W1 ?_ ?_ ⟨hI1,hL1,hK1⟩ hB1).mono ?_
    · rintro k W x ⟨hi,hl,hk⟩
      exact ⟨hI _ _ _ hi (Spares.setCell ⟨Bn,0,none⟩ x),(Below.heap_setCell W ⟨Bn,0,none⟩ x _ (by show _ ≠ Bn;omega)).trans hl,(Below.heap_setCell W ⟨Bn,0,none⟩ x _ (by show _ ≠ Bn;omega)).trans hk⟩
    · rintro k W ⟨hi,hl,hk⟩ hlen
      have hlt : w.heap.size + 1 < W.heap.size:=(Array.getElem?_eq_some_iff.1 hl).1
      have hy:=run_yield (P:=P) (args:=encs k) hl (by rw [hrec];exact hps k)
      rw [hrec] at hy
      refine ⟨fn,_,assign,body,hy,roundIn_of_wpIn hfn (hassign _ k W _ ⟨_,run_beginRound hl (by rw [hrec]),?_⟩)⟩
      have hl2 : (W.putObj (w.heap.size + 1) (.loop { rec .ready none with state:=.busy })).heap[w.heap.size + 1]? = some (.loop { rec .ready none with state:=.busy }):=World.putObj_heap_same hlt
      have hk2 : (W.putObj (w.heap.size + 1) (.loop { rec .ready none with state:=.busy })).heap[w.heap.size]? = some (.deferred (some [])):=(World.putObj_heap_other (by omega)).trans hk
      refine wpIn_mono (hbody _ k _ (hI _ _ _ hi (Spares.putObj (by omega) _)) hlen) ?_
      rintro e a3 W3 hp
      cases e with
      | normal =>
        obtain ⟨hk3,hb3,hi3⟩:=hp
        have hl3:=hk3.same _ _ hl2 rfl
        have hd3:=hk3.same _ _ hk2 rfl
        have hend:=run_endRound (P:=P) none hl3
        rw [hrec] at hend hl3
        refine ⟨_,_,hend,rfl,⟨hI _ _ _ hi3 (Spares.putObj (by omega) _),?_,(World.putObj_heap_other (by omega)).trans hd3⟩,?_⟩
        · rw [hrec];exact World.putObj_heap_same (Array.getElem?_eq_some_iff.1 hl3).1
        · exact (World.putObj_heap_other (by omega)).trans (hb3.trans (World.putObj_heap_other (by omega)))
      | ret => exact hp.elim
      | exit id => exact hp.elim
      | goto t => exact hp.elim
      | panic ch => exact hp.elim
      | outgrown => exact hp.elim
    · rintro e W2 ⟨⟨v,rfl⟩,hi,hl,hk⟩
      exact ⟨none,_,by have:=run_endLoop (P:=P) hl (by rw [hrec];simp);rw [hrec] at this;exact this,hdone _ _ (Nat.le_refl _) (hI _ _ _ hi (Spares.putObj (by omega) _)) ((World.putObj_heap_other (by omega)).trans hk)⟩
end Go.Proofs.YtkaehoihpgelnaaDoor
namespace Go.Proofs.YtkaehoihpgelnaaDoor
def hi : Nat → Nat → List UInt8
  | 0,_ => []
  | k + 1,n => if n = 0 then [] else hi k (n / 128) ++ [UInt8.ofNat (128 + n % 128)]
def putN (n : Nat) : List UInt8:=hi 10 (n / 128) ++ [UInt8.ofNat (n % 128)]
theorem hi_zero (k : Nat) : hi k 0 = []:=by cases k <;> simp [hi]
theorem hi_length (k n : Nat) : (hi k n).length ≤ k:=by
  induction k generalizing n with
  | zero => simp [hi]
  | succ k ih =>
    unfold hi;split
    · simp
    · have:=ih (n / 128);simp;omega
theorem hi_fuel (k j n : Nat) (h : n < 128 ^ k) (h' : n < 128 ^ j) : hi k n = hi j n:=by
  induction k generalizing j n with
  | zero => simp at h;subst h;simp [hi_zero]
  | succ k ih =>
    cases j with
    | zero => simp at h';subst h';simp [hi_zero]
    | succ j =>
      unfold hi
      split
      · rfl
      · rw [ih j (n / 128) (by rw [Nat.div_lt_iff_lt_mul (by omega)];rw [Nat.pow_succ] at h;exact h) (by rw [Nat.div_lt_iff_lt_mul (by omega)];rw [Nat.pow_succ] at h';exact h')]
theorem hi_step (k n : Nat) (h : n ≠ 0) (hk : n < 128 ^ k) : hi k n = hi k (n / 128) ++ [UInt8.ofNat (128 + n % 128)]:=by
  cases k with
  | zero => simp at hk;omega
  | succ k =>
    rw [hi_fuel (k + 1) (k + 2) n hk (Nat.lt_of_lt_of_le hk (Nat.pow_le_pow_right (by omega) (by omega)))]
    rw [hi]
    simp [h]
theorem putN_length (n : Nat) : 1 ≤ (putN n).length ∧ (putN n).length ≤ 11:=by
  unfold putN;have:=hi_length 10 (n / 128);simp;omega
theorem ofNat_toNat (n : Nat) (h : n < 256) : (UInt8.ofNat n).toNat = n:=by rw [UInt8.toNat_ofNat'];omega
end Go.Proofs.YtkaehoihpgelnaaDoor
namespace Go.Proofs.YtkaehoihpgelnaaDoor
open Go.RowKit
theorem size_start (n : Nat) : 1 + (hi 10 (n / 128)).length = (putN n).length:=by unfold putN;simp;omega
theorem put_start (n : Nat) (b : UInt8) (hb : b = UInt8.ofNat (n % 128)) : hi 10 (n / 128) ++ [b] = putN n:=by subst hb;rfl
theorem put_step (m : Nat) (l L : List UInt8) (h : m ≠ 0) (hm : m < 18446744073709551616) (he : hi 10 m ++ l = L) : hi 10 (m / 128) ++ (UInt8.ofNat (128 + m % 128) :: l) = L:=by
  rw [hi_step 10 m h (by omega)] at he;rw [← he];simp
set_option maxHeartbeats 400000 in
theorem refPut_any (n : Nat) (w : World) (hn : (n : Int) ≤ 18446744073709551615) :
    Calls Tryd.prog 107 #[.int .u64 n] w fun e w' => e = .returned (bstr (putN n)) ∧ Below w.heap.size w w':=by
  have hob:=fun x w => one_byte (P:=Tryd.prog) Tryd.underlying96 Tryd.underlying5 Tryd.underlying9 x w
  have h0:=put_start n _ rfl
  have H0:=Lib.hid h0;clear h0
  go_enter Tryd.func107,Tryd.ntmps107
  go_wp2
  go_loopw [0,3] (fun a s wr => ∃ (m : Nat) (l : List UInt8),a = .int .u64 m ∧ s = bstr l ∧ m ≤ n ∧ hi 10 m ++ l = putN n ∧ Below w.heap.size w wr) (fun a _ _ => (intOf a).toNat)
  case atStart => exact ⟨n / 128,[UInt8.ofNat (n % 128)],by go_num,by simp [bstr],by omega,H0.out,(Below.refl _ _).alloc (Nat.le_refl _) _⟩
  case round =>
    obtain ⟨m,l,rfl,hs,hm,he,hb⟩:=hrel
    obtain rfl:=hs
    have hl : l.length ≤ 11:=by have:=putN_length n;rw [← he] at this;simp at this;omega
    have He:=Lib.hid he;clear he
    by_cases h : m = 0
    · subst h
      unfold bstr
      go_wp2
      go_ret
      exact ⟨ret_str (by have:=He.out;rw [hi_zero] at this;simpa using this),hb⟩
    · have h1 : 1 ≤ m:=by omega
      unfold bstr
      go_wp2
      go_roundw
      case rel =>
        refine ⟨m / 128,UInt8.ofNat (128 + m % 128) :: l,by go_num,?_,by omega,put_step m l _ h (by omega) He.out,hb.trans ((Below.refl _ _).alloc hb.size _)⟩
        exact vstr (by simp)
      case measure => simp [intOf];omega
end Go.Proofs.YtkaehoihpgelnaaDoor
namespace Go.Proofs.YtkaehoihpgelnaaDoor
open Go.RowKit
attribute [local go_sem] Oper.semAt_some
def lead (n k : Nat) : Nat:=n / 128 ^ k
theorem lead_succ (n k : Nat) : lead n (k + 1) = lead n k / 128:=by unfold lead;rw [Nat.pow_succ,Nat.div_div_eq_div_mul]
theorem lead_zero (n : Nat) : lead n 0 = n:=by simp [lead]
theorem lead_le (n k : Nat) : lead n k ≤ n:=Nat.div_le_self _ _
theorem hi_len_lead (n k : Nat) (hn : n < 18446744073709551616) (hk : k + (hi 10 (lead n k / 128)).length + 1 = (putN n).length) (h : 128 ≤ lead n k) :
    k + 1 + (hi 10 (lead n (k + 1) / 128)).length + 1 = (putN n).length:=by
  have:=lead_le n k
  rw [hi_step 10 (lead n k / 128) (by omega) (by omega)] at hk
  rw [lead_succ];simp at hk;omega
def encs (n k : Nat) : Array Value:=#[.int .i64 k,.int .u8 ((lead n k : Int) % 128)]
set_option maxHeartbeats 1000000 in
theorem groups1_in (F : Fence) (n : Nat) (hf : F.fn 110) (hro : F.round = none) (hn : 1 ≤ n) (Bn x : Nat) (hx : (x : Int) ≤ 18446744073709551615) (l : Nat) (J : Nat → World → Prop) (W : World)
    (hJ : ∀ k W v,J k W → J k (W.setCell ⟨Bn,0,none⟩ v))
    (hY : ∀ k W1,J k W1 → k < (putN x).length → YieldAt F (n - 1) Tryd.prog l (encs x k) W1 fun e W' => e = .returned (.bool true) ∧ J (k + 1) W' ∧ W'.heap[Bn]? = W1.heap[Bn]?)
    (h0 : J 0 W) (hB : Boxed W Bn 33 (.int .u64 x)) :
    CallsIn F n Tryd.prog 110 (#[.func (.yield l) #[] #[]] ++ #[.pointer (some ⟨Bn,0,none⟩)]) W fun e W' => (∃ v,e = .returned v) ∧ J (putN x).length W':=by
  have hlen:=putN_length x
  refine callsIn_of_wp Tryd.func110 rfl hf ?_ hro
  simp only [Tryd.ntmps110,List.size_toArray,List.length_cons,List.length_nil,Nat.reduceAdd,Nat.reduceSub,Array.replicate_succ,Array.replicate_zero,List.push_toArray,List.append_toArray,List.nil_append,List.cons_append]
  gi_wp2
  gi_loopw [3] (fun i wr => ∃ k : Nat,i = .int .i64 k ∧ k + (hi 10 (lead x k / 128)).length + 1 = (putN x).length ∧ J k wr ∧ Boxed wr Bn 33 (.int .u64 (lead x k)))
    (fun i _ => 11 - (intOf i).toNat)
  case atStart => exact ⟨0,rfl,by rw [lead_zero];have:=size_start x;omega,h0,by rw [lead_zero];exact hB⟩
  case round =>
    obtain ⟨k,rfl,hk,hJk,hb⟩:=hrel
    have hkl : k < (putN x).length:=by omega
    have hll:=lead_le x k
    obtain ⟨fn,tmps,assign,body,hy,hR⟩:=hY k wr hJk hkl
    unfold encs at hy
    have hc:=hb.cell
    have hfr:=hb.frozen
    have Hk:=Lib.hid hk;clear hk
    gi_wp2
    refine hR.mono ?_
    rintro e W3 ⟨rfl,hJ3,hB3⟩
    have hb3 : Boxed W3 Bn 33 (.int .u64 (lead x k)):=hB3.trans hb
    clear hc hfr
    have hc:=hb3.cell
    have hfr:=hb3.frozen
    by_cases h128 : 128 ≤ lead x k
    · gi_wp2
      go_roundw
      case rel =>
        refine ⟨k + 1,by go_num,hi_len_lead x k (by omega) Hk.out h128,hJ _ _ _ hJ3,?_⟩
        have:=hb3.set (.int .u64 (lead x (k + 1)))
        rw [lead_succ] at this ⊢
        simpa using this
      case measure => simp [intOf];omega
    · gi_wp2
      go_end0
      refine ⟨⟨_,rfl⟩,?_⟩
      have : k + 1 = (putN x).length:=by have:=Hk.out;rw [show lead x k / 128 = 0 by omega,hi_zero] at this;simpa using this
      rw [← this];exact hJ3
theorem groups_in (F : Fence) (n : Nat) (hf : F.fn 97) (hro : F.round = none) (x : Nat) (w : World) :
    CallsIn F n Tryd.prog 97 #[.int .u64 x] w fun e w' => e = .returned (.func (.func 110) #[] #[.pointer (some ⟨w.heap.size,0,none⟩)]) ∧ w' = w.alloc (.cells #[.int .u64 x] 33):=by
  refine callsIn_of_wp Tryd.func97 rfl hf ?_ hro
  simp only [Tryd.ntmps97,List.size_toArray,List.length_cons,List.length_nil,Nat.reduceAdd,Nat.reduceSub,Array.replicate_succ,Array.replicate_zero,List.push_toArray,List.append_toArray,List.nil_append,List.cons_append]
  gi_wp2
  go_ret
  exact ⟨rfl,rfl⟩
set_option maxHeartbeats 1000000 in
theorem numSize_in (F : Fence) (n : Nat) (hf : F.fn 78) (hg : F.fn 97) (hg1 : F.fn 110) (hro : F.round = none) (hn : 3 ≤ n) (x : Nat) (hx : (x : Int) ≤ 18446744073709551615) (w : World) :
    CallsIn F n Tryd.prog 78 #[.int .u64 x] w fun e w' => e = .returned (.int .i64 ((putN x).length : Nat)) ∧ Below w.heap.size w w':=by
  have h1 : 1 ≤ n:=by omega
  have hlen:=putN_length x
  refine callsIn_of_wp_marks Tryd.func78 rfl hf ?_ hro
  simp only [Tryd.ntmps78,List.size_toArray,List.length_cons,List.length_nil,Nat.reduceAdd,Nat.reduceSub,Array.replicate_succ,Array.replicate_zero,List.push_toArray,List.append_toArray,List.nil_append,List.cons_append]
  gi_wp2_with (gi_at_call 97;refine (groups_in F (n - 1) hg hro _ _).mono ?_;rintro e w' ⟨rfl,rfl⟩)
  have hsz : ((w.alloc (Obj.cells #[Value.int IntKind.i64 0] 3)).alloc (Obj.cells #[Value.int IntKind.u64 ↑x] 33)).heap.size = w.heap.size + 2:=by simp
  have hb0 : Boxed (w.alloc (Obj.cells #[Value.int IntKind.i64 0] 3)) w.heap.size 3 (.int .i64 0):=Boxed.new _ _ _
  have hb1 : Boxed ((w.alloc (Obj.cells #[Value.int IntKind.i64 0] 3)).alloc (Obj.cells #[Value.int IntKind.u64 ↑x] 33)) (w.heap.size + 1) 33 (.int .u64 x):=by
    have:=Boxed.new (w.alloc (Obj.cells #[Value.int IntKind.i64 0] 3)) 33 (.int .u64 x);rwa [World.size_alloc] at this
  refine rangeFunc_rounds hro h1 (gf:=110) (lb:=#[.pointer (some ⟨w.heap.size + 1,0,none⟩)]) rfl hg1 (enters_of Tryd.func110 (by kernel_rfl) rfl)
    (encs x) (fun _ => rfl) (putN x).length (w.heap.size + 1) (by simp)
    (fun k W => Boxed W w.heap.size 3 (.int .i64 k) ∧ Below w.heap.size w W)
    (fun k A B hs hk => ⟨hk.boxed hs.1 (by simp;omega) (by omega),hk.below hs.2 (by simp;omega) (by omega)⟩)
    ⟨hb0.alloc _,((Below.refl _ _).alloc (Nat.le_refl _) _).alloc (by simp) _⟩
    (fun l J W hJ hY h0 hB => groups1_in F (n - 1) hg1 hro (by omega) (w.heap.size + 1) x hx l J W hJ hY h0 (hB.trans hb1))
    (fun k => { tmps:=#[.int .u64 x,undef,.int .i64 0,.pointer (some ⟨w.heap.size,0,none⟩),.int .i64 k,.int .u64 x,.func (.func 110) #[] #[.pointer (some ⟨w.heap.size + 1,0,none⟩)],.int .i64 k,.int .u8 ((lead x k : Int) % 128),undef,undef,undef],defers:=[] }) ?assign ?body ?done
  case assign =>
    intro l k W K hK
    dsimp only [encs]
    gi_wp2
    exact hK
  case body =>
    rintro l k W ⟨hb,hB⟩ hlt
    have hc:=hb.cell
    have hfr:=hb.frozen
    gi_wp2
    refine ⟨KeepsOthers.setCell _ _ _,Below.heap_setCell _ _ _ _ (by show _ ≠ w.heap.size;omega),?_,hB.setCell (p:=⟨w.heap.size,0,none⟩) (Nat.le_refl _) _⟩
    have:=hb.set (.int .i64 ((k + 1 : Nat) : Int))
    simpa using this
  case done =>
    rintro D W hD ⟨hb,hB⟩ hK
    have hc:=hb.cell
    have hfr:=hb.frozen
    gi_wp2
    refine ⟨by simp,.inl ⟨_,_,rfl,run_takeDeferred hK,?_⟩⟩
    exact ⟨_,results_tmp rfl _ _ _,rfl,hB.trans (belowK_b (w:=w) (Nat.le_refl _) W D _ _ (by simp at hD;omega) hK rfl rfl)⟩
theorem numSize_any (x : Nat) (hx : (x : Int) ≤ 18446744073709551615) (w : World) :
    Calls Tryd.prog 78 #[.int .u64 x] w fun e w' => e = .returned (.int .i64 ((putN x).length : Nat)) ∧ Below w.heap.size w w' :=
  (callsIn_wide (n:=3)).1 (numSize_in Fence.wide 3 trivial trivial trivial rfl (by omega) x hx w)
end Go.Proofs.YtkaehoihpgelnaaDoor
namespace Go.Proofs.YtkaehoihpgelnaaDoor
open Go.RowKit
attribute [local go_sem] Oper.semAt_some
def tl (x : Nat) : Nat → List UInt8
  | 0 => []
  | k + 1 => (if k = 0 then UInt8.ofNat (x % 128) else UInt8.ofNat (128 + lead x k % 128)) :: tl x k
theorem tl_length (x k : Nat) : (tl x k).length = k:=by
  induction k with
  | zero => rfl
  | succ k ih => simp [tl,ih]
theorem tl_put (x k : Nat) (hx : x < 18446744073709551616) (h1 : 1 ≤ k) (hk : k ≤ (putN x).length) : hi 10 (lead x k) ++ tl x k = putN x:=by
  induction k with
  | zero => omega
  | succ k ih =>
    by_cases h0 : k = 0
    · subst h0;simp [tl,lead_succ,lead_zero,putN]
    · have ih:=ih (by omega) (by omega)
      have hl:=lead_le x k
      have hne : lead x k ≠ 0:=by
        intro e
        rw [e,hi_zero,List.nil_append] at ih
        have:=congrArg List.length ih;rw [tl_length] at this;omega
      rw [lead_succ,tl,if_neg h0,← ih,hi_step 10 (lead x k) hne (by omega)]
      simp
theorem tl_all (x : Nat) (hx : x < 18446744073709551616) : tl x (putN x).length = putN x:=by
  have h:=tl_put x (putN x).length hx (putN_length x).1 (Nat.le_refl _)
  have hl:=congrArg List.length h
  rw [List.length_append,tl_length] at hl
  rw [List.length_eq_zero_iff.1 (show (hi 10 (lead x (putN x).length)).length = 0 by omega),List.nil_append] at h
  exact h
theorem putN_length10 (x : Nat) (hx : x < 18446744073709551616) : (putN x).length ≤ 10:=by
  unfold putN;rw [hi_fuel 10 9 (x / 128) (by omega) (by omega)]
  have:=hi_length 9 (x / 128);simp;omega
def formAt (x k : Nat) : Array Value:=(List.replicate (10 - k) (Value.int .u8 0) ++ (tl x k).map (fun b => Value.int .u8 b.toNat)).toArray
theorem formAt_zero (x : Nat) : formAt x 0 = #[.int .u8 0,.int .u8 0,.int .u8 0,.int .u8 0,.int .u8 0,.int .u8 0,.int .u8 0,.int .u8 0,.int .u8 0,.int .u8 0]:=by
  simp [formAt,tl,List.replicate]
theorem formAt_succ (x k : Nat) (hk : k < 10) (v : Int) (hv : v = ((if k = 0 then UInt8.ofNat (x % 128) else UInt8.ofNat (128 + lead x k % 128)).toNat : Nat)) : (formAt x k).setIfInBounds (9 - k) (.int .u8 v) = formAt x (k + 1):=by
  subst hv
  unfold formAt
  rw [List.setIfInBounds_toArray,tl]
  congr 1
  rw [List.set_append_left _ _ (by simp;omega),show 10 - k = (9 - k) + 1 by omega,List.replicate_succ',List.set_append_right _ _ (by simp),show 10 - (k + 1) = 9 - k by omega]
  simp
theorem setRow {W : World} {b i : Nat} {arr : Array Value} {t : TypeId} (v : Value) (h : W.heap[b]? = some (.cells arr t (0,0))) : (W.setCell ⟨b,i,none⟩ v).heap[b]? = some (.cells (arr.setIfInBounds i v) t (0,0)):=by
  obtain ⟨hlt,hk⟩:=Array.getElem?_eq_some_iff.1 h
  show (W.heap.modify b _)[b]? = _
  rw [Array.getElem?_eq_getElem (by rw [Array.size_modify];exact hlt),Array.getElem_modify_self,hk]
  rfl
theorem row_cell {W : World} {b i : Nat} {arr : Array Value} {t : TypeId} {v : Value} (h : W.heap[b]? = some (.cells arr t (0,0))) (hv : arr[i]? = some v) : W.cell? ⟨b,i,none⟩ = some v ∧ W.frozen? ⟨b,i,none⟩ = false:=by
  simp [World.cell?,World.frozen?,h,hv]
theorem formAt_old (x k : Nat) (hk : k < 10) : (formAt x k)[9 - k]? = some (.int .u8 0):=by
  unfold formAt
  rw [List.getElem?_toArray,List.getElem?_append_left (by simp;omega),List.getElem?_replicate,if_pos (by omega)]
theorem formAt_end (x i : Nat) (hx : x < 18446744073709551616) (hi : i < (putN x).length) : (formAt x (putN x).length)[10 - (putN x).length + i]? = some (.int .u8 ((putN x)[i].toNat : Int)):=by
  unfold formAt
  rw [tl_all x hx,List.getElem?_toArray,List.getElem?_append_right (by simp)]
  simp [hi]
set_option maxHeartbeats 1000000 in
theorem numPut_in (F : Fence) (n : Nat) (hf : F.fn 96) (hg : F.fn 97) (hg1 : F.fn 110) (hro : F.round = none) (hn : 3 ≤ n) (x : Nat) (hx : (x : Int) ≤ 18446744073709551615) (w : World) :
    CallsIn F n Tryd.prog 96 #[.int .u64 x] w fun e w' => e = .returned (bstr (putN x)) ∧ Below w.heap.size w w':=by
  have h1 : 1 ≤ n:=by omega
  have hlen:=putN_length x
  refine callsIn_of_wp_marks Tryd.func96 rfl hf ?_ hro
  simp only [Tryd.ntmps96,List.size_toArray,List.length_cons,List.length_nil,Nat.reduceAdd,Nat.reduceSub,Array.replicate_succ,Array.replicate_zero,List.push_toArray,List.append_toArray,List.nil_append,List.cons_append]
  gi_wp2_with (gi_at_call 97;refine (groups_in F (n - 1) hg hro _ _).mono ?_;rintro e w' ⟨rfl,rfl⟩)
  have hL10 : (putN x).length ≤ 10:=putN_length10 x (by omega)
  obtain ⟨w0,hw0,hz0,hB0,hF0,hA0,hN0⟩ : ∃ w0,w0 = (((w.alloc (Obj.cells #[Value.int IntKind.u8 0,Value.int IntKind.u8 0,Value.int IntKind.u8 0,Value.int IntKind.u8 0,Value.int IntKind.u8 0,Value.int IntKind.u8 0,Value.int IntKind.u8 0,Value.int IntKind.u8 0,Value.int IntKind.u8 0,Value.int IntKind.u8 0] 152)).alloc
          (Obj.cells #[Value.int IntKind.i64 10] 3)).alloc (Obj.cells #[Value.int IntKind.u64 ↑x] 33)) ∧ w0.heap.size = w.heap.size + 3 ∧ Below w.heap.size w w0 ∧
      w0.heap[w.heap.size]? = some (.cells (formAt x 0) 152 (0,0)) ∧ Boxed w0 (w.heap.size + 1) 3 (.int .i64 10) ∧ Boxed w0 (w.heap.size + 2) 33 (.int .u64 x):=by
    refine ⟨_,rfl,by simp,(((Below.refl _ _).alloc (Nat.le_refl _) _).alloc (by simp) _).alloc (by simp;omega) _,?_,?_,?_⟩
    · rw [formAt_zero]
      exact (Below.heap_alloc _ _ _ (by simp;omega)).trans ((Below.heap_alloc _ _ _ (by simp)).trans (World.alloc_heap_new w _))
    · have:=World.alloc_heap_new (w.alloc (Obj.cells #[Value.int IntKind.u8 0,Value.int IntKind.u8 0,Value.int IntKind.u8 0,Value.int IntKind.u8 0,Value.int IntKind.u8 0,Value.int IntKind.u8 0,Value.int IntKind.u8 0,Value.int IntKind.u8 0,Value.int IntKind.u8 0,Value.int IntKind.u8 0] 152)) (Obj.cells #[Value.int IntKind.i64 10] 3)
      rw [World.size_alloc] at this
      exact (Below.heap_alloc _ _ _ (by simp)).trans this
    · have:=World.alloc_heap_new ((w.alloc (Obj.cells #[Value.int IntKind.u8 0,Value.int IntKind.u8 0,Value.int IntKind.u8 0,Value.int IntKind.u8 0,Value.int IntKind.u8 0,Value.int IntKind.u8 0,Value.int IntKind.u8 0,Value.int IntKind.u8 0,Value.int IntKind.u8 0,Value.int IntKind.u8 0] 152)).alloc (Obj.cells #[Value.int IntKind.i64 10] 3)) (Obj.cells #[Value.int IntKind.u64 x] 33)
      rw [World.size_alloc,World.size_alloc] at this
      exact this
  rw [← hw0]
  clear hw0
  refine rangeFunc_rounds hro h1 (gf:=110) (lb:=#[.pointer (some ⟨w.heap.size + 2,0,none⟩)]) rfl hg1 (enters_of Tryd.func110 (by kernel_rfl) rfl)
    (encs x) (fun _ => rfl) (putN x).length (w.heap.size + 2) (by omega)
    (fun k W => (Boxed W (w.heap.size + 1) 3 (.int .i64 (10 - (k : Int))) ∧ W.heap[w.heap.size]? = some (.cells (formAt x k) 152 (0,0))) ∧ Below w.heap.size w W)
    (fun k A B hs hk => ⟨⟨hk.boxed hs.1.1 (by omega) (by omega),(hk.block _ (by omega) (by omega)).trans hs.1.2⟩,hk.below hs.2 (by omega) (by omega)⟩)
    ⟨⟨hA0,hF0⟩,hB0⟩
    (fun l J W hJ hY h0 hB => groups1_in F (n - 1) hg1 hro (by omega) (w.heap.size + 2) x hx l J W hJ hY h0 (hB.trans hN0))
    (fun k => { tmps:=#[.int .u64 x,undef,.string ⟨#[]⟩,.pointer (some ⟨w.heap.size,0,none⟩),.pointer (some ⟨w.heap.size + 1,0,none⟩),.int .i64 k,.int .u8 ((lead x k : Int) % 128),.int .u64 x,.func (.func 110) #[] #[.pointer (some ⟨w.heap.size + 2,0,none⟩)],.int .i64 k,.int .u8 ((lead x k : Int) % 128),undef,undef,undef,undef,undef,undef,undef,undef,undef,undef,undef,undef,undef,undef,undef],defers:=[] }) ?assign ?body ?done
  case assign =>
    intro l k W K hK
    dsimp only [encs]
    gi_wp2
    exact hK
  case body =>
    rintro l k W ⟨⟨hb,hr⟩,hB⟩ hlt
    obtain ⟨hrc,hrf⟩:=row_cell hr (formAt_old x k (by omega))
    rw [show 9 - k = 10 - k - 1 by omega] at hrc hrf
    have hc:=hb.cell
    have hfr:=hb.frozen
    have hor : bits .or .u8 ((lead x k : Int) % 128) 128 = (lead x k : Int) % 128 + 128:=u8_or128_right _ (by omega) (by omega)
    have Hr:=Lib.hid hr;clear hr
    have Hb:=Lib.hid hb;clear hb
    by_cases h0 : k = 0
    · have hk0 : ¬ 0 < k:=by omega
      have H0:=Lib.hid h0;clear h0
      gi_wp2
      refine ⟨(KeepsOthers.setCell _ _ _).trans (KeepsOthers.setCell _ _ _),?_,⟨?_,?_⟩,(hB.setCell (p:=⟨w.heap.size + 1,0,none⟩) (by simp) _).setCell (p:=⟨w.heap.size,10 - k - 1,none⟩) (Nat.le_refl _) _⟩
      · exact (Below.heap_setCell _ _ _ _ (by show _ ≠ w.heap.size;omega)).trans (Below.heap_setCell _ _ _ _ (by show _ ≠ w.heap.size + 1;omega))
      · refine (Below.heap_setCell _ _ _ _ (by show _ ≠ w.heap.size;omega)).trans ?_
        have:=Hb.out.set (.int .i64 (10 - ((k + 1 : Nat) : Int)))
        rw [show (10 : Int) - ((k + 1 : Nat) : Int) = 10 - (k : Int) - 1 by omega] at this ⊢
        exact this
      · have h2 : (W.setCell ⟨w.heap.size + 1,0,none⟩ (.int .i64 (10 - (k : Int) - 1))).heap[w.heap.size]? = some (.cells (formAt x k) 152 (0,0)):=(Below.heap_setCell _ _ _ _ (by show _ ≠ w.heap.size + 1;omega)).trans Hr.out
        have:=setRow (i:=10 - k - 1) (.int .u8 ((lead x k : Int) % 128)) h2
        rw [this,show 10 - k - 1 = 9 - k by omega,formAt_succ x k (by omega) _ (by rw [if_pos H0.out,H0.out,lead_zero,ofNat_toNat _ (by omega)];omega)]
    · have hk0 : 0 < k:=by omega
      have H0:=Lib.hid h0;clear h0
      gi_wp2
      refine ⟨((KeepsOthers.setCell _ _ _).trans (KeepsOthers.setCell _ _ _)).trans (KeepsOthers.setCell _ _ _),?_,⟨?_,?_⟩,((hB.setCell (p:=⟨w.heap.size + 1,0,none⟩) (by simp) _).setCell (p:=⟨w.heap.size,10 - k - 1,none⟩) (Nat.le_refl _) _).setCell (p:=⟨w.heap.size,10 - k - 1,none⟩) (Nat.le_refl _) _⟩
      · exact (Below.heap_setCell _ _ _ _ (by show _ ≠ w.heap.size;omega)).trans ((Below.heap_setCell _ _ _ _ (by show _ ≠ w.heap.size;omega)).trans (Below.heap_setCell _ _ _ _ (by show _ ≠ w.heap.size + 1;omega)))
      · refine (Below.heap_setCell _ _ _ _ (by show _ ≠ w.heap.size;omega)).trans ((Below.heap_setCell _ _ _ _ (by show _ ≠ w.heap.size;omega)).trans ?_)
        have:=Hb.out.set (.int .i64 (10 - ((k + 1 : Nat) : Int)))
        rw [show (10 : Int) - ((k + 1 : Nat) : Int) = 10 - (k : Int) - 1 by omega] at this ⊢
        exact this
      · have h2 : (W.setCell ⟨w.heap.size + 1,0,none⟩ (.int .i64 (10 - (k : Int) - 1))).heap[w.heap.size]? = some (.cells (formAt x k) 152 (0,0)):=(Below.heap_setCell _ _ _ _ (by show _ ≠ w.heap.size + 1;omega)).trans Hr.out
        have h3:=setRow (i:=10 - k - 1) (.int .u8 ((lead x k : Int) % 128)) h2
        have:=setRow (i:=10 - k - 1) (.int .u8 ((lead x k : Int) % 128 + 128)) h3
        rw [this,Array.setIfInBounds_setIfInBounds,show 10 - k - 1 = 9 - k by omega,formAt_succ x k (by omega) _ (by rw [if_neg H0.out,ofNat_toNat _ (by omega)];omega)]
  case done =>
    rintro D W hD ⟨⟨hb,hr⟩,hB⟩ hK
    have hc:=hb.cell
    have hfr:=hb.frozen
    obtain ⟨L,hL⟩ : ∃ L,L = (putN x).length:=⟨_,rfl⟩
    have hsl : (Instr.sliceAt 152 (.pointer (some ⟨w.heap.size,0,none⟩)) (some (.int .i64 (10 - (L : Int)))) none none).run Tryd.prog W = .ok (.slice (some ⟨w.heap.size,10 - L,none⟩) L L) W:=by
      have ha : Tryd.prog.arrayLen 152 = 10:=by kernel_rfl
      have he : Tryd.prog.elem 152 = 5:=by kernel_rfl
      have hs : ∀ w,(sizeOf 5).run Tryd.prog w = .ok 1 w:=fun _ => by kernel_rfl
      rw [run_sliceAt_array_l W 152 _ (by kernel_rfl) .i64 _ (by omega) (by rw [ha];omega),ha,he,hs]
      have e1 : ((10 : Int) - (L : Int)).toNat = 10 - L:=by omega
      simp only [Result.andThen,slicedAt,e1]
      rw [if_neg (by omega),show 10 - (10 - L) = L by omega]
      simp [Addr.add]
      omega
    have hcv : (convert 96 9 (.slice (some ⟨w.heap.size,10 - L,none⟩) L L)).run Tryd.prog W = .ok (bstr (putN x)) W:=by
      have:=run_convert_bytes_back (P:=Tryd.prog) W 96 9 5 ⟨w.heap.size,10 - L,none⟩ L (putN x) Tryd.underlying96 Tryd.underlying5 Tryd.underlying9 (fun j hj => by
        have:=(row_cell hr (formAt_end x j (by omega) hj)).1
        rw [← hL] at this
        by_cases hj0 : j = 0
        · subst hj0;simpa [Addr.add] using this
        · simpa [Addr.add,hj0] using this)
      rw [← hL] at this
      exact this
    rw [← hL] at hc hb hr
    clear hr
    have HL:=Lib.hid hL;clear hL
    gi_wp2
    refine ⟨by simp,.inl ⟨_,_,rfl,run_takeDeferred hK,?_⟩⟩
    exact ⟨_,results_tmp rfl _ _ _,rfl,hB.trans (belowK_b (w:=w) (Nat.le_refl _) W D _ _ (by omega) hK rfl rfl)⟩
theorem numPut_any (x : Nat) (hx : (x : Int) ≤ 18446744073709551615) (w : World) :
    Calls Tryd.prog 96 #[.int .u64 x] w fun e w' => e = .returned (bstr (putN x)) ∧ Below w.heap.size w w' :=
  (callsIn_wide (n:=3)).1 (numPut_in Fence.wide 3 trivial trivial trivial rfl (by omega) x hx w)
end Go.Proofs.YtkaehoihpgelnaaDoor
namespace Go.Proofs.YtkaehoihpgelnaaDoor
open Go.RowKit
def putTextN (l : List UInt8) : List UInt8:=putN l.length ++ l
theorem bsize (l : List UInt8) : (⟨l.toArray⟩ : ByteArray).size = l.length:=by simp [ByteArray.size]
theorem refPutText_any (t : ByteArray) (w : World) (ht : t.size ≤ 100000) :
    Calls Tryd.prog 88 #[.string t] w fun e w' => e = .returned (bstr (putTextN t.data.toList)) ∧ Below w.heap.size w w':=by
  obtain ⟨p,hp⟩ : ∃ p : ByteArray,p = ⟨(putN t.size).toArray⟩:=⟨_,rfl⟩
  have cp : ∀ w,Calls Tryd.prog 107 #[.int .u64 t.size] w fun e w' => e = .returned (.string p) ∧ Below w.heap.size w w':=fun w => by rw [hp];exact refPut_any t.size w (by omega)
  have hps : p.size ≤ 11:=by rw [hp,bsize];exact (putN_length _).2
  have fin : Ending.returned (.string (p ++ t)) = .returned (bstr (putTextN t.data.toList)):=ret_str (by rw [hp];simp [putTextN])
  have Fin:=Lib.hid fin;clear fin
  clear hp
  have Cp:=Lib.hid cp;clear cp
  go_enter Tryd.func88,Tryd.ntmps88
  go_wp2_with (go_at_call 107;(with_reducible refine (Cp.out _).mono ?_);rintro e wb ⟨rfl,hb2⟩)
  go_ret
  exact ⟨Fin.out,hb2⟩
end Go.Proofs.YtkaehoihpgelnaaDoor
namespace Go.Proofs.YtkaehoihpgelnaaDoor
open Go.RowKit
def IsRow (k : IntKind) (w : World) (a : Option Addr) (len cap : Nat) (zs : List Int) : Prop :=
  (a = none ∧ len = 0 ∧ cap = 0 ∧ zs = []) ∨
  ∃ x,a = some x ∧ len ≤ cap ∧ cap ≤ maxLen ∧ zs.length = cap ∧ (∀ i,i < zs.length → w.cell? (x.add i) = some (.int k (zs.getD i 0))) ∧ ∀ n ∈ zs,(Lit.int k n).wf = true
def Row (k : IntKind) (w : World) (a : Option Addr) (cap : Nat) (zs : List Int) : Prop :=
  zs.length ≤ cap ∧ cap ≤ maxLen ∧ (∀ z ∈ zs,(Lit.int k z).wf = true) ∧
  (a = none → cap = 0) ∧
  (0 < zs.length → ∃ b off,a = some ⟨b,off,none⟩ ∧ b < w.heap.size ∧ ∀ i (h : i < zs.length),w.cell? ⟨b,off + i,none⟩ = some (.int k zs[i]))
theorem row_of {k : IntKind} {w : World} {a : Option Addr} {len cap : Nat} {zs : List Int} (h : IsRow k w a len cap zs) : len = (zs.take len).length ∧ Row k w a cap (zs.take len):=by
  rcases h with ⟨rfl,rfl,rfl,rfl⟩|⟨x,rfl,hl,hm,hz,hc,hw⟩
  · exact ⟨rfl,Nat.le_refl _,by unfold maxLen;omega,by simp,fun _ => rfl,fun h => by simp at h⟩
  · have e : (zs.take len).length = len:=by rw [List.length_take];omega
    refine ⟨e.symm,by omega,hm,fun z hz => hw z (List.mem_of_mem_take hz),by simp,fun h0 => ?_⟩
    rw [e] at h0
    have h1:=hc 0 (by omega)
    obtain ⟨b,off,spot⟩:=x
    have hs : spot = none:=by simpa [Addr.add] using World.cell?_spot h1
    subst hs
    refine ⟨b,off,rfl,?_,fun i hi => ?_⟩
    · unfold World.cell? at h1
      simp only [Addr.add] at h1
      have : ∃ o,w.heap[b]? = some o:=by
        cases ho : w.heap[b]? with
        | none => simp [ho] at h1
        | some o => exact ⟨o,rfl⟩
      obtain ⟨o,ho⟩:=this
      exact (Array.getElem?_eq_some_iff.1 ho).1
    · have hi' : i < len:=by omega
      have:=hc i (by omega)
      rw [Addr.add_lit] at this
      rw [this]
      congr 2
      rw [List.getElem_take,List.getD_eq_getElem?_getD,List.getElem?_eq_getElem (by omega)]
      rfl
theorem Row.below {k : IntKind} {w w' : World} {a : Option Addr} {cap : Nat} {zs : List Int} (h : Row k w a cap zs) (hb : Below w.heap.size w w') : Row k w' a cap zs:=by
  obtain ⟨h1,h2,h3,h5,h4⟩:=h
  refine ⟨h1,h2,h3,h5,fun h0 => ?_⟩
  obtain ⟨b,off,e,hlt,hc⟩:=h4 h0
  exact ⟨b,off,e,Nat.lt_of_lt_of_le hlt hb.size,fun i hi => (hb.cell (p:=⟨b,off + i,none⟩) hlt).trans (hc i hi)⟩
end Go.Proofs.YtkaehoihpgelnaaDoor
