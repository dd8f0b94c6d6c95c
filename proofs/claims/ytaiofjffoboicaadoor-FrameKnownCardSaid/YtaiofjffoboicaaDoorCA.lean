/- Parts of a proof, printed by a program of mine out of my texts: Base, Blk, Bytes, Range, NumMath, NumRef, NumPut, NumPut2, NumRefGet, NumGet, NumInt, NumText, BuMath, QTail, Reg. -/
import Derived.Test.YtaiofjffoboicaaDoorChecked
import Derived.WalkKit
import Derived.WalkSpells
import Derived.WalkLawsBesides
import Derived.Lib.Hide
import Derived.Laws.BytesString
import Derived.Laws.IdiomStrings
import Derived.Lib.ConvBytes
import Derived.Deep.Quiet
import Derived.Deep.QuietTactic
import Derived.BigQuiet
import Derived.Deep.RegionWith
import Derived.Defers
import Derived.Lib.FrozenHead
import Derived.Lib.AppendStr
import Derived.RangeFuncNested
import Derived.RangeFuncBound
import Derived.RangeFuncCalls
import Derived.RangeFuncLeaves
import Derived.RangeFuncBox
import Derived.Shelf.Abstract
import Derived.OwnWalkIn
import Derived.TacticsInMore
import Derived.LoopNIn
import Derived.LoopIn
import Derived.Lib.Strings
import Derived.StillTail
import Derived.Deep.RegionHeld3
import Derived.Deep.Fields
import Derived.ChangeShapes
import Derived.WideShapes
set_option linter.unusedSimpArgs false
set_option linter.unusedVariables false
namespace Go.Proofs.YtaiofjffoboicaaDoor
open Go.RowKit
def bstr (l : List UInt8) : Value:=.string ⟨l.toArray⟩
theorem ret_int {k : IntKind} {a b : Int} (h : a = b) : Ending.returned (.int k a) = .returned (.int k b):=by rw [h]
theorem ret_bool {a b : Bool} (h : a = b) : Ending.returned (.bool a) = .returned (.bool b):=by rw [h]
theorem ret_str {a : ByteArray} {l : List UInt8} (h : a.data.toList = l) : Ending.returned (.string a) = .returned (bstr l):=by
  subst h;rfl
theorem vstr {a : ByteArray} {l : List UInt8} (h : a.data.toList = l) : Value.string a = bstr l:=by
  subst h;rfl
theorem bt {w a b : World} (h : Below w.heap.size w a) (k : Below a.heap.size a b) : Below w.heap.size w b:=h.trans (k.mono h.size)
theorem one_byte {P : Program} {src dst e : TypeId} (hs : P.underlying src = some (.slice e)) (he : P.underlying e = some (.int .u8)) (hd : P.underlying dst = some .string) (x : Int) (w : World) :
    (convert src dst (.slice (some ⟨w.heap.size,0,none⟩) 1 1)).run P (w.alloc (.cells #[.int .u8 x] e)) = .ok (.string ⟨#[UInt8.ofNat x.toNat]⟩) (w.alloc (.cells #[.int .u8 x] e)):=by
  rw [run_convert_bytes_string _ src dst e _ _ _ hs he hd]
  have:=run_bytesToString (P:=P) (w.alloc (.cells #[.int .u8 x] e)) ⟨w.heap.size,0,none⟩ 1 1 [x] (by
    have hl:=run_loadCells_list (P:=P) (w.alloc (.cells #[.int .u8 x] e)) ⟨w.heap.size,0,none⟩ [.int .u8 x] (fun j v hj => by
      have hj0 : j = 0:=by
        have:=(List.getElem?_eq_some_iff.1 hj).1
        simpa using this
      subst hj0
      simp at hj;subst hj
      simp [Addr.add])
    simpa using hl)
  rw [this]
  simp
  rfl
theorem byte_at {P : Program} {src dst e : TypeId} (hs : P.underlying src = some (.slice e)) (he : P.underlying e = some (.int .u8)) (hd : P.underlying dst = some .string) (b : Nat) (x : Int) (w : World) (hc : w.cell? ⟨b,0,none⟩ = some (.int .u8 x)) :
    (convert src dst (.slice (some ⟨b,0,none⟩) 1 1)).run P w = .ok (.string ⟨#[UInt8.ofNat x.toNat]⟩) w:=by
  rw [run_convert_bytes_string _ src dst e _ _ _ hs he hd]
  have:=run_bytesToString (P:=P) w ⟨b,0,none⟩ 1 1 [x] (by
    have hl:=run_loadCells_list (P:=P) w ⟨b,0,none⟩ [.int .u8 x] (fun j v hj => by
      have hj0 : j = 0:=by
        have:=(List.getElem?_eq_some_iff.1 hj).1
        simpa using this
      subst hj0
      simp at hj;subst hj
      simpa [Addr.add] using hc)
    simpa using hl)
  rw [this]
  simp
  rfl
theorem bytes_of {P : Program} {src dst e : TypeId} (hs : P.underlying src = some .string) (hd : P.underlying dst = some (.slice e)) (he : P.underlying e = some (.int .u8)) (t : ByteArray) (w : World) :
    ∃ cap W1,(convert src dst (.string t)).run P w = .ok (.slice (some ⟨w.heap.size,0,none⟩) t.size cap) W1 ∧ W1.heap.size = w.heap.size + 1 ∧
      (∀ i (h : i < t.size),W1.cell? ⟨w.heap.size,i,none⟩ = some (.int .u8 (t[i].toNat : Int))) ∧ Below w.heap.size w W1:=by
  refine ⟨_,_,run_bytes_of_string w src dst e t hs hd he,?_,?_,(((Below.refl _ _).drew).alloc (by simp) _)⟩
  · simp
  · intro i h
    have:=Lib.bytesWorld_cell w e t i h
    have h1:=run_bytes_of_string (P:=P) w src dst e t hs hd he
    have h2:=Lib.run_convert_string_bytes (P:=P) w src dst e t hs hd he
    rw [h1] at h2
    rw [(Result.ok.inj h2).2,this]
    simp [List.getD,h]
    rfl
def Calm (w w' : World) : Prop:=Below w.heap.size w w'
theorem Calm.refl (w : World) : Calm w w:=Below.refl _ _
@[go_sem] theorem calm_const {w : World} {p : Prop} : (∀ w',Calm w w' → p) = p:=propext ⟨fun h => h w (Calm.refl w),fun h _ _ => h⟩
end Go.Proofs.YtaiofjffoboicaaDoor
namespace Go.Proofs.YtaiofjffoboicaaDoor
open Go.RowKit
def blk (w : World) (b : Nat) : Option (Array Value) :=
  match w.heap[b]? with
  | some (.cells c _ (0,0)) => some c
  | _ => none
theorem blk_of {w : World} {b : Nat} {c : Array Value} {t : TypeId} (h : w.heap[b]? = some (.cells c t (0,0))) : blk w b = some c:=by simp [blk,h]
theorem blk_cell {w : World} {b : Nat} {c : Array Value} (h : blk w b = some c) (i : Nat) : w.cell? ⟨b,i,none⟩ = c[i]?:=by
  unfold blk at h
  split at h
  · rename_i c' _ hc;cases h;simp [World.cell?,hc]
  · cases h
theorem blk_frozen {w : World} {b : Nat} {c : Array Value} (h : blk w b = some c) (i : Nat) : w.frozen? ⟨b,i,none⟩ = false:=by
  unfold blk at h
  split at h
  · rename_i c' _ hc;cases h;simp [World.frozen?,hc]
  · cases h
theorem blk_lt {w : World} {b : Nat} {c : Array Value} (h : blk w b = some c) : b < w.heap.size:=by
  unfold blk at h
  split at h
  · rename_i c' _ hc;exact (Array.getElem?_eq_some_iff.1 hc).1
  · cases h
theorem blk_kept {w w' : World} {b : Nat} (h : w'.heap[b]? = w.heap[b]?) : blk w' b = blk w b:=by unfold blk;rw [h]
theorem blk_below {w w' : World} {b : Nat} {c : Array Value} (hb : Below w.heap.size w w') (h : blk w b = some c) : blk w' b = some c:=(blk_kept (hb.block b (blk_lt h))).trans h
theorem blk_alloc_new (w : World) (c : Array Value) (t : TypeId) {n : Nat} (hn : n = w.heap.size) : blk (w.alloc (.cells c t)) n = some c:=by subst hn;exact blk_of (heap_alloc_new w _)
theorem blk_alloc {w : World} {b : Nat} {c : Array Value} (h : blk w b = some c) (o : Obj) : blk (w.alloc o) b = some c:=(blk_kept (Below.heap_alloc w o b (blk_lt h))).trans h
theorem blk_drew {w : World} {b : Nat} {c : Array Value} (h : blk w b = some c) : blk w.drew b = some c:=h
theorem blk_other {w : World} {b : Nat} {c : Array Value} {a : Addr} {v : Value} (h : blk w b = some c) (hne : b ≠ a.block) : blk (w.setCell a v) b = some c:=(blk_kept (Below.heap_setCell w a v b hne)).trans h
theorem blk_set {w : World} {b i : Nat} {c : Array Value} {v : Value} (h : blk w b = some c) : blk (w.setCell ⟨b,i,none⟩ v) b = some (c.setIfInBounds i v):=by
  unfold blk at h
  split at h
  · rename_i c' t hc
    cases h
    obtain ⟨hlt,hk⟩:=Array.getElem?_eq_some_iff.1 hc
    have : (w.setCell ⟨b,i,none⟩ v).heap[b]? = some (.cells (c.setIfInBounds i v) t (0,0)):=by
      show (w.heap.modify b _)[b]? = _
      rw [Array.getElem?_eq_getElem (by rw [Array.size_modify];exact hlt),Array.getElem_modify_self,hk]
      rfl
    exact blk_of this
  · cases h
theorem kn {w : World} {b : Nat} {c : Array Value} (h : blk w b = some c) : (∀ o,w.cell? ⟨b,o,none⟩ = c[o]?) ∧ (∀ o,w.frozen? ⟨b,o,none⟩ = false) ∧ b < w.heap.size ∧ b ≠ w.heap.size ∧ w.heap.size ≠ b :=
  ⟨blk_cell h,blk_frozen h,blk_lt h,Nat.ne_of_lt (blk_lt h),(Nat.ne_of_lt (blk_lt h)).symm⟩
theorem ret_blk {P : Program} {fn : Func} {R : Ending → World → Prop} {a : Act} {W : World} {b : Nat} {c : Array Value} {v : Value} (hb : blk W b = some c)
    (hres : ∀ W' : World,(∀ i,W'.cell? ⟨b,i,none⟩ = c[i]?) → (results fn a.tmps).run P W' = .ok v W') (hd : a.defers = []) (hR : R (.returned v) W) : bodyPost P fn R .ret a W :=
  bodyPost_ret (v:=v) (hres W fun i => blk_cell hb i) hd hR
theorem bcell {W w1 : World} (hb : Below W.heap.size W w1) : (∀ b o,b < W.heap.size → w1.cell? ⟨b,o,none⟩ = W.cell? ⟨b,o,none⟩) ∧ (∀ b o,b < W.heap.size → w1.frozen? ⟨b,o,none⟩ = W.frozen? ⟨b,o,none⟩) :=
  ⟨fun b o h => hb.cell (p:=⟨b,o,none⟩) h,fun b o h => hb.frozen (p:=⟨b,o,none⟩) h⟩
theorem blk_other' {w : World} {b : Nat} {c : Array Value} {a : Addr} {v : Value} (hne : b ≠ a.block) (h : blk w b = some c) : blk (w.setCell a v) b = some c:=blk_other h hne
theorem blk_to {w : World} {b : Nat} {c c' : Array Value} (h : blk w b = some c') (e : c' = c) : blk w b = some c:=e ▸ h
theorem bset' {B : Nat} {w W : World} {p : Addr} {v : Value} (hp : B ≤ p.block) (h : Below B w W) : Below B w (W.setCell p v):=h.setCell hp v
theorem belt_alloc {w W : World} {o : Obj} (h : Below w.heap.size w W) : Below w.heap.size w (W.alloc o):=h.alloc h.size o
theorem beld_drew {B : Nat} {w W : World} (h : Below B w W) : Below B w W.drew:=h.drew
theorem bta {w a : World} {o : Obj} (h : Below (w.alloc o).heap.size (w.alloc o) a) : Below w.heap.size w a:=((Below.refl _ _).alloc (Nat.le_refl _) o).trans (h.mono (by simp))
abbrev jt:=@blk_to
abbrev jd:=@blk_drew
abbrev js:=@blk_set
abbrev jo:=@blk_other'
abbrev jn:=@blk_alloc_new
abbrev ja:=@blk_alloc
abbrev jb:=@blk_below
abbrev je:=@beld_drew
abbrev jl:=@belt_alloc
abbrev jp:=@bset'
end Go.Proofs.YtaiofjffoboicaaDoor
namespace Go.Proofs.YtaiofjffoboicaaDoor
open Go.RowKit
def Free (cur : Array Value) (fz : Nat × Nat) : Prop:=∀ i,i < cur.size → ¬ (fz.1 ≤ i ∧ i < fz.2)
def OwnsB (w : World) (base : Nat) (e : TypeId) (v : Value) (g : Nat) (l : List UInt8) : Prop :=
  ∃ cap cur fz,v = .slice (some ⟨g,0,none⟩) l.length cap ∧ base ≤ g ∧ w.heap[g]? = some (.cells cur e fz) ∧ Free cur fz ∧ l.length ≤ cap ∧ cap ≤ maxLen ∧ cur.size = cap ∧
    cur.toList.take l.length = l.map fun b => Value.int .u8 b.toNat
theorem OwnsB.lt {w : World} {base : Nat} {e : TypeId} {v : Value} {g : Nat} {l : List UInt8} (h : OwnsB w base e v g l) : g < w.heap.size:=by
  obtain ⟨cap,cur,fz,_,_,hg,_⟩:=h
  exact (Array.getElem?_eq_some_iff.1 hg).1
theorem OwnsB.kept {w w' : World} {base : Nat} {e : TypeId} {v : Value} {g : Nat} {l : List UInt8} (h : OwnsB w base e v g l) (hk : w'.heap[g]? = w.heap[g]?) : OwnsB w' base e v g l:=by
  obtain ⟨cap,cur,fz,h1,h2,hg,h3⟩:=h
  exact ⟨cap,cur,fz,h1,h2,hk.trans hg,h3⟩
theorem OwnsB.below {w w' : World} {base : Nat} {e : TypeId} {v : Value} {g : Nat} {l : List UInt8} (h : OwnsB w base e v g l) (hb : Below w.heap.size w w') : OwnsB w' base e v g l:=h.kept (hb.block g h.lt)
theorem OwnsB.cell {w : World} {base : Nat} {e : TypeId} {v : Value} {g : Nat} {l : List UInt8} (h : OwnsB w base e v g l) (j : Nat) (hj : j < l.length) : w.cell? ⟨g,j,none⟩ = some (.int .u8 (l[j].toNat : Int)):=by
  obtain ⟨cap,cur,fz,h1,h2,hg,h3,h4,h5,h6,h7⟩:=h
  have h8 : (cur.toList.take l.length)[j]? = some (.int .u8 (l[j].toNat : Int)):=by rw [h7];simp [hj]
  rw [List.getElem?_take_of_lt hj,Array.getElem?_toList] at h8
  simp [World.cell?,hg,h8]
end Go.Proofs.YtaiofjffoboicaaDoor
namespace Go.Proofs.YtaiofjffoboicaaDoor
open Go.RowKit
structure Spares (B Bn : Nat) (W W' : World) : Prop where
  os : W'.os = W.os
  tape : W'.tape = W.tape
  output : W'.output = W.output
  size : W.heap.size ≤ W'.heap.size
  block : ∀ k,k < B → k ≠ Bn → W'.heap[k]? = W.heap[k]?
theorem Spares.alloc {B Bn : Nat} {W : World} (h : B ≤ W.heap.size) (o : Obj) : Spares B Bn W (W.alloc o) :=
  ⟨rfl,rfl,rfl,by simp,fun k hk _ => Below.heap_alloc W o k (by omega)⟩
theorem Spares.putObj {B Bn : Nat} {W : World} {l : Nat} (h : B ≤ l) (o : Obj) : Spares B Bn W (W.putObj l o) :=
  ⟨rfl,rfl,rfl,by simp,fun k hk _ => World.putObj_heap_other (by omega)⟩
theorem Spares.setCell {B : Nat} {W : World} (a : Addr) (x : Value) : Spares B a.block W (W.setCell a x) :=
  ⟨rfl,rfl,rfl,(KeepsWalks.setCell W a x).size,fun k _ hk => Below.heap_setCell W a x k hk⟩
theorem Spares.below {B Bn n₀ : Nat} {w W W' : World} (h : Spares B Bn W W') (hb : Below n₀ w W) (h1 : n₀ ≤ B) (h2 : n₀ ≤ Bn) : Below n₀ w W' :=
  ⟨h.os.trans hb.os,h.tape.trans hb.tape,h.output.trans hb.output,Nat.le_trans hb.size h.size,fun k hk => (h.block k (by omega) (by omega)).trans (hb.block k hk)⟩
theorem Spares.boxed {B Bn b : Nat} {t : TypeId} {v : Value} {W W' : World} (h : Spares B Bn W W') (hb : Boxed W b t v) (h1 : b < B) (h2 : b ≠ Bn) : Boxed W' b t v:=(h.block b h1 h2).trans hb
variable {F : Fence} {n : Nat} {P : Program}
theorem rangeFunc_rounds {g : Operand} {ps : Array Tmp} {assign body : Code} {Q : Exit → Act → World → Prop} {a : Act} {w : World}
    (hro : F.round = none) (h1 : 1 ≤ n) {gf : Nat} {lb : Array Value} (hg : a.eval g = .func (.func gf) #[] lb) (hFg : F.fn gf) (eg : ∀ args w,(callFunc gf args).run P w = .ok (.enter gf args) w)
    (encs : Nat → Array Value) (hps : ∀ k,(encs k).size = ps.size) (N Bn : Nat) (hBn : Bn < w.heap.size)
    (I : Nat → World → Prop) (hI : ∀ k W W',I k W → Spares w.heap.size Bn W W' → I k W') (h0 : I 0 w)
    (hseq : ∀ (l : Nat) (J : Nat → World → Prop) (W : World),(∀ k W x,J k W → J k (W.setCell ⟨Bn,0,none⟩ x)) →
      (∀ k W1,J k W1 → k < N → YieldAt F (n - 1 - 1) P l (encs k) W1 fun e W' => e = .returned (.bool true) ∧ J (k + 1) W' ∧ W'.heap[Bn]? = W1.heap[Bn]?) →
      J 0 W → W.heap[Bn]? = w.heap[Bn]? → CallsIn F (n - 1) P gf (#[.func (.yield l) #[] #[]] ++ lb) W fun e W' => (∃ v,e = .returned v) ∧ J N W')
    (a₁ : Nat → Act)
    (hassign : ∀ (l k : Nat) (W : World) (K : Act → World → Prop),K (a₁ k) W →
      assign.wpIn (F.inRound l) (n - 1 - 1) P (Exit.then K (fun _ _ _ => False)) { tmps:=(ps.zip (encs k)).foldl (fun t (p,v) => t.setIfInBounds p v) a.tmps,defers:=[] } W)
    (hbody : ∀ (l k : Nat) (W : World),I k W → k < N → body.wpIn (F.inRound l) (n - 1 - 1) P (Exit.then (fun _ W' => KeepsOthers W W' ∧ W'.heap[Bn]? = W.heap[Bn]? ∧ I (k + 1) W') (fun _ _ _ => False)) (a₁ k) W)
    (hdone : ∀ (D : Nat) (W : World),w.heap.size ≤ D → I N W → W.heap[D]? = some (.deferred (some [])) → Q .normal { a with defers:={ target:=.collected D,args:=#[] } :: a.defers } W) :
    (Code.rangeFunc g ps assign body).wpIn F n P Q a w:=by
  refine wpIn_rangeFunc ?_
  intro fn hfn
  rw [hro]
  obtain ⟨rec,hrec⟩ : ∃ rec : LoopState → Option Code → Loop,rec = fun st pe => { state:=st,pending:=pe,fn,tmps:=a.tmps,params:=ps,assign,body,defers:=w.heap.size }:=⟨_,rfl⟩
  obtain ⟨W1,hW1⟩ : ∃ W1,(w.alloc (.deferred (some []))).alloc (.loop (rec .ready none)) = W1:=⟨_,rfl⟩
  have hL1 : W1.heap[w.heap.size + 1]? = some (.loop (rec .ready none)):=by
    rw [← hW1];have:=World.alloc_heap_new (w.alloc (.deferred (some []))) (.loop (rec .ready none));rwa [World.size_alloc] at this
  have hK1 : W1.heap[w.heap.size]? = some (.deferred (some [])):=by
    rw [← hW1];exact (Below.heap_alloc _ _ _ (by simp)).trans (World.alloc_heap_new w _)
  have hI1 : I 0 W1:=by rw [← hW1];exact hI _ _ _ (hI _ _ _ h0 (Spares.alloc (Nat.le_refl _) _)) (Spares.alloc (by simp) _)
  have hB1 : W1.heap[Bn]? = w.heap[Bn]?:=by
    rw [← hW1];exact (Below.heap_alloc _ _ _ (by simp;omega)).trans (Below.heap_alloc _ _ _ hBn)
  refine ⟨w.heap.size + 1,[{ target:=.collected w.heap.size,args:=#[] }],W1,{ target:=.fn (.func gf) lb,args:=#[.func (.yield (w.heap.size + 1)) #[] #[]] },W1,gf,
    #[.func (.yield (w.heap.size + 1)) #[] #[]] ++ lb,W1,?_,?_,?_,?_,fun _ => h1,?_⟩
  · rw [← hW1,hrec];exact run_enterLoop_outer _ _ _ _ _
  · simp only [resolve,hg]
    simp [go_sem]
  · intro f' hf';simp [Target.leads] at hf';subst hf';exact hFg
  · simp [invoke,go_sem,eg]
  · refine (hseq (w.heap.size + 1)
      (fun k W => I k W ∧ W.heap[w.heap.size + 1]? = some (.loop (rec .ready none)) ∧ W.heap[w.heap.size]? = some (.deferred (some [])))
      W1 ?_ ?_ ⟨hI1,hL1,hK1⟩ hB1).mono ?_
    · rintro k W x ⟨hi,hl,hk⟩
      exact ⟨hI _ _ _ hi (Spares.setCell ⟨Bn,0,none⟩ x),(Below.heap_setCell W ⟨Bn,0,none⟩ x _ (by show _ ≠ Bn;omega)).trans hl,(Below.heap_setCell W ⟨Bn,0,none⟩ x _ (by show _ ≠ Bn;omega)).trans hk⟩
    · rintro k W ⟨hi,hl,hk⟩ hlen
      have hlt : w.heap.size + 1 < W.heap.size:=(Array.getElem?_eq_some_iff.1 hl).1
      have hy:=run_yield (P:=P) (args:=encs k) hl (by rw [hrec];exact hps k)
      rw [hrec] at hy
      refine ⟨fn,_,assign,body,hy,roundIn_of_wpIn hfn (hassign _ k W _ ⟨_,run_beginRound hl (by rw [hrec]),?_⟩)⟩
      have hl2 : (W.putObj (w.heap.size + 1) (.loop { rec .ready none with state:=.busy })).heap[w.heap.size + 1]? = some (.loop { rec .ready none with state:=.busy }):=World.putObj_heap_same hlt
      have hk2 : (W.putObj (w.heap.size + 1) (.loop { rec .ready none with state:=.busy })).heap[w.heap.size]? = some (.deferred (some [])):=(World.putObj_heap_other (by omega)).trans hk
      refine wpIn_mono (hbody _ k _ (hI _ _ _ hi (Spares.putObj (by omega) _)) hlen) ?_
      rintro e a3 W3 hp
      cases e with
      | normal =>
        obtain ⟨hk3,hb3,hi3⟩:=hp
        have hl3:=hk3.same _ _ hl2 rfl
        have hd3:=hk3.same _ _ hk2 rfl
        have hend:=run_endRound (P:=P) none hl3
        rw [hrec] at hend hl3
        refine ⟨_,_,hend,rfl,⟨hI _ _ _ hi3 (Spares.putObj (by omega) _),?_,(World.putObj_heap_other (by omega)).trans hd3⟩,?_⟩
        · rw [hrec];exact World.putObj_heap_same (Array.getElem?_eq_some_iff.1 hl3).1
        · exact (World.putObj_heap_other (by omega)).trans (hb3.trans (World.putObj_heap_other (by omega)))
      | ret => exact hp.elim
      | exit id => exact hp.elim
      | goto t => exact hp.elim
      | panic ch => exact hp.elim
      | outgrown => exact hp.elim
    · rintro e W2 ⟨⟨v,rfl⟩,hi,hl,hk⟩
      exact ⟨none,_,by have:=run_endLoop (P:=P) hl (by rw [hrec];simp);rw [hrec] at this;exact this,hdone _ _ (Nat.le_refl _) (hI _ _ _ hi (Spares.putObj (by omega) _)) ((World.putObj_heap_other (by omega)).trans hk)⟩
end Go.Proofs.YtaiofjffoboicaaDoor
namespace Go.Proofs.YtaiofjffoboicaaDoor
def hi : Nat → Nat → List UInt8
  | 0,_ => []
  | k + 1,n => if n = 0 then [] else hi k (n / 128) ++ [UInt8.ofNat (128 + n % 128)]
def putN (n : Nat) : List UInt8:=hi 10 (n / 128) ++ [UInt8.ofNat (n % 128)]
theorem hi_zero (k : Nat) : hi k 0 = []:=by cases k <;> simp [hi]
theorem hi_length (k n : Nat) : (hi k n).length ≤ k:=by
  induction k generalizing n with
  | zero => simp [hi]
  | succ k ih =>
    unfold hi;split
    · simp
    · have:=ih (n / 128);simp;omega
theorem hi_fuel (k j n : Nat) (h : n < 128 ^ k) (h' : n < 128 ^ j) : hi k n = hi j n:=by
  induction k generalizing j n with
  | zero => simp at h;subst h;simp [hi_zero]
  | succ k ih =>
    cases j with
    | zero => simp at h';subst h';simp [hi_zero]
    | succ j =>
      unfold hi
      split
      · rfl
      · rw [ih j (n / 128) (by rw [Nat.div_lt_iff_lt_mul (by omega)];rw [Nat.pow_succ] at h;exact h) (by rw [Nat.div_lt_iff_lt_mul (by omega)];rw [Nat.pow_succ] at h';exact h')]
theorem hi_step (k n : Nat) (h : n ≠ 0) (hk : n < 128 ^ k) : hi k n = hi k (n / 128) ++ [UInt8.ofNat (128 + n % 128)]:=by
  cases k with
  | zero => simp at hk;omega
  | succ k =>
    rw [hi_fuel (k + 1) (k + 2) n hk (Nat.lt_of_lt_of_le hk (Nat.pow_le_pow_right (by omega) (by omega)))]
    rw [hi]
    simp [h]
theorem putN_length (n : Nat) : 1 ≤ (putN n).length ∧ (putN n).length ≤ 11:=by
  unfold putN;have:=hi_length 10 (n / 128);simp;omega
def getGo : List UInt8 → Nat → Bool → Nat → Nat × Nat × Nat
  | [],p,_,_ => (0,p,11)
  | b :: r,p,f,n =>
    if f = true ∧ b.toNat = 128 then (0,p,3)
    else if 144115188075855872 ≤ n then (0,p,2)
    else if b.toNat < 128 then (n * 128 + b.toNat % 128,p + 1,0)
    else getGo r (p + 1) false (n * 128 + b.toNat % 128)
def getN (s : List UInt8) (at_ : Int) : Nat × Nat × Nat :=
  if at_ < 0 ∨ at_ > s.length then (0,0,2) else getGo (s.drop at_.toNat) at_.toNat true 0
theorem getGo_hi (k m : Nat) (rest : List UInt8) (p : Nat) (hm : m < 128 ^ k) (h57 : m < 144115188075855872 * 128) (hm0 : m ≠ 0) :
    getGo (hi k m ++ rest) p true 0 = getGo rest (p + (hi k m).length) false m:=by
  induction k generalizing m rest with
  | zero => simp at hm;omega
  | succ k ih =>
    have hs : hi (k + 1) m = hi k (m / 128) ++ [UInt8.ofNat (128 + m % 128)]:=by rw [hi];simp [hm0]
    have hb : (UInt8.ofNat (128 + m % 128)).toNat = 128 + m % 128:=by rw [UInt8.toNat_ofNat'];omega
    rw [hs,List.append_assoc]
    by_cases hz : m / 128 = 0
    · rw [hz,hi_zero]
      simp only [List.nil_append,List.singleton_append,List.length_singleton]
      rw [getGo,hb]
      rw [if_neg (by simp;omega),if_neg (by omega),if_neg (by omega)]
      congr 1;omega
    · rw [ih (m / 128) _ (by rw [Nat.div_lt_iff_lt_mul (by omega)];rw [Nat.pow_succ] at hm;exact hm) (by omega) hz]
      simp only [List.singleton_append,List.length_append,List.length_singleton]
      rw [getGo,hb]
      rw [if_neg (by simp),if_neg (by omega),if_neg (by omega)]
      congr 1;omega
theorem getGo_put (n : Nat) (rest : List UInt8) (p : Nat) (hn : n < 18446744073709551616) :
    getGo (putN n ++ rest) p true 0 = (n,p + (putN n).length,0):=by
  unfold putN
  have hb : (UInt8.ofNat (n % 128)).toNat = n % 128:=by rw [UInt8.toNat_ofNat'];omega
  by_cases hz : n / 128 = 0
  · rw [hz,hi_zero]
    simp only [List.nil_append,List.singleton_append,List.length_singleton]
    rw [getGo,hb,if_neg (by omega),if_neg (by omega),if_pos (by omega)]
    simp only [Prod.mk.injEq,and_true];omega
  · rw [List.append_assoc,getGo_hi 10 (n / 128) _ p (by omega) (by omega) hz]
    simp only [List.singleton_append,List.length_append,List.length_singleton]
    rw [getGo,hb,if_neg (by simp),if_neg (by omega),if_pos (by omega)]
    simp only [Prod.mk.injEq,and_true];omega
theorem getGo_only_false (l : List UInt8) (p m n q : Nat) (hm0 : m ≠ 0) (hm : m < 18446744073709551616) (h : getGo l p false m = (n,q,0)) :
    ∃ k,q = p + k ∧ k ≤ l.length ∧ n < 18446744073709551616 ∧ hi 10 m ++ l.take k = putN n:=by
  induction l generalizing p m with
  | nil => simp [getGo] at h
  | cons b r ih =>
    rw [getGo,if_neg (by simp)] at h
    by_cases h1 : 144115188075855872 ≤ m
    · rw [if_pos h1] at h;simp at h
    · rw [if_neg h1] at h
      have hbb : b.toNat < 256:=b.toNat_lt
      by_cases h2 : b.toNat < 128
      · rw [if_pos h2] at h
        simp only [Prod.mk.injEq,and_true] at h
        obtain ⟨rfl,rfl⟩:=h
        refine ⟨1,rfl,by simp,by omega,?_⟩
        unfold putN
        have e1 : (m * 128 + b.toNat % 128) / 128 = m:=by omega
        have e2 : (m * 128 + b.toNat % 128) % 128 = b.toNat:=by omega
        rw [e1,e2];simp
      · rw [if_neg h2] at h
        obtain ⟨k,hq,hk,hn,he⟩:=ih (p + 1) _ (by omega) (by omega) h
        refine ⟨k + 1,by omega,by simp;omega,hn,?_⟩
        rw [← he,hi_step 10 (m * 128 + b.toNat % 128) (by omega) (by omega)]
        have e1 : (m * 128 + b.toNat % 128) / 128 = m:=by omega
        have e2 : 128 + (m * 128 + b.toNat % 128) % 128 = b.toNat:=by omega
        rw [e1,e2];simp
theorem getGo_only (l : List UInt8) (p n q : Nat) (h : getGo l p true 0 = (n,q,0)) :
    ∃ k,q = p + k ∧ k ≤ l.length ∧ n < 18446744073709551616 ∧ l.take k = putN n:=by
  cases l with
  | nil => simp [getGo] at h
  | cons b r =>
    have hbb : b.toNat < 256:=b.toNat_lt
    rw [getGo] at h
    by_cases h0 : b.toNat = 128
    · rw [if_pos ⟨rfl,h0⟩] at h;simp at h
    · rw [if_neg (by simp [h0]),if_neg (by omega)] at h
      by_cases h2 : b.toNat < 128
      · rw [if_pos h2] at h
        simp only [Prod.mk.injEq,and_true] at h
        obtain ⟨rfl,rfl⟩:=h
        refine ⟨1,rfl,by simp,by omega,?_⟩
        unfold putN
        have e1 : (0 * 128 + b.toNat % 128) / 128 = 0:=by omega
        have e2 : (0 * 128 + b.toNat % 128) % 128 = b.toNat:=by omega
        rw [e1,e2,hi_zero];simp
      · rw [if_neg h2] at h
        obtain ⟨k,hq,hk,hn,he⟩:=getGo_only_false r (p + 1) _ n q (by omega) (by omega) h
        refine ⟨k + 1,by omega,by simp;omega,hn,?_⟩
        rw [← he]
        have e0 : hi 10 (0 * 128 + b.toNat % 128) = [b]:=by
          rw [hi_step 10 _ (by omega) (by omega)]
          have e1 : (0 * 128 + b.toNat % 128) / 128 = 0:=by omega
          have e2 : 128 + (0 * 128 + b.toNat % 128) % 128 = b.toNat:=by omega
          rw [e1,e2,hi_zero];simp
        rw [e0];rfl
theorem getGo_bound (l : List UInt8) (p : Nat) (f : Bool) (m : Nat) (hm : m < 18446744073709551616) :
    (getGo l p f m).1 < 18446744073709551616 ∧ p ≤ (getGo l p f m).2.1 ∧ (getGo l p f m).2.1 ≤ p + l.length ∧ ((getGo l p f m).2.2 = 0 ∨ ((getGo l p f m).1 = 0 ∧ ((getGo l p f m).2.2 = 2 ∨ (getGo l p f m).2.2 = 3 ∨ (getGo l p f m).2.2 = 11))):=by
  induction l generalizing p f m with
  | nil => simp [getGo]
  | cons b r ih =>
    have hbb : b.toNat < 256:=b.toNat_lt
    rw [getGo]
    split
    · simp
    · split
      · simp
      · split
        · simp;omega
        · have:=ih (p + 1) false (m * 128 + b.toNat % 128) (by omega)
          simp only [List.length_cons]
          refine ⟨this.1,?_,?_,this.2.2.2⟩ <;> omega
theorem ofNat_toNat (n : Nat) (h : n < 256) : (UInt8.ofNat n).toNat = n:=by rw [UInt8.toNat_ofNat'];omega
end Go.Proofs.YtaiofjffoboicaaDoor
namespace Go.Proofs.YtaiofjffoboicaaDoor
open Go.RowKit
theorem size_start (n : Nat) : 1 + (hi 10 (n / 128)).length = (putN n).length:=by unfold putN;simp;omega
end Go.Proofs.YtaiofjffoboicaaDoor
namespace Go.Proofs.YtaiofjffoboicaaDoor
open Go.RowKit
attribute [local go_sem] Oper.semAt_some
def lead (n k : Nat) : Nat:=n / 128 ^ k
theorem lead_succ (n k : Nat) : lead n (k + 1) = lead n k / 128:=by unfold lead;rw [Nat.pow_succ,Nat.div_div_eq_div_mul]
theorem lead_zero (n : Nat) : lead n 0 = n:=by simp [lead]
theorem lead_le (n k : Nat) : lead n k ≤ n:=Nat.div_le_self _ _
theorem hi_len_lead (n k : Nat) (hn : n < 18446744073709551616) (hk : k + (hi 10 (lead n k / 128)).length + 1 = (putN n).length) (h : 128 ≤ lead n k) :
    k + 1 + (hi 10 (lead n (k + 1) / 128)).length + 1 = (putN n).length:=by
  have:=lead_le n k
  rw [hi_step 10 (lead n k / 128) (by omega) (by omega)] at hk
  rw [lead_succ];simp at hk;omega
def encs (n k : Nat) : Array Value:=#[.int .i64 k,.int .u8 ((lead n k : Int) % 128)]
set_option maxRecDepth 100000 in
set_option maxHeartbeats 1000000 in
theorem groups1_in (F : Fence) (n : Nat) (hf : F.fn 111) (hro : F.round = none) (hn : 1 ≤ n) (Bn x : Nat) (hx : (x : Int) ≤ 18446744073709551615) (l : Nat) (J : Nat → World → Prop) (W : World)
    (hJ : ∀ k W v,J k W → J k (W.setCell ⟨Bn,0,none⟩ v))
    (hY : ∀ k W1,J k W1 → k < (putN x).length → YieldAt F (n - 1) Tryd.prog l (encs x k) W1 fun e W' => e = .returned (.bool true) ∧ J (k + 1) W' ∧ W'.heap[Bn]? = W1.heap[Bn]?)
    (h0 : J 0 W) (hB : Boxed W Bn 23 (.int .u64 x)) :
    CallsIn F n Tryd.prog 111 (#[.func (.yield l) #[] #[]] ++ #[.pointer (some ⟨Bn,0,none⟩)]) W fun e W' => (∃ v,e = .returned v) ∧ J (putN x).length W':=by
  have hlen:=putN_length x
  refine callsIn_of_wp Tryd.func111 rfl hf ?_ hro
  simp only [Tryd.ntmps111,List.size_toArray,List.length_cons,List.length_nil,Nat.reduceAdd,Nat.reduceSub,Array.replicate_succ,Array.replicate_zero,List.push_toArray,List.append_toArray,List.nil_append,List.cons_append]
  gi_wp2
  gi_loopw [3] (fun i wr => ∃ k : Nat,i = .int .i64 k ∧ k + (hi 10 (lead x k / 128)).length + 1 = (putN x).length ∧ J k wr ∧ Boxed wr Bn 23 (.int .u64 (lead x k)))
    (fun i _ => 11 - (intOf i).toNat)
  case atStart => exact ⟨0,rfl,by rw [lead_zero];have:=size_start x;omega,h0,by rw [lead_zero];exact hB⟩
  case round =>
    obtain ⟨k,rfl,hk,hJk,hb⟩:=hrel
    have hkl : k < (putN x).length:=by omega
    have hll:=lead_le x k
    obtain ⟨fn,tmps,assign,body,hy,hR⟩:=hY k wr hJk hkl
    unfold encs at hy
    have hc:=hb.cell
    have hfr:=hb.frozen
    have Hk:=Lib.hid hk;clear hk
    gi_wp2
    refine hR.mono ?_
    rintro e W3 ⟨rfl,hJ3,hB3⟩
    have hb3 : Boxed W3 Bn 23 (.int .u64 (lead x k)):=hB3.trans hb
    clear hc hfr
    have hc:=hb3.cell
    have hfr:=hb3.frozen
    by_cases h128 : 128 ≤ lead x k
    · gi_wp2
      go_roundw
      case rel =>
        refine ⟨k + 1,by go_num,hi_len_lead x k (by omega) Hk.out h128,hJ _ _ _ hJ3,?_⟩
        have:=hb3.set (.int .u64 (lead x (k + 1)))
        rw [lead_succ] at this ⊢
        simpa using this
      case measure => simp [intOf];omega
    · gi_wp2
      go_end0
      refine ⟨⟨_,rfl⟩,?_⟩
      have : k + 1 = (putN x).length:=by have:=Hk.out;rw [show lead x k / 128 = 0 by omega,hi_zero] at this;simpa using this
      rw [← this];exact hJ3
theorem groups_in (F : Fence) (n : Nat) (hf : F.fn 94) (hro : F.round = none) (x : Nat) (w : World) :
    CallsIn F n Tryd.prog 94 #[.int .u64 x] w fun e w' => e = .returned (.func (.func 111) #[] #[.pointer (some ⟨w.heap.size,0,none⟩)]) ∧ w' = w.alloc (.cells #[.int .u64 x] 23):=by
  refine callsIn_of_wp Tryd.func94 rfl hf ?_ hro
  simp only [Tryd.ntmps94,List.size_toArray,List.length_cons,List.length_nil,Nat.reduceAdd,Nat.reduceSub,Array.replicate_succ,Array.replicate_zero,List.push_toArray,List.append_toArray,List.nil_append,List.cons_append]
  gi_wp2
  go_ret
  exact ⟨rfl,rfl⟩
end Go.Proofs.YtaiofjffoboicaaDoor
namespace Go.Proofs.YtaiofjffoboicaaDoor
open Go.RowKit
attribute [local go_sem] Oper.semAt_some
def tl (x : Nat) : Nat → List UInt8
  | 0 => []
  | k + 1 => (if k = 0 then UInt8.ofNat (x % 128) else UInt8.ofNat (128 + lead x k % 128)) :: tl x k
theorem tl_length (x k : Nat) : (tl x k).length = k:=by
  induction k with
  | zero => rfl
  | succ k ih => simp [tl,ih]
theorem tl_put (x k : Nat) (hx : x < 18446744073709551616) (h1 : 1 ≤ k) (hk : k ≤ (putN x).length) : hi 10 (lead x k) ++ tl x k = putN x:=by
  induction k with
  | zero => omega
  | succ k ih =>
    by_cases h0 : k = 0
    · subst h0;simp [tl,lead_succ,lead_zero,putN]
    · have ih:=ih (by omega) (by omega)
      have hl:=lead_le x k
      have hne : lead x k ≠ 0:=by
        intro e
        rw [e,hi_zero,List.nil_append] at ih
        have:=congrArg List.length ih;rw [tl_length] at this;omega
      rw [lead_succ,tl,if_neg h0,← ih,hi_step 10 (lead x k) hne (by omega)]
      simp
theorem tl_all (x : Nat) (hx : x < 18446744073709551616) : tl x (putN x).length = putN x:=by
  have h:=tl_put x (putN x).length hx (putN_length x).1 (Nat.le_refl _)
  have hl:=congrArg List.length h
  rw [List.length_append,tl_length] at hl
  rw [List.length_eq_zero_iff.1 (show (hi 10 (lead x (putN x).length)).length = 0 by omega),List.nil_append] at h
  exact h
theorem putN_length10 (x : Nat) (hx : x < 18446744073709551616) : (putN x).length ≤ 10:=by
  unfold putN;rw [hi_fuel 10 9 (x / 128) (by omega) (by omega)]
  have:=hi_length 9 (x / 128);simp;omega
def formAt (x k : Nat) : Array Value:=(List.replicate (10 - k) (Value.int .u8 0) ++ (tl x k).map (fun b => Value.int .u8 b.toNat)).toArray
theorem formAt_zero (x : Nat) : formAt x 0 = #[.int .u8 0,.int .u8 0,.int .u8 0,.int .u8 0,.int .u8 0,.int .u8 0,.int .u8 0,.int .u8 0,.int .u8 0,.int .u8 0]:=by
  simp [formAt,tl,List.replicate]
theorem formAt_succ (x k : Nat) (hk : k < 10) (v : Int) (hv : v = ((if k = 0 then UInt8.ofNat (x % 128) else UInt8.ofNat (128 + lead x k % 128)).toNat : Nat)) : (formAt x k).setIfInBounds (9 - k) (.int .u8 v) = formAt x (k + 1):=by
  subst hv
  unfold formAt
  rw [List.setIfInBounds_toArray,tl]
  congr 1
  rw [List.set_append_left _ _ (by simp;omega),show 10 - k = (9 - k) + 1 by omega,List.replicate_succ',List.set_append_right _ _ (by simp),show 10 - (k + 1) = 9 - k by omega]
  simp
theorem setRow {W : World} {b i : Nat} {arr : Array Value} {t : TypeId} (v : Value) (h : W.heap[b]? = some (.cells arr t (0,0))) : (W.setCell ⟨b,i,none⟩ v).heap[b]? = some (.cells (arr.setIfInBounds i v) t (0,0)):=by
  obtain ⟨hlt,hk⟩:=Array.getElem?_eq_some_iff.1 h
  show (W.heap.modify b _)[b]? = _
  rw [Array.getElem?_eq_getElem (by rw [Array.size_modify];exact hlt),Array.getElem_modify_self,hk]
  rfl
theorem row_cell {W : World} {b i : Nat} {arr : Array Value} {t : TypeId} {v : Value} (h : W.heap[b]? = some (.cells arr t (0,0))) (hv : arr[i]? = some v) : W.cell? ⟨b,i,none⟩ = some v ∧ W.frozen? ⟨b,i,none⟩ = false:=by
  simp [World.cell?,World.frozen?,h,hv]
theorem formAt_old (x k : Nat) (hk : k < 10) : (formAt x k)[9 - k]? = some (.int .u8 0):=by
  unfold formAt
  rw [List.getElem?_toArray,List.getElem?_append_left (by simp;omega),List.getElem?_replicate,if_pos (by omega)]
theorem formAt_end (x i : Nat) (hx : x < 18446744073709551616) (hi : i < (putN x).length) : (formAt x (putN x).length)[10 - (putN x).length + i]? = some (.int .u8 ((putN x)[i].toNat : Int)):=by
  unfold formAt
  rw [tl_all x hx,List.getElem?_toArray,List.getElem?_append_right (by simp)]
  simp [hi]
set_option maxRecDepth 100000 in
set_option maxHeartbeats 1000000 in
theorem numPut_in (F : Fence) (n : Nat) (hf : F.fn 66) (hg : F.fn 94) (hg1 : F.fn 111) (hro : F.round = none) (hn : 3 ≤ n) (x : Nat) (hx : (x : Int) ≤ 18446744073709551615) (w : World) :
    CallsIn F n Tryd.prog 66 #[.int .u64 x] w fun e w' => e = .returned (bstr (putN x)) ∧ Below w.heap.size w w':=by
  have h1 : 1 ≤ n:=by omega
  have hlen:=putN_length x
  refine callsIn_of_wp_marks Tryd.func66 rfl hf ?_ hro
  simp only [Tryd.ntmps66,List.size_toArray,List.length_cons,List.length_nil,Nat.reduceAdd,Nat.reduceSub,Array.replicate_succ,Array.replicate_zero,List.push_toArray,List.append_toArray,List.nil_append,List.cons_append]
  gi_wp2_with (gi_at_call 94;refine (groups_in F (n - 1) hg hro _ _).mono ?_;rintro e w' ⟨rfl,rfl⟩)
  have hL10 : (putN x).length ≤ 10:=putN_length10 x (by omega)
  obtain ⟨w0,hw0,hz0,hB0,hF0,hA0,hN0⟩ : ∃ w0,w0 = (((w.alloc (Obj.cells #[Value.int IntKind.u8 0,Value.int IntKind.u8 0,Value.int IntKind.u8 0,Value.int IntKind.u8 0,Value.int IntKind.u8 0,Value.int IntKind.u8 0,Value.int IntKind.u8 0,Value.int IntKind.u8 0,Value.int IntKind.u8 0,Value.int IntKind.u8 0] 145)).alloc
          (Obj.cells #[Value.int IntKind.i64 10] 3)).alloc (Obj.cells #[Value.int IntKind.u64 ↑x] 23)) ∧ w0.heap.size = w.heap.size + 3 ∧ Below w.heap.size w w0 ∧
      w0.heap[w.heap.size]? = some (.cells (formAt x 0) 145 (0,0)) ∧ Boxed w0 (w.heap.size + 1) 3 (.int .i64 10) ∧ Boxed w0 (w.heap.size + 2) 23 (.int .u64 x):=by
    refine ⟨_,rfl,by simp,(((Below.refl _ _).alloc (Nat.le_refl _) _).alloc (by simp) _).alloc (by simp;omega) _,?_,?_,?_⟩
    · rw [formAt_zero]
      exact (Below.heap_alloc _ _ _ (by simp;omega)).trans ((Below.heap_alloc _ _ _ (by simp)).trans (World.alloc_heap_new w _))
    · have:=World.alloc_heap_new (w.alloc (Obj.cells #[Value.int IntKind.u8 0,Value.int IntKind.u8 0,Value.int IntKind.u8 0,Value.int IntKind.u8 0,Value.int IntKind.u8 0,Value.int IntKind.u8 0,Value.int IntKind.u8 0,Value.int IntKind.u8 0,Value.int IntKind.u8 0,Value.int IntKind.u8 0] 145)) (Obj.cells #[Value.int IntKind.i64 10] 3)
      rw [World.size_alloc] at this
      exact (Below.heap_alloc _ _ _ (by simp)).trans this
    · have:=World.alloc_heap_new ((w.alloc (Obj.cells #[Value.int IntKind.u8 0,Value.int IntKind.u8 0,Value.int IntKind.u8 0,Value.int IntKind.u8 0,Value.int IntKind.u8 0,Value.int IntKind.u8 0,Value.int IntKind.u8 0,Value.int IntKind.u8 0,Value.int IntKind.u8 0,Value.int IntKind.u8 0] 145)).alloc (Obj.cells #[Value.int IntKind.i64 10] 3)) (Obj.cells #[Value.int IntKind.u64 x] 23)
      rw [World.size_alloc,World.size_alloc] at this
      exact this
  rw [← hw0]
  clear hw0
  refine rangeFunc_rounds hro h1 (gf:=111) (lb:=#[.pointer (some ⟨w.heap.size + 2,0,none⟩)]) rfl hg1 (enters_of Tryd.func111 (by kernel_rfl) rfl)
    (encs x) (fun _ => rfl) (putN x).length (w.heap.size + 2) (by omega)
    (fun k W => (Boxed W (w.heap.size + 1) 3 (.int .i64 (10 - (k : Int))) ∧ W.heap[w.heap.size]? = some (.cells (formAt x k) 145 (0,0))) ∧ Below w.heap.size w W)
    (fun k A B hs hk => ⟨⟨hk.boxed hs.1.1 (by omega) (by omega),(hk.block _ (by omega) (by omega)).trans hs.1.2⟩,hk.below hs.2 (by omega) (by omega)⟩)
    ⟨⟨hA0,hF0⟩,hB0⟩
    (fun l J W hJ hY h0 hB => groups1_in F (n - 1) hg1 hro (by omega) (w.heap.size + 2) x hx l J W hJ hY h0 (hB.trans hN0))
    (fun k => { tmps:=#[.int .u64 x,undef,.string ⟨#[]⟩,.pointer (some ⟨w.heap.size,0,none⟩),.pointer (some ⟨w.heap.size + 1,0,none⟩),.int .i64 k,.int .u8 ((lead x k : Int) % 128),.int .u64 x,.func (.func 111) #[] #[.pointer (some ⟨w.heap.size + 2,0,none⟩)],.int .i64 k,.int .u8 ((lead x k : Int) % 128),undef,undef,undef,undef,undef,undef,undef,undef,undef,undef,undef,undef,undef,undef,undef],defers:=[] }) ?assign ?body ?done
  case assign =>
    intro l k W K hK
    dsimp only [encs]
    gi_wp2
    exact hK
  case body =>
    rintro l k W ⟨⟨hb,hr⟩,hB⟩ hlt
    obtain ⟨hrc,hrf⟩:=row_cell hr (formAt_old x k (by omega))
    rw [show 9 - k = 10 - k - 1 by omega] at hrc hrf
    have hc:=hb.cell
    have hfr:=hb.frozen
    have hor : bits .or .u8 ((lead x k : Int) % 128) 128 = (lead x k : Int) % 128 + 128:=u8_or128_right _ (by omega) (by omega)
    have Hr:=Lib.hid hr;clear hr
    have Hb:=Lib.hid hb;clear hb
    by_cases h0 : k = 0
    · have hk0 : ¬ 0 < k:=by omega
      have H0:=Lib.hid h0;clear h0
      gi_wp2
      refine ⟨(KeepsOthers.setCell _ _ _).trans (KeepsOthers.setCell _ _ _),?_,⟨?_,?_⟩,(hB.setCell (p:=⟨w.heap.size + 1,0,none⟩) (by simp) _).setCell (p:=⟨w.heap.size,10 - k - 1,none⟩) (Nat.le_refl _) _⟩
      · exact (Below.heap_setCell _ _ _ _ (by show _ ≠ w.heap.size;omega)).trans (Below.heap_setCell _ _ _ _ (by show _ ≠ w.heap.size + 1;omega))
      · refine (Below.heap_setCell _ _ _ _ (by show _ ≠ w.heap.size;omega)).trans ?_
        have:=Hb.out.set (.int .i64 (10 - ((k + 1 : Nat) : Int)))
        rw [show (10 : Int) - ((k + 1 : Nat) : Int) = 10 - (k : Int) - 1 by omega] at this ⊢
        exact this
      · have h2 : (W.setCell ⟨w.heap.size + 1,0,none⟩ (.int .i64 (10 - (k : Int) - 1))).heap[w.heap.size]? = some (.cells (formAt x k) 145 (0,0)):=(Below.heap_setCell _ _ _ _ (by show _ ≠ w.heap.size + 1;omega)).trans Hr.out
        have:=setRow (i:=10 - k - 1) (.int .u8 ((lead x k : Int) % 128)) h2
        rw [this,show 10 - k - 1 = 9 - k by omega,formAt_succ x k (by omega) _ (by rw [if_pos H0.out,H0.out,lead_zero,ofNat_toNat _ (by omega)];omega)]
    · have hk0 : 0 < k:=by omega
      have H0:=Lib.hid h0;clear h0
      gi_wp2
      refine ⟨((KeepsOthers.setCell _ _ _).trans (KeepsOthers.setCell _ _ _)).trans (KeepsOthers.setCell _ _ _),?_,⟨?_,?_⟩,((hB.setCell (p:=⟨w.heap.size + 1,0,none⟩) (by simp) _).setCell (p:=⟨w.heap.size,10 - k - 1,none⟩) (Nat.le_refl _) _).setCell (p:=⟨w.heap.size,10 - k - 1,none⟩) (Nat.le_refl _) _⟩
      · exact (Below.heap_setCell _ _ _ _ (by show _ ≠ w.heap.size;omega)).trans ((Below.heap_setCell _ _ _ _ (by show _ ≠ w.heap.size;omega)).trans (Below.heap_setCell _ _ _ _ (by show _ ≠ w.heap.size + 1;omega)))
      · refine (Below.heap_setCell _ _ _ _ (by show _ ≠ w.heap.size;omega)).trans ((Below.heap_setCell _ _ _ _ (by show _ ≠ w.heap.size;omega)).trans ?_)
        have:=Hb.out.set (.int .i64 (10 - ((k + 1 : Nat) : Int)))
        rw [show (10 : Int) - ((k + 1 : Nat) : Int) = 10 - (k : Int) - 1 by omega] at this ⊢
        exact this
      · have h2 : (W.setCell ⟨w.heap.size + 1,0,none⟩ (.int .i64 (10 - (k : Int) - 1))).heap[w.heap.size]? = some (.cells (formAt x k) 145 (0,0)):=(Below.heap_setCell _ _ _ _ (by show _ ≠ w.heap.size + 1;omega)).trans Hr.out
        have h3:=setRow (i:=10 - k - 1) (.int .u8 ((lead x k : Int) % 128)) h2
        have:=setRow (i:=10 - k - 1) (.int .u8 ((lead x k : Int) % 128 + 128)) h3
        rw [this,Array.setIfInBounds_setIfInBounds,show 10 - k - 1 = 9 - k by omega,formAt_succ x k (by omega) _ (by rw [if_neg H0.out,ofNat_toNat _ (by omega)];omega)]
  case done =>
    rintro D W hD ⟨⟨hb,hr⟩,hB⟩ hK
    have hc:=hb.cell
    have hfr:=hb.frozen
    obtain ⟨L,hL⟩ : ∃ L,L = (putN x).length:=⟨_,rfl⟩
    have hsl : (Instr.sliceAt 145 (.pointer (some ⟨w.heap.size,0,none⟩)) (some (.int .i64 (10 - (L : Int)))) none none).run Tryd.prog W = .ok (.slice (some ⟨w.heap.size,10 - L,none⟩) L L) W:=by
      have ha : Tryd.prog.arrayLen 145 = 10:=by kernel_rfl
      have he : Tryd.prog.elem 145 = 5:=by kernel_rfl
      have hs : ∀ w,(sizeOf 5).run Tryd.prog w = .ok 1 w:=fun _ => by kernel_rfl
      rw [run_sliceAt_array_l W 145 _ (by kernel_rfl) .i64 _ (by omega) (by rw [ha];omega),ha,he,hs]
      have e1 : ((10 : Int) - (L : Int)).toNat = 10 - L:=by omega
      simp only [Result.andThen,slicedAt,e1]
      rw [if_neg (by omega),show 10 - (10 - L) = L by omega]
      simp [Addr.add]
      omega
    have hcv : (convert 41 9 (.slice (some ⟨w.heap.size,10 - L,none⟩) L L)).run Tryd.prog W = .ok (bstr (putN x)) W:=by
      have:=run_convert_bytes_back (P:=Tryd.prog) W 41 9 5 ⟨w.heap.size,10 - L,none⟩ L (putN x) Tryd.underlying41 Tryd.underlying5 Tryd.underlying9 (fun j hj => by
        have:=(row_cell hr (formAt_end x j (by omega) hj)).1
        rw [← hL] at this
        by_cases hj0 : j = 0
        · subst hj0;simpa [Addr.add] using this
        · simpa [Addr.add,hj0] using this)
      rw [← hL] at this
      exact this
    rw [← hL] at hc hb hr
    clear hr
    have HL:=Lib.hid hL;clear hL
    gi_wp2
    refine ⟨by simp,.inl ⟨_,_,rfl,run_takeDeferred hK,?_⟩⟩
    exact ⟨_,results_tmp rfl _ _ _,rfl,hB.trans (belowK_b (w:=w) (Nat.le_refl _) W D _ _ (by omega) hK rfl rfl)⟩
theorem numPut_any (x : Nat) (hx : (x : Int) ≤ 18446744073709551615) (w : World) :
    Calls Tryd.prog 66 #[.int .u64 x] w fun e w' => e = .returned (bstr (putN x)) ∧ Below w.heap.size w w' :=
  (callsIn_wide (n:=3)).1 (numPut_in Fence.wide 3 trivial trivial trivial rfl (by omega) x hx w)
end Go.Proofs.YtaiofjffoboicaaDoor
namespace Go.Proofs.YtaiofjffoboicaaDoor
open Go.RowKit
def gotV (r : Nat × Nat × Nat) : Value:=.tuple #[.int .u64 (r.1 : Int),.int .i64 (r.2.1 : Int),.int .i64 (r.2.2 : Int)]
theorem ret_got {a b c : Int} {r : Nat × Nat × Nat} (h : a = r.1 ∧ b = r.2.1 ∧ c = r.2.2) : Ending.returned (.tuple #[.int .u64 a,.int .i64 b,.int .i64 c]) = .returned (gotV r):=by
  obtain ⟨rfl,rfl,rfl⟩:=h;rfl
theorem drop_at (s : ByteArray) (p : Nat) (h : p < s.size) : s.data.toList.drop p = s[p] :: s.data.toList.drop (p + 1):=by
  rw [List.drop_eq_getElem_cons (by simpa using h)];rfl
def Reads (s : ByteArray) (p q m : Nat) : Prop:=getGo (s.data.toList.drop p) p (decide (p = q)) m = getGo (s.data.toList.drop q) q true 0
theorem reads_form (s : ByteArray) (p q m : Nat) (hp : p < s.size) (h : Reads s p q m) (e : p = q) (hb : s[p].toNat = 128) : getGo (s.data.toList.drop q) q true 0 = (0,p,3):=by
  unfold Reads at h;rw [← h,drop_at s p hp,getGo,if_pos ⟨by simp [e],hb⟩]
theorem reads_range (s : ByteArray) (p q m : Nat) (hp : p < s.size) (h : Reads s p q m) (e : ¬ (p = q ∧ s[p].toNat = 128)) (hm : 144115188075855872 ≤ m) : getGo (s.data.toList.drop q) q true 0 = (0,p,2):=by
  unfold Reads at h;rw [← h,drop_at s p hp,getGo,if_neg (by simpa using e),if_pos hm]
theorem reads_done (s : ByteArray) (p q m : Nat) (hp : p < s.size) (h : Reads s p q m) (e : ¬ (p = q ∧ s[p].toNat = 128)) (hm : m < 144115188075855872) (hb : s[p].toNat < 128) : getGo (s.data.toList.drop q) q true 0 = (m * 128 + s[p].toNat % 128,p + 1,0):=by
  unfold Reads at h;rw [← h,drop_at s p hp,getGo,if_neg (by simpa using e),if_neg (by omega),if_pos hb]
theorem reads_on (s : ByteArray) (p q m : Nat) (hp : p < s.size) (hq : q ≤ p) (h : Reads s p q m) (e : ¬ (p = q ∧ s[p].toNat = 128)) (hm : m < 144115188075855872) (hb : 128 ≤ s[p].toNat) : Reads s (p + 1) q (m * 128 + s[p].toNat % 128):=by
  unfold Reads at *;rw [← h,drop_at s p hp,getGo,if_neg (by simpa using e),if_neg (by omega),if_neg (by omega)]
  rw [show decide (p + 1 = q) = false by simp;omega]
theorem reads_short (s : ByteArray) (p q m : Nat) (hp : s.size ≤ p) (h : Reads s p q m) (hz : p ≤ s.size) : getGo (s.data.toList.drop q) q true 0 = (0,s.size,11):=by
  unfold Reads at h;rw [← h,List.drop_of_length_le (by simpa using hp),getGo,show p = s.size by omega]
theorem getN_in (s : ByteArray) (q : Nat) (h : q ≤ s.size) : getN s.data.toList q = getGo (s.data.toList.drop q) q true 0:=by
  unfold getN;rw [if_neg (by simp;omega)];rfl
theorem getN_out (s : ByteArray) (q : Int) (h : q < 0 ∨ (s.size : Int) < q) : getN s.data.toList q = (0,0,2):=by
  unfold getN;rw [if_pos (by simp;omega)]
end Go.Proofs.YtaiofjffoboicaaDoor
namespace Go.Proofs.YtaiofjffoboicaaDoor
open Go.RowKit
theorem ext_get (s : ByteArray) (q i : Nat) (h : i < (s.extract q s.size).size) (h2 : q + i < s.size) : (s.extract q s.size)[i] = s[q + i]:=by
  rw [ByteArray.getElem_extract]
def RGetN (s : ByteArray) (q : Nat) (n i : Value) : Prop:=∃ m k : Nat,n = .int .u64 m ∧ i = .int .i64 k ∧ (m : Int) ≤ 18446744073709551615 ∧ q + k ≤ s.size ∧ Reads s (q + k) q m
set_option maxRecDepth 100000 in
set_option maxHeartbeats 400000 in
theorem numGet_out (s : ByteArray) (q : Int) (w : World) (hs : s.size ≤ maxLen) (hq : q < 0 ∨ (s.size : Int) < q) :
    Calls Tryd.prog 52 #[.string s,.int .i64 q] w fun e w' => e = .returned (gotV (getN s.data.toList q)) ∧ Below w.heap.size w w':=by
  unfold maxLen at hs
  have hr:=Lib.hid (getN_out s q hq)
  by_cases h : q < 0
  · go_enter Tryd.func52,Tryd.ntmps52
    go_wp2
    go_ret3
    exact ⟨ret_got (by rw [hr.out];exact ⟨rfl,rfl,rfl⟩),Below.refl _ _⟩
  · have h' : (s.size : Int) < q:=by omega
    go_enter Tryd.func52,Tryd.ntmps52
    go_wp2
    go_ret3
    exact ⟨ret_got (by rw [hr.out];exact ⟨rfl,rfl,rfl⟩),Below.refl _ _⟩
set_option maxRecDepth 100000 in
set_option maxHeartbeats 800000 in
theorem numGet_in (s : ByteArray) (q : Nat) (w : World) (hs : s.size ≤ maxLen) (hq : q ≤ s.size) :
    Calls Tryd.prog 52 #[.string s,.int .i64 q] w fun e w' => e = .returned (gotV (getN s.data.toList q)) ∧ Below w.heap.size w w':=by
  unfold maxLen at hs
  rw [getN_in s q hq]
  obtain ⟨cap,W1,hconv,hz,hcell,hbel⟩:=bytes_of (P:=Tryd.prog) Tryd.underlying9 Tryd.underlying41 Tryd.underlying5 (s.extract q s.size) w
  have Hcell:=Lib.hid hcell;clear hcell
  have Hbel:=Lib.hid hbel;clear hbel
  have Hz:=Lib.hid hz;clear hz
  go_enter Tryd.func52,Tryd.ntmps52
  go_wp2
  clear hconv
  go_loop [4,22] (fun n i => RGetN s q n i) (fun _ i => s.size - (intOf i).toNat)
  case atStart => exact ⟨0,0,rfl,rfl,by omega,by omega,by simp [Reads]⟩
  case round =>
    obtain ⟨m,k,rfl,rfl,hm,hks,hr⟩:=hrel
    have Hr:=Lib.hid hr;clear hr
    by_cases hlt : q + k < s.size
    · have hk : k < s.size - q:=by omega
      have hcell : W1.cell? ⟨w.heap.size,k,none⟩ = some (.int .u8 (s[q + k].toNat : Int)):=by
        rw [Hcell.out k (by simp;omega),ext_get s q k (by simp;omega) hlt]
      have hb:=s[q + k].toNat_lt
      by_cases hf : q + k = q ∧ s[q + k].toNat = 128
      · obtain ⟨h0,h128⟩:=hf
        have hb1 : ((s[q + k].toNat : Int) == 128) = true:=by rw [h128];rfl
        have H:=Lib.hid h128;clear h128
        have H0:=Lib.hid h0;clear h0
        have hk0 : ((k : Int) == 0) = true:=by have:=H0.out;simp;omega
        go_wp2
        go_ret3
        exact ⟨ret_got (by rw [reads_form s (q + k) q m hlt Hr.out H0.out H.out];exact ⟨rfl,by show _ = ((q + k : Nat) : Int);have:=H0.out;omega,rfl⟩),Hbel.out⟩
      · have fin : ∀ (M : Int),M = ((m * 128 + s[q + k].toNat % 128 : Nat) : Int) → m < 144115188075855872 → 128 ≤ s[q + k].toNat → RGetN s q (.int .u64 M) (.int .i64 ((k : Int) + 1)):=fun M hM h1 h2 =>
          ⟨m * 128 + s[q + k].toNat % 128,k + 1,by rw [hM],by go_num,by omega,by omega,reads_on s (q + k) q m hlt (by omega) Hr.out hf h1 h2⟩
        have Fin:=Lib.hid fin;clear fin
        have Hf:=Lib.hid hf;clear hf
        by_cases he : k = 0
        · have hk0 : ((k : Int) == 0) = true:=by simp;omega
          have He:=Lib.hid he;clear he
          have hc : ((s[q + k].toNat : Int) == 128) = false:=by
            have : ¬ s[q + k].toNat = 128:=fun h => Hf.out ⟨by have:=He.out;omega,h⟩
            simp;omega
          by_cases h57 : (144115188075855872 : Int) ≤ (m : Int)
          · go_wp2
            go_ret3
            exact ⟨ret_got (by rw [reads_range s (q + k) q m hlt Hr.out Hf.out (by omega)];exact ⟨rfl,rfl,rfl⟩),Hbel.out⟩
          go_wp2
          · go_ret3
            exact ⟨ret_got (by rw [reads_done s (q + k) q m hlt Hr.out Hf.out (by omega) (by omega)];exact ⟨by show (_ : Int) = ((m * 128 + s[q + k].toNat % 128 : Nat) : Int);omega,rfl,rfl⟩),Hbel.out⟩
          · go_round
            case rel => exact Fin.out _ (by omega) (by omega) (by omega)
            case measure => simp [intOf];omega
        · have hk0 : ((k : Int) == 0) = false:=by simp;omega
          have He:=Lib.hid he;clear he
          by_cases h57 : (144115188075855872 : Int) ≤ (m : Int)
          · go_wp2
            go_ret3
            exact ⟨ret_got (by rw [reads_range s (q + k) q m hlt Hr.out Hf.out (by omega)];exact ⟨rfl,rfl,rfl⟩),Hbel.out⟩
          go_wp2
          · go_ret3
            exact ⟨ret_got (by rw [reads_done s (q + k) q m hlt Hr.out Hf.out (by omega) (by omega)];exact ⟨by show (_ : Int) = ((m * 128 + s[q + k].toNat % 128 : Nat) : Int);omega,rfl,rfl⟩),Hbel.out⟩
          · go_round
            case rel => exact Fin.out _ (by omega) (by omega) (by omega)
            case measure => simp [intOf];omega
    · have hk : ¬ k < s.size - q:=by omega
      go_wp2
      go_ret3
      exact ⟨ret_got (by rw [reads_short s (q + k) q m (by omega) Hr.out (by omega)];exact ⟨rfl,rfl,rfl⟩),Hbel.out⟩
theorem numGet_any (s : ByteArray) (q : Int) (w : World) (hs : s.size ≤ maxLen) :
    Calls Tryd.prog 52 #[.string s,.int .i64 q] w fun e w' => e = .returned (gotV (getN s.data.toList q)) ∧ Below w.heap.size w w':=by
  by_cases h : q < 0 ∨ (s.size : Int) < q
  · exact numGet_out s q w hs h
  · obtain ⟨n,rfl⟩:=Int.eq_ofNat_of_zero_le (show 0 ≤ q by omega)
    exact numGet_in s n w hs (by omega)
end Go.Proofs.YtaiofjffoboicaaDoor
namespace Go.Proofs.YtaiofjffoboicaaDoor
open Go.RowKit
def intN (l : List UInt8) (q m : Int) : Int × Int × Int :=
  if (getN l q).2.2 ≠ 0 then (0,(getN l q).2.1,(getN l q).2.2)
  else if m < 0 ∨ m < (getN l q).1 then (0,q,2)
  else ((getN l q).1,(getN l q).2.1,0)
def gotI (r : Int × Int × Int) : Value:=.tuple #[.int .i64 r.1,.int .i64 r.2.1,.int .i64 r.2.2]
theorem getN_bound (l : List UInt8) (q : Int) : (getN l q).1 < 18446744073709551616 ∧ (getN l q).2.1 ≤ l.length:=by
  unfold getN
  split
  · simp
  · have:=getGo_bound (l.drop q.toNat) q.toNat true 0 (by omega)
    refine ⟨this.1,?_⟩
    have h2:=this.2.2.1
    rw [List.length_drop] at h2
    omega
set_option maxRecDepth 100000 in
set_option maxHeartbeats 800000 in
theorem numInt_any (s : ByteArray) (q m : Int) (w : World) (hs : s.size ≤ maxLen) (hq1 : -9223372036854775808 ≤ q) (hq2 : q ≤ 9223372036854775807) (hm2 : m ≤ 9223372036854775807) :
    Calls Tryd.prog 80 #[.string s,.int .i64 q,.int .i64 m] w fun e w' => e = .returned (gotI (intN s.data.toList q m)) ∧ Below w.heap.size w w':=by
  obtain ⟨⟨n,p,e⟩,hg⟩ : ∃ r,getN s.data.toList q = r:=⟨_,rfl⟩
  have hbd:=getN_bound s.data.toList q
  rw [hg] at hbd
  have cg : ∀ w,Calls Tryd.prog 52 #[.string s,.int .i64 q] w fun e' w' => e' = .returned (.tuple #[.int .u64 n,.int .i64 p,.int .i64 e]) ∧ Below w.heap.size w w':=fun w => by
    have:=numGet_any s q w hs
    rw [hg] at this
    exact this
  obtain ⟨b1,b2⟩:=hbd
  have b1' : (n : Int) ≤ 18446744073709551615:=by omega
  clear b1 b2
  have Cg:=Lib.hid cg;clear cg
  have Hg:=Lib.hid hg;clear hg
  by_cases he : e = 0
  · subst he
    by_cases hm : m < 0
    · have hr : intN s.data.toList q m = (0,q,2):=by unfold intN;rw [Hg.out];simp [hm]
      rw [hr];clear hr
      go_enter Tryd.func80,Tryd.ntmps80
      go_wp2_with (go_at_call 52;(with_reducible refine (Cg.out _).mono ?_);rintro e wb ⟨rfl,hb1⟩)
      go_ret3
      exact ⟨rfl,hb1⟩
    · obtain ⟨k,rfl⟩:=Int.eq_ofNat_of_zero_le (show 0 ≤ m by omega)
      by_cases hn : k < n
      · have hr : intN s.data.toList q k = (0,q,2):=by unfold intN;rw [Hg.out];simp [hn]
        rw [hr];clear hr
        go_enter Tryd.func80,Tryd.ntmps80
        go_wp2_with (go_at_call 52;(with_reducible refine (Cg.out _).mono ?_);rintro e wb ⟨rfl,hb1⟩)
        go_ret3
        exact ⟨rfl,hb1⟩
      · have hr : intN s.data.toList q k = ((n : Int),(p : Int),0):=by unfold intN;rw [Hg.out];simp [hn]
        rw [hr];clear hr
        go_enter Tryd.func80,Tryd.ntmps80
        go_wp2_with (go_at_call 52;(with_reducible refine (Cg.out _).mono ?_);rintro e wb ⟨rfl,hb1⟩)
        go_ret3
        exact ⟨rfl,hb1⟩
  · have hr : intN s.data.toList q m = (0,(p : Int),(e : Int)):=by unfold intN;rw [Hg.out];simp [he]
    rw [hr];clear hr
    have he' : ((e : Int) != 0) = true:=by simp;omega
    have He:=Lib.hid he;clear he
    go_enter Tryd.func80,Tryd.ntmps80
    go_wp2_with (go_at_call 52;(with_reducible refine (Cg.out _).mono ?_);rintro e wb ⟨rfl,hb1⟩)
    go_ret3
    exact ⟨rfl,hb1⟩
end Go.Proofs.YtaiofjffoboicaaDoor
namespace Go.Proofs.YtaiofjffoboicaaDoor
open Go.RowKit
def putTextN (l : List UInt8) : List UInt8:=putN l.length ++ l
theorem bsize (l : List UInt8) : (⟨l.toArray⟩ : ByteArray).size = l.length:=by simp [ByteArray.size]
set_option maxRecDepth 100000 in
theorem numPutText_any (t : ByteArray) (w : World) (ht : t.size ≤ 100000) :
    Calls Tryd.prog 68 #[.string t] w fun e w' => e = .returned (bstr (putTextN t.data.toList)) ∧ Below w.heap.size w w':=by
  obtain ⟨p,hp⟩ : ∃ p : ByteArray,p = ⟨(putN t.size).toArray⟩:=⟨_,rfl⟩
  have cp : ∀ w,Calls Tryd.prog 66 #[.int .u64 t.size] w fun e w' => e = .returned (.string p) ∧ Below w.heap.size w w':=fun w => by rw [hp];exact numPut_any t.size (by omega) w
  have hps : p.size ≤ 11:=by rw [hp,bsize];exact (putN_length _).2
  have fin : Ending.returned (.string (p ++ t)) = .returned (bstr (putTextN t.data.toList)):=ret_str (by rw [hp];simp [putTextN])
  have Fin:=Lib.hid fin;clear fin
  clear hp
  have Cp:=Lib.hid cp;clear cp
  go_enter Tryd.func68,Tryd.ntmps68
  go_wp2_with (first|(go_at_call 66;(with_reducible refine (Cp.out _).mono ?_);rintro e wb ⟨rfl,hb2⟩)|(go_at_call 97;go_in))
  go_ret
  exact ⟨Fin.out,hb2⟩
def getTextN (l : List UInt8) (q m : Int) : List UInt8 × Int × Int :=
  if (intN l q m).2.2 ≠ 0 then ([],(intN l q m).2.1,(intN l q m).2.2)
  else if (intN l q m).1 > l.length - (intN l q m).2.1 then ([],(intN l q m).2.1,4)
  else ((l.drop (intN l q m).2.1.toNat).take (intN l q m).1.toNat,(intN l q m).2.1 + (intN l q m).1,0)
def gotT (r : List UInt8 × Int × Int) : Value:=.tuple #[bstr r.1,.int .i64 r.2.1,.int .i64 r.2.2]
theorem intN_ok (l : List UInt8) (q m n p : Int) (h : intN l q m = (n,p,0)) : 0 ≤ n ∧ n ≤ m ∧ 0 ≤ p ∧ p ≤ l.length:=by
  unfold intN at h
  have hb:=getN_bound l q
  split at h
  · rename_i he
    simp only [Prod.mk.injEq] at h
    exact absurd (by omega) he
  · split at h
    · simp at h
    · rename_i hm
      simp only [Prod.mk.injEq,and_true] at h
      obtain ⟨rfl,rfl⟩:=h
      refine ⟨by omega,by omega,by omega,by omega⟩
set_option maxRecDepth 100000 in
set_option maxHeartbeats 800000 in
theorem numGetText_any (s : ByteArray) (q m : Int) (w : World) (hs : s.size ≤ maxLen) (hq1 : -9223372036854775808 ≤ q) (hq2 : q ≤ 9223372036854775807) (hm2 : m ≤ 9223372036854775807) :
    Calls Tryd.prog 53 #[.string s,.int .i64 q,.int .i64 m] w fun e w' => e = .returned (gotT (getTextN s.data.toList q m)) ∧ Below w.heap.size w w':=by
  obtain ⟨⟨n,p,e⟩,hg⟩ : ∃ r,intN s.data.toList q m = r:=⟨_,rfl⟩
  have hok:=intN_ok s.data.toList q m n p
  have cg : ∀ w,Calls Tryd.prog 80 #[.string s,.int .i64 q,.int .i64 m] w fun e' w' => e' = .returned (.tuple #[.int .i64 n,.int .i64 p,.int .i64 e]) ∧ Below w.heap.size w w':=fun w => by
    have:=numInt_any s q m w hs hq1 hq2 hm2
    rw [hg] at this
    exact this
  have hl : s.data.toList.length = s.size:=by simp
  unfold maxLen at hs
  have Cg:=Lib.hid cg;clear cg
  have Hg:=Lib.hid hg;clear hg
  by_cases he : e = 0
  · subst he
    obtain ⟨o1,o2,o3,o4⟩:=hok Hg.out
    rw [hl] at o4
    obtain ⟨n,rfl⟩:=Int.eq_ofNat_of_zero_le o1
    obtain ⟨p,rfl⟩:=Int.eq_ofNat_of_zero_le o3
    clear hok o1 o3
    by_cases hn : (s.size : Int) - (p : Int) < (n : Int)
    · have hr : getTextN s.data.toList q m = ([],(p : Int),4):=by unfold getTextN;rw [Hg.out];simp [hn]
      rw [hr];clear hr hl
      go_enter Tryd.func53,Tryd.ntmps53
      go_wp2_with (go_at_call 80;(with_reducible refine (Cg.out _).mono ?_);rintro e wb ⟨rfl,hb1⟩)
      go_ret3
      exact ⟨rfl,hb1⟩
    · have hn2 : p + n ≤ s.size:=by omega
      have hr : getTextN s.data.toList q m = ((s.data.toList.drop p).take n,((p : Int) + (n : Int)),0):=by unfold getTextN;rw [Hg.out];simp;omega
      have fin : Ending.returned (.tuple #[.string (s.extract p (p + n)),.int .i64 ((p : Int) + (n : Int)),.int .i64 0]) = .returned (gotT (getTextN s.data.toList q m)):=by
        rw [hr];unfold gotT;rw [vstr (l:=(s.data.toList.drop p).take n) (by rw [Lib.extract_data,show p + n - p = n by omega])]
      have Fin:=Lib.hid fin;clear fin
      clear hr hl
      go_enter Tryd.func53,Tryd.ntmps53
      go_wp2_with (go_at_call 80;(with_reducible refine (Cg.out _).mono ?_);rintro e wb ⟨rfl,hb1⟩)
      go_ret3
      exact ⟨Fin.out,hb1⟩
  · have hr : getTextN s.data.toList q m = ([],p,e):=by unfold getTextN;rw [Hg.out];simp [he]
    rw [hr];clear hr
    have he' : (e != 0) = true:=by simp [he]
    have He:=Lib.hid he;clear he hok
    go_enter Tryd.func53,Tryd.ntmps53
    go_wp2_with (go_at_call 80;(with_reducible refine (Cg.out _).mono ?_);rintro e wb ⟨rfl,hb1⟩)
    go_ret3
    exact ⟨rfl,hb1⟩
end Go.Proofs.YtaiofjffoboicaaDoor
namespace Go.Proofs.YtaiofjffoboicaaDoor
theorem beq0_t {x : Int} (h : (x == 0) = true) : x = 0:=by simpa using h
theorem beq0_f {x : Int} (h : (x == 0) = false) : x ≠ 0:=by simpa using h
abbrev okI (no sq of : Int) : Prop:=1 ≤ no ∧ no ≤ 16 ∧ sq ≤ 1099511627776 ∧ 0 ≤ of ∧ of ≤ 19999
def idC (no sq of : Int) : Int:=if okI no sq of then 0 else 2
abbrev okN (de pr bo li to : Int) : Prop:=1 ≤ de ∧ de ≤ 16 ∧ 0 ≤ pr ∧ pr ≤ 2 ∧ 0 ≤ bo ∧ bo ≤ 1099511627776 ∧ 1 ≤ li ∧ li ≤ 1048576 ∧ 1 ≤ to ∧ to ≤ 20000
def buC (no sq of de pr bo li to n : Int) : Int :=
  if ¬ okI no sq of then 2 else if ¬ okN de pr bo li to then 2 else if n = 0 then 11 else if 1000 < n then 4 else if to < of + n then 12 else 0
theorem idC_cases (no sq of : Int) : (idC no sq of = 0 ∧ okI no sq of) ∨ (idC no sq of = 2 ∧ ¬ okI no sq of):=by
  unfold idC
  by_cases h : okI no sq of
  · exact .inl ⟨if_pos h,h⟩
  · exact .inr ⟨if_neg h,h⟩
theorem buC_cases (no sq of de pr bo li to n : Int) :
    (buC no sq of de pr bo li to n = 2 ∧ ¬ okI no sq of) ∨ (buC no sq of de pr bo li to n = 2 ∧ okI no sq of ∧ ¬ okN de pr bo li to) ∨
    (buC no sq of de pr bo li to n = 11 ∧ okI no sq of ∧ okN de pr bo li to ∧ n = 0) ∨ (buC no sq of de pr bo li to n = 4 ∧ okI no sq of ∧ okN de pr bo li to ∧ n ≠ 0 ∧ 1000 < n) ∨
    (buC no sq of de pr bo li to n = 12 ∧ okI no sq of ∧ okN de pr bo li to ∧ n ≠ 0 ∧ n ≤ 1000 ∧ to < of + n) ∨ (buC no sq of de pr bo li to n = 0 ∧ okI no sq of ∧ okN de pr bo li to ∧ n ≠ 0 ∧ n ≤ 1000 ∧ of + n ≤ to):=by
  unfold buC
  by_cases h1 : okI no sq of
  · rw [if_neg (not_not_intro h1)]
    by_cases h2 : okN de pr bo li to
    · rw [if_neg (not_not_intro h2)]
      by_cases h3 : n = 0
      · exact .inr (.inr (.inl ⟨if_pos h3,h1,h2,h3⟩))
      · rw [if_neg h3]
        by_cases h4 : 1000 < n
        · exact .inr (.inr (.inr (.inl ⟨if_pos h4,h1,h2,h3,h4⟩)))
        · rw [if_neg h4]
          by_cases h5 : to < of + n
          · exact .inr (.inr (.inr (.inr (.inl ⟨if_pos h5,h1,h2,h3,by omega,h5⟩))))
          · exact .inr (.inr (.inr (.inr (.inr ⟨if_neg h5,h1,h2,h3,by omega,by omega⟩))))
    · exact .inr (.inl ⟨if_pos h2,h1,h2⟩)
  · exact .inl ⟨if_pos h1,h1⟩
theorem buC_ok {no sq of de pr bo li to n : Int} (h : buC no sq of de pr bo li to n = 0) : okI no sq of ∧ okN de pr bo li to ∧ n ≠ 0 ∧ n ≤ 1000 ∧ of + n ≤ to:=by
  rcases buC_cases no sq of de pr bo li to n with h1|h1|h1|h1|h1|h1 <;> first|(exact h1.2)|(rw [h] at h1;exact absurd h1.1 (by decide))
end Go.Proofs.YtaiofjffoboicaaDoor
namespace Go.Proofs.YtaiofjffoboicaaDoor
section
variable {P : Program} {ops : Array Oper} {md : Region.Mode} {C : World → Prop}
def headQ (P : Program) (md : Region.Mode) (ops : Array Oper) (C : World → Prop) (m : Nat) (L : Array Bool → Act → Prop) : Nat → Array Bool → Act → Prop
  | 0,listed,a => L listed a
  | f + 1,listed,a => Region.ready md ops listed ≠ [] ∧ ∀ i ∈ Region.ready md ops listed,i < m ∧ qOp P ops C i (headQ P md ops C m L f (listed.setIfInBounds i true)) a
theorem wpAny_of_headQ {m g : Nat} {L : Array Bool → Act → Prop} {Q' : Exit → Act → World → Prop} (hL : ∀ listed a w,C w → L listed a → wpAny P md ops Q' g listed a w) :
    ∀ (f : Nat) (listed : Array Bool) (a : Act) (w : World),C w → headQ P md ops C m L f listed a → wpAny P md ops Q' (f + g) listed a w
  | 0,listed,a,w,hw,h => by rw [Nat.zero_add];exact hL _ _ _ hw h
  | f + 1,listed,a,w,hw,h => by
    rw [show f + 1 + g = (f + g) + 1 by omega]
    exact ⟨fun h0 => absurd h0 h.1,fun i hi => wpOp_of_qOp hw (fun a' w' hw' h' => wpAny_of_headQ hL f _ a' w' hw' h') (h.2 i hi).2⟩
structure Between (ops : Array Oper) (m n : Nat) (listed : Array Bool) : Prop where
  mid : ∀ i,m ≤ i → i < n → listed.getD i true = true
  tail : ∀ t,n ≤ t → t < ops.size → listed.getD t true = false
theorem getD_dflt {listed : Array Bool} {i : Nat} (h : listed.getD i true = false) : listed.getD i false = false:=by
  rcases Nat.lt_or_ge i listed.size with h'|h'
  · simp [h'] at h ⊢;exact h
  · simp [Array.getElem?_eq_none h'] at h
theorem set_dflt {listed : Array Bool} {i j : Nat} (h : listed.getD j true = true) : (listed.setIfInBounds i true).getD j true = true:=by
  by_cases hij : i = j
  · subst hij
    rcases Nat.lt_or_ge i listed.size with h'|h'
    · simp [h']
    · simp [Array.getElem?_eq_none h']
  · rw [getD_set_ne true hij];exact h
theorem Between.set {m n i : Nat} {listed : Array Bool} (b : Between ops m n listed) (hi : i < m) (hmn : m ≤ n) : Between ops m n (listed.setIfInBounds i true) :=
  ⟨fun j h1 h2 => set_dflt (b.mid j h1 h2),fun t h1 h2 => by rw [getD_set_ne true (by omega)];exact b.tail t h1 h2⟩
end
open Go.RowKit
structure Class (C : World → Prop) where
  wd : World
  ok : C wd
end Go.Proofs.YtaiofjffoboicaaDoor
namespace Go.Proofs.YtaiofjffoboicaaDoor
open Go.RowKit
theorem wp_region_class {P : Program} {C : World → Prop} {id : Nat} {Q : Exit → Act → World → Prop} {a : Act} {w : World} {l : List Oper} (hm : P.follows .mixedOrders = true) (hB : Region.lexB .any l.toArray = true) (hC : C w.drew)
    (h : wpQuiet P l.toArray C (fun a' => ∀ w',C w' → Q .normal a' w') l a) : (Code.region id l.toArray true).wp P Q a w :=
  wp_region_quiet (C:=C) hm hB hC (by simpa using h)
section
open Go.ChangeShapes Go.WideShapes Go.Deep
variable {H : Type} {enc : TypeId × Value → H} {P : Program} {w : World} {base : Nat} {spare : Nat → Bool} {held : Bool}
end
theorem Class.go {W0 : World} {P : Program} {f : FuncId} {args : Array Value} {v : Value} (x : Class (Calm W0)) (h : Calls P f args x.wd fun e w' => e = .returned v ∧ Below x.wd.heap.size x.wd w') :
    Calls P f args x.wd fun e w' => e = .returned v ∧ ∃ y : Class (Calm W0),w' = y.wd :=
  h.mono fun e w' ⟨he,hb⟩ => ⟨he,⟨w',bt x.ok hb⟩,rfl⟩
theorem Class.same {W0 : World} {P : Program} {f : FuncId} {args : Array Value} {v : Value} (x : Class (Calm W0)) (h : Calls P f args x.wd fun e w' => e = .returned v ∧ x.wd = w') :
    Calls P f args x.wd fun e w' => e = .returned v ∧ ∃ y : Class (Calm W0),w' = y.wd :=
  h.mono fun e w' ⟨he,hb⟩ => ⟨he,x,hb.symm⟩
theorem calm_kn {W0 : World} {b : Nat} {c : Array Value} (h : blk W0 b = some c) : ∀ (x : Class (Calm W0)) o,x.wd.cell? ⟨b,o,none⟩ = c[o]?:=fun x o => blk_cell (blk_below x.ok h) o
theorem wp_region_in {P : Program} {id : Nat} {Q : Exit → Act → World → Prop} {a : Act} {w : World} {l : List Oper} (hm : P.follows .mixedOrders = true) (hB : Region.lexB .any l.toArray = true)
    (h : ∀ W0,Hid (W0 = w) → Nonempty (Class (Calm W0)) → wpQuiet P l.toArray (fun w' => ∃ x : Class (Calm W0),w' = x.wd) (fun a' => ∀ w',(∃ x : Class (Calm W0),w' = x.wd) → Q .normal a' w') l a) : (Code.region id l.toArray true).wp P Q a w :=
  wp_region_class (C:=fun w' => ∃ x : Class (Calm w),w' = x.wd) hm hB ⟨⟨_,(Below.refl _ _).drew⟩,rfl⟩ (h w (Lib.hid rfl) ⟨⟨_,Below.refl _ _⟩⟩)
section
variable {P : Program} {ops : Array Oper} {md : Region.Mode} {C : World → Prop}
theorem head_lt {n i : Nat} {listed : Array Bool} (hs : Region.sinkB md ops n = true) (hc : Region.chainB md ops n = true) (hn : n < ops.size) (inv : HeadInv md ops n listed) (hi : i < n) (hun : listed.getD i true = false) :
    ∀ j ∈ Region.ready md ops listed,j < n:=fun j hj => by
  rcases Nat.lt_or_ge j n with h|h
  · exact h
  · exact absurd hj (tail_waits hs hc hn inv _ i rfl hi hun j h)
theorem headC_first {n i : Nat} {oi : Oper} {v : Value} {L : Array Bool → Act → Prop} (hi : ops[i]? = some oi) (hsel : ∀ (j : Nat) (o : Oper) cs b,ops[j]? = some o → o.op ≠ .select cs b)
    (hs : Region.sinkB md ops n = true) (hc : Region.chainB md ops n = true) (hn : n < ops.size) (him : i < n) (hdone : ∀ listed a,L listed a → ∀ j ∈ Region.ready md ops listed,n ≤ j) :
    ∀ (f : Nat) (listed : Array Bool) (a : Act),HeadInv md ops n listed →
      (∀ j oj,ops[j]? = some oj → j ≠ i → listed.getD j true = false → (∀ e ∈ oj.after,Region.binds md e = true → e.on ≠ i) → oi.apart ops oj = true) →
      i ∈ Region.ready md ops listed → YieldsIn P ops C oi v a →
      headQ P md ops C n L f (listed.setIfInBounds i true) (a.put oi.dst v) → headQ P md ops C n L (f + 1) listed a:=by
  intro f
  induction f with
  | zero =>
    intro listed a b _ hr hy H
    have hlt:=head_lt hs hc hn b him (mem_ready.1 hr).1
    refine ⟨fun h => (by rw [h] at hr;cases hr),fun j hj => ⟨hlt j hj,?_⟩⟩
    by_cases hji : j = i
    · subst hji;exact hy.qOp hi H
    · have h1:=hdone _ _ H j (ready_mono hj hji)
      have h2:=hlt j hj
      omega
  | succ f ih =>
    intro listed a b hfree hr hy H
    have hlt:=head_lt hs hc hn b him (mem_ready.1 hr).1
    refine ⟨fun h => (by rw [h] at hr;cases hr),fun j hj => ⟨hlt j hj,?_⟩⟩
    by_cases hji : j = i
    · subst hji;exact hy.qOp hi H
    · have h1:=(H.2 j (ready_mono hj hji)).2
      obtain ⟨hjun,oj,hoj,hall⟩:=mem_ready.1 hj
      have hnot : ∀ e ∈ oj.after,Region.binds md e = true → e.on ≠ i:=fun e he hb heq => by
        have h1:=hall e he hb
        rw [heq,getD_dflt (mem_ready.1 hr).1] at h1
        cases h1
      have h2:=qOp_put hoj (hfree j oj hoj hji hjun hnot) (fun cs b => hsel i oi cs b hi) (fun cs b => hsel j oj cs b hoj) hy h1
      refine qOp_mono (fun a' h3 => ih (listed.setIfInBounds j true) a' (b.set hj (hlt j hj)) (fun k ok hk hki hun hno => hfree k ok hk hki ?_ hno) (ready_mono hr (Ne.symm hji)) h3.1 ?_) h2
      · by_cases hjk : j = k
        · subst hjk;exact hjun
        · rw [getD_set_ne true hjk] at hun;exact hun
      · rw [Array.setIfInBounds_comm _ _ hji]
        exact h3.2
theorem headC_lex {n g : Nat} {Lq : Act → Prop} (hsel : Region.noSelect ops = true) (hs : Region.sinkB md ops n = true) (hc : Region.chainB md ops n = true) (hn : n < ops.size) :
    ∀ (l : List Oper) (k : Nat) (listed : Array Bool) (a : Act),(∀ j,j < l.length → l[j]? = ops[k + j]?) → k + l.length = n → HeadInv md ops n listed →
    Region.lexHead md ops g l.length k listed = true → wpQuiet P ops C Lq l a →
    headQ P md ops C n (fun listed' a' => Region.seqB md ops g n listed' = true ∧ Lq a') l.length listed a
  | [],k,listed,a,_,hk,_,hB,h => by
    have : k = n:=by simpa using hk
    subst this
    exact ⟨by simpa [Region.lexHead] using hB,h⟩
  | o :: l,k,listed,a,hl,hk,b,hB,h => by
    have h0 : ops[k]? = some o:=by simpa using (hl 0 (by simp)).symm
    simp only [List.length_cons,Region.lexHead,Bool.and_eq_true] at hB
    obtain ⟨⟨hr,hf⟩,hB'⟩:=hB
    have hkm : k < n:=by simp only [List.length_cons] at hk;omega
    have hr' : k ∈ Region.ready md ops listed:=by simpa using hr
    have hst : qOp P ops C k (wpQuiet P ops C Lq l) a:=by unfold qOp;simp only [h0];exact h
    obtain ⟨v,hy,hK⟩:=yieldsIn_of_qOp h0 hst
    exact headC_first h0 (Region.noSelect_spec hsel) hs hc hn hkm (fun listed' a' hL => seqB_ready hL.1) l.length listed a b (Region.free_spec h0 hf) hr' hy
      (headC_lex hsel hs hc hn l (k + 1) _ _ (fun j hj => by have:=hl (j + 1) (by simp;omega);simpa [Nat.add_assoc,Nat.add_comm 1 j] using this) (by simp only [List.length_cons] at hk;omega) (b.set hr' hkm) hB' hK)
end
theorem wp_region_tail {P : Program} {id : Nat} {Q : Exit → Act → World → Prop} {a : Act} {w : World} {l : List Oper} (n : Nat) (hm : P.follows .mixedOrders = true) (hB : Region.lexTailB .any l.toArray n = true)
    (h : ∀ W0,Hid (W0 = w) → Nonempty (Class (Calm W0)) → wpQuiet P l.toArray (fun w' => ∃ x : Class (Calm W0),w' = x.wd) (fun a' => ∀ w',(∃ x : Class (Calm W0),w' = x.wd) → wpList P l.toArray Q (l.drop n) a' w') (l.take n) a) :
    (Code.region id l.toArray true).wp P Q a w:=by
  simp only [Region.lexTailB,Bool.and_eq_true,decide_eq_true_eq] at hB
  obtain ⟨⟨⟨⟨hsel,hn⟩,hs⟩,hc⟩,hlex⟩:=hB
  have hn' : n < l.length:=by simpa using hn
  have htl : (l.take n).length = n:=by simp;omega
  have hdl : (l.drop n).length = l.toArray.size - n:=by simp
  have inv0 : HeadInv .any l.toArray n (Array.replicate l.toArray.size false) :=
    ⟨by simp,fun j oj _ hl => (by rw [getD_replicate_false] at hl;cases hl),fun t _ ht => getD_in (by simpa using ht) (getD_replicate_false _ _)⟩
  have H:=headC_lex (md:=.any) (g:=l.toArray.size - n) hsel hs hc hn (l.take n) 0 _ a (fun j hj => by
    have hj' : j < n:=by rw [htl] at hj;exact hj
    simp [hj']) (by simpa using htl) inv0 (by rw [htl];exact hlex) (h w (Lib.hid rfl) ⟨⟨_,Below.refl _ _⟩⟩)
  refine wp_region_any hm ?_
  have:=wpAny_of_headQ (Q':=Q) (g:=l.toArray.size - n) (C:=fun w' => ∃ x : Class (Calm w),w' = x.wd) (fun listed a' w' hw' hL => by
    have:=wpAny_of_seq (md:=.any) (Q':=Q) (l.drop n) n listed a' w' (fun j => by simp [List.getElem?_drop]) (by rw [hdl];exact hL.1) (hL.2 w' hw')
    rwa [hdl] at this) _ _ _ w.drew ⟨⟨_,(Below.refl _ _).drew⟩,rfl⟩ H
  rw [htl,show n + (l.toArray.size - n) = l.toArray.size by omega] at this
  exact this
end Go.Proofs.YtaiofjffoboicaaDoor
