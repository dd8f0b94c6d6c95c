/- Parts of a proof, printed by a program of mine out of my texts: Base, Blk, QTail, Reg, BuMath, Range, Open. -/
import Derived.Test.YthfmkkkdjgkaoaaGreatDoorChecked
import Derived.WalkKit
import Derived.WalkSpells
import Derived.WalkLawsBesides
import Derived.Lib.Hide
import Derived.Laws.BytesString
import Derived.Laws.IdiomStrings
import Derived.Lib.ConvBytes
import Derived.Deep.Quiet
import Derived.Deep.QuietTactic
import Derived.BigQuiet
import Derived.Deep.RegionWith
import Derived.Defers
import Derived.StillTail
import Derived.Deep.RegionHeld3
import Derived.Deep.Fields
import Derived.ChangeShapes
import Derived.WideShapes
import Derived.RangeFuncNested
import Derived.RangeFuncBound
import Derived.RangeFuncCalls
import Derived.RangeFuncLeaves
import Derived.RangeFuncBox
import Derived.Shelf.Abstract
import Derived.OwnWalkIn
import Derived.TacticsInMore
import Derived.LoopNIn
import Derived.LoopIn
import Derived.OpenShut
set_option linter.unusedSimpArgs false
set_option linter.unusedVariables false
namespace Go.Proofs.YthfmkkkdjgkaoaaGreatDoor
open Go.RowKit
def bstr (l : List UInt8) : Value := .string ⟨l.toArray⟩
theorem ret_int {k : IntKind} {a b : Int} (h : a = b) : Ending.returned (.int k a) = .returned (.int k b) := by rw [h]
theorem ret_bool {a b : Bool} (h : a = b) : Ending.returned (.bool a) = .returned (.bool b) := by rw [h]
theorem ret_str {a : ByteArray} {l : List UInt8} (h : a.data.toList = l) : Ending.returned (.string a) = .returned (bstr l) := by
  subst h; rfl
theorem vstr {a : ByteArray} {l : List UInt8} (h : a.data.toList = l) : Value.string a = bstr l := by
  subst h; rfl
theorem ret_2 {k1 k2 : IntKind} {a b a' b' : Int} (h1 : a = a') (h2 : b = b') :
    Ending.returned (.tuple #[.int k1 a, .int k2 b]) = .returned (.tuple #[.int k1 a', .int k2 b']) := by rw [h1, h2]
theorem bt {w a b : World} (h : Below w.heap.size w a) (k : Below a.heap.size a b) : Below w.heap.size w b := h.trans (k.mono h.size)
theorem one_byte {P : Program} {src dst e : TypeId} (hs : P.underlying src = some (.slice e)) (he : P.underlying e = some (.int .u8)) (hd : P.underlying dst = some .string) (x : Int) (w : World) :
    (convert src dst (.slice (some ⟨w.heap.size, 0, none⟩) 1 1)).run P (w.alloc (.cells #[.int .u8 x] e)) = .ok (.string ⟨#[UInt8.ofNat x.toNat]⟩) (w.alloc (.cells #[.int .u8 x] e)) := by
  rw [run_convert_bytes_string _ src dst e _ _ _ hs he hd]
  have := run_bytesToString (P := P) (w.alloc (.cells #[.int .u8 x] e)) ⟨w.heap.size, 0, none⟩ 1 1 [x] (by
    have hl := run_loadCells_list (P := P) (w.alloc (.cells #[.int .u8 x] e)) ⟨w.heap.size, 0, none⟩ [.int .u8 x] (fun j v hj => by
      have hj0 : j = 0 := by
        have := (List.getElem?_eq_some_iff.1 hj).1
        simpa using this
      subst hj0
      simp at hj; subst hj
      simp [Addr.add])
    simpa using hl)
  rw [this]
  simp
  rfl
def Calm (w w' : World) : Prop := Below w.heap.size w w'
theorem Calm.refl (w : World) : Calm w w := Below.refl _ _
@[go_sem] theorem calm_const {w : World} {p : Prop} : (∀ w', Calm w w' → p) = p := propext ⟨fun h => h w (Calm.refl w), fun h _ _ => h⟩
end Go.Proofs.YthfmkkkdjgkaoaaGreatDoor
namespace Go.Proofs.YthfmkkkdjgkaoaaGreatDoor
open Go.RowKit
def blk (w : World) (b : Nat) : Option (Array Value) :=
  match w.heap[b]? with
  | some (.cells c _ (0, 0)) => some c
  | _ => none
theorem blk_of {w : World} {b : Nat} {c : Array Value} {t : TypeId} (h : w.heap[b]? = some (.cells c t (0, 0))) : blk w b = some c := by simp [blk, h]
theorem blk_cell {w : World} {b : Nat} {c : Array Value} (h : blk w b = some c) (i : Nat) : w.cell? ⟨b, i, none⟩ = c[i]? := by
  unfold blk at h
  split at h
  · rename_i c' _ hc; cases h; simp [World.cell?, hc]
  · cases h
theorem blk_frozen {w : World} {b : Nat} {c : Array Value} (h : blk w b = some c) (i : Nat) : w.frozen? ⟨b, i, none⟩ = false := by
  unfold blk at h
  split at h
  · rename_i c' _ hc; cases h; simp [World.frozen?, hc]
  · cases h
theorem blk_lt {w : World} {b : Nat} {c : Array Value} (h : blk w b = some c) : b < w.heap.size := by
  unfold blk at h
  split at h
  · rename_i c' _ hc; exact (Array.getElem?_eq_some_iff.1 hc).1
  · cases h
theorem blk_kept {w w' : World} {b : Nat} (h : w'.heap[b]? = w.heap[b]?) : blk w' b = blk w b := by unfold blk; rw [h]
theorem blk_below {w w' : World} {b : Nat} {c : Array Value} (hb : Below w.heap.size w w') (h : blk w b = some c) : blk w' b = some c := (blk_kept (hb.block b (blk_lt h))).trans h
theorem blk_alloc_new (w : World) (c : Array Value) (t : TypeId) {n : Nat} (hn : n = w.heap.size) : blk (w.alloc (.cells c t)) n = some c := by subst hn; exact blk_of (heap_alloc_new w _)
theorem blk_alloc {w : World} {b : Nat} {c : Array Value} (h : blk w b = some c) (o : Obj) : blk (w.alloc o) b = some c := (blk_kept (Below.heap_alloc w o b (blk_lt h))).trans h
theorem blk_drew {w : World} {b : Nat} {c : Array Value} (h : blk w b = some c) : blk w.drew b = some c := h
theorem blk_other {w : World} {b : Nat} {c : Array Value} {a : Addr} {v : Value} (h : blk w b = some c) (hne : b ≠ a.block) : blk (w.setCell a v) b = some c := (blk_kept (Below.heap_setCell w a v b hne)).trans h
theorem blk_set {w : World} {b i : Nat} {c : Array Value} {v : Value} (h : blk w b = some c) : blk (w.setCell ⟨b, i, none⟩ v) b = some (c.setIfInBounds i v) := by
  unfold blk at h
  split at h
  · rename_i c' t hc
    cases h
    obtain ⟨hlt, hk⟩ := Array.getElem?_eq_some_iff.1 hc
    have : (w.setCell ⟨b, i, none⟩ v).heap[b]? = some (.cells (c.setIfInBounds i v) t (0, 0)) := by
      show (w.heap.modify b _)[b]? = _
      rw [Array.getElem?_eq_getElem (by rw [Array.size_modify]; exact hlt), Array.getElem_modify_self, hk]
      rfl
    exact blk_of this
  · cases h
theorem kn {w : World} {b : Nat} {c : Array Value} (h : blk w b = some c) : (∀ o, w.cell? ⟨b, o, none⟩ = c[o]?) ∧ (∀ o, w.frozen? ⟨b, o, none⟩ = false) ∧ b < w.heap.size ∧ b ≠ w.heap.size ∧ w.heap.size ≠ b :=
  ⟨blk_cell h, blk_frozen h, blk_lt h, Nat.ne_of_lt (blk_lt h), (Nat.ne_of_lt (blk_lt h)).symm⟩
theorem ret_blk {P : Program} {fn : Func} {R : Ending → World → Prop} {a : Act} {W : World} {b : Nat} {c : Array Value} {v : Value} (hb : blk W b = some c)
    (hres : ∀ W' : World, (∀ i, W'.cell? ⟨b, i, none⟩ = c[i]?) → (results fn a.tmps).run P W' = .ok v W') (hd : a.defers = []) (hR : R (.returned v) W) : bodyPost P fn R .ret a W :=
  bodyPost_ret (v := v) (hres W fun i => blk_cell hb i) hd hR
theorem bcell {W w1 : World} (hb : Below W.heap.size W w1) : (∀ b o, b < W.heap.size → w1.cell? ⟨b, o, none⟩ = W.cell? ⟨b, o, none⟩) ∧ (∀ b o, b < W.heap.size → w1.frozen? ⟨b, o, none⟩ = W.frozen? ⟨b, o, none⟩) :=
  ⟨fun b o h => hb.cell (p := ⟨b, o, none⟩) h, fun b o h => hb.frozen (p := ⟨b, o, none⟩) h⟩
theorem blk_other' {w : World} {b : Nat} {c : Array Value} {a : Addr} {v : Value} (hne : b ≠ a.block) (h : blk w b = some c) : blk (w.setCell a v) b = some c := blk_other h hne
theorem blk_to {w : World} {b : Nat} {c c' : Array Value} (h : blk w b = some c') (e : c' = c) : blk w b = some c := e ▸ h
theorem bset' {B : Nat} {w W : World} {p : Addr} {v : Value} (hp : B ≤ p.block) (h : Below B w W) : Below B w (W.setCell p v) := h.setCell hp v
theorem belt_alloc {w W : World} {o : Obj} (h : Below w.heap.size w W) : Below w.heap.size w (W.alloc o) := h.alloc h.size o
theorem beld_drew {B : Nat} {w W : World} (h : Below B w W) : Below B w W.drew := h.drew
theorem bta {w a : World} {o : Obj} (h : Below (w.alloc o).heap.size (w.alloc o) a) : Below w.heap.size w a := ((Below.refl _ _).alloc (Nat.le_refl _) o).trans (h.mono (by simp))
end Go.Proofs.YthfmkkkdjgkaoaaGreatDoor
namespace Go.Proofs.YthfmkkkdjgkaoaaGreatDoor
section
variable {P : Program} {ops : Array Oper} {md : Region.Mode} {C : World → Prop}
def headQ (P : Program) (md : Region.Mode) (ops : Array Oper) (C : World → Prop) (m : Nat) (L : Array Bool → Act → Prop) : Nat → Array Bool → Act → Prop
  | 0, listed, a => L listed a
  | f + 1, listed, a => Region.ready md ops listed ≠ [] ∧ ∀ i ∈ Region.ready md ops listed, i < m ∧ qOp P ops C i (headQ P md ops C m L f (listed.setIfInBounds i true)) a
theorem wpAny_of_headQ {m g : Nat} {L : Array Bool → Act → Prop} {Q' : Exit → Act → World → Prop} (hL : ∀ listed a w, C w → L listed a → wpAny P md ops Q' g listed a w) :
    ∀ (f : Nat) (listed : Array Bool) (a : Act) (w : World), C w → headQ P md ops C m L f listed a → wpAny P md ops Q' (f + g) listed a w
  | 0, listed, a, w, hw, h => by rw [Nat.zero_add]; exact hL _ _ _ hw h
  | f + 1, listed, a, w, hw, h => by
    rw [show f + 1 + g = (f + g) + 1 by omega]
    exact ⟨fun h0 => absurd h0 h.1, fun i hi => wpOp_of_qOp hw (fun a' w' hw' h' => wpAny_of_headQ hL f _ a' w' hw' h') (h.2 i hi).2⟩
structure Between (ops : Array Oper) (m n : Nat) (listed : Array Bool) : Prop where
  mid : ∀ i, m ≤ i → i < n → listed.getD i true = true
  tail : ∀ t, n ≤ t → t < ops.size → listed.getD t true = false
theorem getD_dflt {listed : Array Bool} {i : Nat} (h : listed.getD i true = false) : listed.getD i false = false := by
  rcases Nat.lt_or_ge i listed.size with h' | h'
  · simp [h'] at h ⊢; exact h
  · simp [Array.getElem?_eq_none h'] at h
theorem set_dflt {listed : Array Bool} {i j : Nat} (h : listed.getD j true = true) : (listed.setIfInBounds i true).getD j true = true := by
  by_cases hij : i = j
  · subst hij
    rcases Nat.lt_or_ge i listed.size with h' | h'
    · simp [h']
    · simp [Array.getElem?_eq_none h']
  · rw [getD_set_ne true hij]; exact h
theorem Between.set {m n i : Nat} {listed : Array Bool} (b : Between ops m n listed) (hi : i < m) (hmn : m ≤ n) : Between ops m n (listed.setIfInBounds i true) :=
  ⟨fun j h1 h2 => set_dflt (b.mid j h1 h2), fun t h1 h2 => by rw [getD_set_ne true (by omega)]; exact b.tail t h1 h2⟩
end
open Go.RowKit
structure Class (C : World → Prop) where
  wd : World
  ok : C wd
theorem Class.call {C : World → Prop} {P : Program} {f : FuncId} {args : Array Value} {v : Value} (x : Class C) (hk : ∀ W w', C W → Below W.heap.size W w' → C w')
    (h : Calls P f args x.wd fun e w' => e = .returned v ∧ Below x.wd.heap.size x.wd w') : Calls P f args x.wd fun e w' => e = .returned v ∧ ∃ y : Class C, w' = y.wd :=
  h.mono fun e w' ⟨he, hb⟩ => ⟨he, ⟨w', hk _ _ x.ok hb⟩, rfl⟩
end Go.Proofs.YthfmkkkdjgkaoaaGreatDoor
namespace Go.Proofs.YthfmkkkdjgkaoaaGreatDoor
open Go.RowKit
theorem wp_region_class {P : Program} {C : World → Prop} {id : Nat} {Q : Exit → Act → World → Prop} {a : Act} {w : World} {l : List Oper} (hm : P.follows .mixedOrders = true) (hB : Region.lexB .any l.toArray = true) (hC : C w.drew)
    (h : wpQuiet P l.toArray C (fun a' => ∀ w', C w' → Q .normal a' w') l a) : (Code.region id l.toArray true).wp P Q a w :=
  wp_region_quiet (C := C) hm hB hC (by simpa using h)
section
open Go.ChangeShapes Go.WideShapes Go.Deep
variable {H : Type} {enc : TypeId × Value → H} {P : Program} {w : World} {base : Nat} {spare : Nat → Bool} {held : Bool}
end
theorem Class.go {W0 : World} {P : Program} {f : FuncId} {args : Array Value} {v : Value} (x : Class (Calm W0)) (h : Calls P f args x.wd fun e w' => e = .returned v ∧ Below x.wd.heap.size x.wd w') :
    Calls P f args x.wd fun e w' => e = .returned v ∧ ∃ y : Class (Calm W0), w' = y.wd :=
  h.mono fun e w' ⟨he, hb⟩ => ⟨he, ⟨w', bt x.ok hb⟩, rfl⟩
theorem Class.same {W0 : World} {P : Program} {f : FuncId} {args : Array Value} {v : Value} (x : Class (Calm W0)) (h : Calls P f args x.wd fun e w' => e = .returned v ∧ x.wd = w') :
    Calls P f args x.wd fun e w' => e = .returned v ∧ ∃ y : Class (Calm W0), w' = y.wd :=
  h.mono fun e w' ⟨he, hb⟩ => ⟨he, x, hb.symm⟩
theorem calm_kn {W0 : World} {b : Nat} {c : Array Value} (h : blk W0 b = some c) : ∀ (x : Class (Calm W0)) o, x.wd.cell? ⟨b, o, none⟩ = c[o]? := fun x o => blk_cell (blk_below x.ok h) o
theorem wp_region_in {P : Program} {id : Nat} {Q : Exit → Act → World → Prop} {a : Act} {w : World} {l : List Oper} (hm : P.follows .mixedOrders = true) (hB : Region.lexB .any l.toArray = true)
    (h : ∀ W0, Hid (W0 = w) → Nonempty (Class (Calm W0)) → wpQuiet P l.toArray (fun w' => ∃ x : Class (Calm W0), w' = x.wd) (fun a' => ∀ w', (∃ x : Class (Calm W0), w' = x.wd) → Q .normal a' w') l a) : (Code.region id l.toArray true).wp P Q a w :=
  wp_region_class (C := fun w' => ∃ x : Class (Calm w), w' = x.wd) hm hB ⟨⟨_, (Below.refl _ _).drew⟩, rfl⟩ (h w (Lib.hid rfl) ⟨⟨_, Below.refl _ _⟩⟩)
section
variable {P : Program} {ops : Array Oper} {md : Region.Mode} {C : World → Prop}
theorem head_lt {n i : Nat} {listed : Array Bool} (hs : Region.sinkB md ops n = true) (hc : Region.chainB md ops n = true) (hn : n < ops.size) (inv : HeadInv md ops n listed) (hi : i < n) (hun : listed.getD i true = false) :
    ∀ j ∈ Region.ready md ops listed, j < n := fun j hj => by
  rcases Nat.lt_or_ge j n with h | h
  · exact h
  · exact absurd hj (tail_waits hs hc hn inv _ i rfl hi hun j h)
theorem headC_first {n i : Nat} {oi : Oper} {v : Value} {L : Array Bool → Act → Prop} (hi : ops[i]? = some oi) (hsel : ∀ (j : Nat) (o : Oper) cs b, ops[j]? = some o → o.op ≠ .select cs b)
    (hs : Region.sinkB md ops n = true) (hc : Region.chainB md ops n = true) (hn : n < ops.size) (him : i < n) (hdone : ∀ listed a, L listed a → ∀ j ∈ Region.ready md ops listed, n ≤ j) :
    ∀ (f : Nat) (listed : Array Bool) (a : Act), HeadInv md ops n listed →
      (∀ j oj, ops[j]? = some oj → j ≠ i → listed.getD j true = false → (∀ e ∈ oj.after, Region.binds md e = true → e.on ≠ i) → oi.apart ops oj = true) →
      i ∈ Region.ready md ops listed → YieldsIn P ops C oi v a →
      headQ P md ops C n L f (listed.setIfInBounds i true) (a.put oi.dst v) → headQ P md ops C n L (f + 1) listed a := by
  intro f
  induction f with
  | zero =>
    intro listed a b _ hr hy H
    have hlt := head_lt hs hc hn b him (mem_ready.1 hr).1
    refine ⟨fun h => (by rw [h] at hr; cases hr), fun j hj => ⟨hlt j hj, ?_⟩⟩
    by_cases hji : j = i
    · subst hji; exact hy.qOp hi H
    · have h1 := hdone _ _ H j (ready_mono hj hji)
      have h2 := hlt j hj
      omega
  | succ f ih =>
    intro listed a b hfree hr hy H
    have hlt := head_lt hs hc hn b him (mem_ready.1 hr).1
    refine ⟨fun h => (by rw [h] at hr; cases hr), fun j hj => ⟨hlt j hj, ?_⟩⟩
    by_cases hji : j = i
    · subst hji; exact hy.qOp hi H
    · have h1 := (H.2 j (ready_mono hj hji)).2
      obtain ⟨hjun, oj, hoj, hall⟩ := mem_ready.1 hj
      have hnot : ∀ e ∈ oj.after, Region.binds md e = true → e.on ≠ i := fun e he hb heq => by
        have h1 := hall e he hb
        rw [heq, getD_dflt (mem_ready.1 hr).1] at h1
        cases h1
      have h2 := qOp_put hoj (hfree j oj hoj hji hjun hnot) (fun cs b => hsel i oi cs b hi) (fun cs b => hsel j oj cs b hoj) hy h1
      refine qOp_mono (fun a' h3 => ih (listed.setIfInBounds j true) a' (b.set hj (hlt j hj)) (fun k ok hk hki hun hno => hfree k ok hk hki ?_ hno) (ready_mono hr (Ne.symm hji)) h3.1 ?_) h2
      · by_cases hjk : j = k
        · subst hjk; exact hjun
        · rw [getD_set_ne true hjk] at hun; exact hun
      · rw [Array.setIfInBounds_comm _ _ hji]
        exact h3.2
theorem headC_lex {n g : Nat} {Lq : Act → Prop} (hsel : Region.noSelect ops = true) (hs : Region.sinkB md ops n = true) (hc : Region.chainB md ops n = true) (hn : n < ops.size) :
    ∀ (l : List Oper) (k : Nat) (listed : Array Bool) (a : Act), (∀ j, j < l.length → l[j]? = ops[k + j]?) → k + l.length = n → HeadInv md ops n listed →
    Region.lexHead md ops g l.length k listed = true → wpQuiet P ops C Lq l a →
    headQ P md ops C n (fun listed' a' => Region.seqB md ops g n listed' = true ∧ Lq a') l.length listed a
  | [], k, listed, a, _, hk, _, hB, h => by
    have : k = n := by simpa using hk
    subst this
    exact ⟨by simpa [Region.lexHead] using hB, h⟩
  | o :: l, k, listed, a, hl, hk, b, hB, h => by
    have h0 : ops[k]? = some o := by simpa using (hl 0 (by simp)).symm
    simp only [List.length_cons, Region.lexHead, Bool.and_eq_true] at hB
    obtain ⟨⟨hr, hf⟩, hB'⟩ := hB
    have hkm : k < n := by simp only [List.length_cons] at hk; omega
    have hr' : k ∈ Region.ready md ops listed := by simpa using hr
    have hst : qOp P ops C k (wpQuiet P ops C Lq l) a := by unfold qOp; simp only [h0]; exact h
    obtain ⟨v, hy, hK⟩ := yieldsIn_of_qOp h0 hst
    exact headC_first h0 (Region.noSelect_spec hsel) hs hc hn hkm (fun listed' a' hL => seqB_ready hL.1) l.length listed a b (Region.free_spec h0 hf) hr' hy
      (headC_lex hsel hs hc hn l (k + 1) _ _ (fun j hj => by have := hl (j + 1) (by simp; omega); simpa [Nat.add_assoc, Nat.add_comm 1 j] using this) (by simp only [List.length_cons] at hk; omega) (b.set hr' hkm) hB' hK)
end
theorem wp_region_tail {P : Program} {id : Nat} {Q : Exit → Act → World → Prop} {a : Act} {w : World} {l : List Oper} (n : Nat) (hm : P.follows .mixedOrders = true) (hB : Region.lexTailB .any l.toArray n = true)
    (h : ∀ W0, Hid (W0 = w) → Nonempty (Class (Calm W0)) → wpQuiet P l.toArray (fun w' => ∃ x : Class (Calm W0), w' = x.wd) (fun a' => ∀ w', (∃ x : Class (Calm W0), w' = x.wd) → wpList P l.toArray Q (l.drop n) a' w') (l.take n) a) :
    (Code.region id l.toArray true).wp P Q a w := by
  simp only [Region.lexTailB, Bool.and_eq_true, decide_eq_true_eq] at hB
  obtain ⟨⟨⟨⟨hsel, hn⟩, hs⟩, hc⟩, hlex⟩ := hB
  have hn' : n < l.length := by simpa using hn
  have htl : (l.take n).length = n := by simp; omega
  have hdl : (l.drop n).length = l.toArray.size - n := by simp
  have inv0 : HeadInv .any l.toArray n (Array.replicate l.toArray.size false) :=
    ⟨by simp, fun j oj _ hl => (by rw [getD_replicate_false] at hl; cases hl), fun t _ ht => getD_in (by simpa using ht) (getD_replicate_false _ _)⟩
  have H := headC_lex (md := .any) (g := l.toArray.size - n) hsel hs hc hn (l.take n) 0 _ a (fun j hj => by
    have hj' : j < n := by rw [htl] at hj; exact hj
    simp [hj']) (by simpa using htl) inv0 (by rw [htl]; exact hlex) (h w (Lib.hid rfl) ⟨⟨_, Below.refl _ _⟩⟩)
  refine wp_region_any hm ?_
  have := wpAny_of_headQ (Q' := Q) (g := l.toArray.size - n) (C := fun w' => ∃ x : Class (Calm w), w' = x.wd) (fun listed a' w' hw' hL => by
    have := wpAny_of_seq (md := .any) (Q' := Q) (l.drop n) n listed a' w' (fun j => by simp [List.getElem?_drop]) (by rw [hdl]; exact hL.1) (hL.2 w' hw')
    rwa [hdl] at this) _ _ _ w.drew ⟨⟨_, (Below.refl _ _).drew⟩, rfl⟩ H
  rw [htl, show n + (l.toArray.size - n) = l.toArray.size by omega] at this
  exact this
end Go.Proofs.YthfmkkkdjgkaoaaGreatDoor
namespace Go.Proofs.YthfmkkkdjgkaoaaGreatDoor
theorem beq0_t {x : Int} (h : (x == 0) = true) : x = 0 := by simpa using h
theorem beq0_f {x : Int} (h : (x == 0) = false) : x ≠ 0 := by simpa using h
abbrev okI (no sq of : Int) : Prop := 1 ≤ no ∧ no ≤ 16 ∧ sq ≤ 1099511627776 ∧ 0 ≤ of ∧ of ≤ 19999
def idC (no sq of : Int) : Int := if okI no sq of then 0 else 2
abbrev okN (de pr bo li to : Int) : Prop := 1 ≤ de ∧ de ≤ 16 ∧ 0 ≤ pr ∧ pr ≤ 2 ∧ 0 ≤ bo ∧ bo ≤ 1099511627776 ∧ 1 ≤ li ∧ li ≤ 1048576 ∧ 1 ≤ to ∧ to ≤ 20000
def buC (no sq of de pr bo li to n : Int) : Int :=
  if ¬ okI no sq of then 2 else if ¬ okN de pr bo li to then 2 else if n = 0 then 11 else if 1000 < n then 4 else if to < of + n then 12 else 0
theorem idC_cases (no sq of : Int) : (idC no sq of = 0 ∧ okI no sq of) ∨ (idC no sq of = 2 ∧ ¬ okI no sq of) := by
  unfold idC
  by_cases h : okI no sq of
  · exact .inl ⟨if_pos h, h⟩
  · exact .inr ⟨if_neg h, h⟩
theorem buC_cases (no sq of de pr bo li to n : Int) :
    (buC no sq of de pr bo li to n = 2 ∧ ¬ okI no sq of) ∨ (buC no sq of de pr bo li to n = 2 ∧ okI no sq of ∧ ¬ okN de pr bo li to) ∨
    (buC no sq of de pr bo li to n = 11 ∧ okI no sq of ∧ okN de pr bo li to ∧ n = 0) ∨ (buC no sq of de pr bo li to n = 4 ∧ okI no sq of ∧ okN de pr bo li to ∧ n ≠ 0 ∧ 1000 < n) ∨
    (buC no sq of de pr bo li to n = 12 ∧ okI no sq of ∧ okN de pr bo li to ∧ n ≠ 0 ∧ n ≤ 1000 ∧ to < of + n) ∨ (buC no sq of de pr bo li to n = 0 ∧ okI no sq of ∧ okN de pr bo li to ∧ n ≠ 0 ∧ n ≤ 1000 ∧ of + n ≤ to) := by
  unfold buC
  by_cases h1 : okI no sq of
  · rw [if_neg (not_not_intro h1)]
    by_cases h2 : okN de pr bo li to
    · rw [if_neg (not_not_intro h2)]
      by_cases h3 : n = 0
      · exact .inr (.inr (.inl ⟨if_pos h3, h1, h2, h3⟩))
      · rw [if_neg h3]
        by_cases h4 : 1000 < n
        · exact .inr (.inr (.inr (.inl ⟨if_pos h4, h1, h2, h3, h4⟩)))
        · rw [if_neg h4]
          by_cases h5 : to < of + n
          · exact .inr (.inr (.inr (.inr (.inl ⟨if_pos h5, h1, h2, h3, by omega, h5⟩))))
          · exact .inr (.inr (.inr (.inr (.inr ⟨if_neg h5, h1, h2, h3, by omega, by omega⟩))))
    · exact .inr (.inl ⟨if_pos h2, h1, h2⟩)
  · exact .inl ⟨if_pos h1, h1⟩
theorem buC_ok {no sq of de pr bo li to n : Int} (h : buC no sq of de pr bo li to n = 0) : okI no sq of ∧ okN de pr bo li to ∧ n ≠ 0 ∧ n ≤ 1000 ∧ of + n ≤ to := by
  rcases buC_cases no sq of de pr bo li to n with h1 | h1 | h1 | h1 | h1 | h1 <;> first | (exact h1.2) | (rw [h] at h1; exact absurd h1.1 (by decide))
end Go.Proofs.YthfmkkkdjgkaoaaGreatDoor
namespace Go.Proofs.YthfmkkkdjgkaoaaGreatDoor
open Go.RowKit
structure Spares (B Bn : Nat) (W W' : World) : Prop where
  os : W'.os = W.os
  tape : W'.tape = W.tape
  output : W'.output = W.output
  size : W.heap.size ≤ W'.heap.size
  block : ∀ k, k < B → k ≠ Bn → W'.heap[k]? = W.heap[k]?
theorem Spares.alloc {B Bn : Nat} {W : World} (h : B ≤ W.heap.size) (o : Obj) : Spares B Bn W (W.alloc o) :=
  ⟨rfl, rfl, rfl, by simp, fun k hk _ => Below.heap_alloc W o k (by omega)⟩
theorem Spares.putObj {B Bn : Nat} {W : World} {l : Nat} (h : B ≤ l) (o : Obj) : Spares B Bn W (W.putObj l o) :=
  ⟨rfl, rfl, rfl, by simp, fun k hk _ => World.putObj_heap_other (by omega)⟩
theorem Spares.setCell {B : Nat} {W : World} (a : Addr) (x : Value) : Spares B a.block W (W.setCell a x) :=
  ⟨rfl, rfl, rfl, (KeepsWalks.setCell W a x).size, fun k _ hk => Below.heap_setCell W a x k hk⟩
theorem Spares.below {B Bn n₀ : Nat} {w W W' : World} (h : Spares B Bn W W') (hb : Below n₀ w W) (h1 : n₀ ≤ B) (h2 : n₀ ≤ Bn) : Below n₀ w W' :=
  ⟨h.os.trans hb.os, h.tape.trans hb.tape, h.output.trans hb.output, Nat.le_trans hb.size h.size, fun k hk => (h.block k (by omega) (by omega)).trans (hb.block k hk)⟩
theorem Spares.boxed {B Bn b : Nat} {t : TypeId} {v : Value} {W W' : World} (h : Spares B Bn W W') (hb : Boxed W b t v) (h1 : b < B) (h2 : b ≠ Bn) : Boxed W' b t v := (h.block b h1 h2).trans hb
variable {F : Fence} {n : Nat} {P : Program}
theorem rangeFunc_rounds {g : Operand} {ps : Array Tmp} {assign body : Code} {Q : Exit → Act → World → Prop} {a : Act} {w : World}
    (hro : F.round = none) (h1 : 1 ≤ n) {gf : Nat} {lb : Array Value} (hg : a.eval g = .func (.func gf) #[] lb) (hFg : F.fn gf) (eg : ∀ args w, (callFunc gf args).run P w = .ok (.enter gf args) w)
    (encs : Nat → Array Value) (hps : ∀ k, (encs k).size = ps.size) (N Bn : Nat) (hBn : Bn < w.heap.size)
    (I : Nat → World → Prop) (hI : ∀ k W W', I k W → Spares w.heap.size Bn W W' → I k W') (h0 : I 0 w)
    (hseq : ∀ (l : Nat) (J : Nat → World → Prop) (W : World), (∀ k W x, J k W → J k (W.setCell ⟨Bn, 0, none⟩ x)) →
      (∀ k W1, J k W1 → k < N → YieldAt F (n - 1 - 1) P l (encs k) W1 fun e W' => e = .returned (.bool true) ∧ J (k + 1) W' ∧ W'.heap[Bn]? = W1.heap[Bn]?) →
      J 0 W → W.heap[Bn]? = w.heap[Bn]? → CallsIn F (n - 1) P gf (#[.func (.yield l) #[] #[]] ++ lb) W fun e W' => (∃ v, e = .returned v) ∧ J N W')
    (a₁ : Nat → Act)
    (hassign : ∀ (l k : Nat) (W : World) (K : Act → World → Prop), K (a₁ k) W →
      assign.wpIn (F.inRound l) (n - 1 - 1) P (Exit.then K (fun _ _ _ => False)) { tmps := (ps.zip (encs k)).foldl (fun t (p, v) => t.setIfInBounds p v) a.tmps, defers := [] } W)
    (hbody : ∀ (l k : Nat) (W : World), I k W → k < N → body.wpIn (F.inRound l) (n - 1 - 1) P (Exit.then (fun _ W' => KeepsOthers W W' ∧ W'.heap[Bn]? = W.heap[Bn]? ∧ I (k + 1) W') (fun _ _ _ => False)) (a₁ k) W)
    (hdone : ∀ (D : Nat) (W : World), w.heap.size ≤ D → I N W → W.heap[D]? = some (.deferred (some [])) → Q .normal { a with defers := { target := .collected D, args := #[] } :: a.defers } W) :
    (Code.rangeFunc g ps assign body).wpIn F n P Q a w := by
  refine wpIn_rangeFunc ?_
  intro fn hfn
  rw [hro]
  obtain ⟨rec, hrec⟩ : ∃ rec : LoopState → Option Code → Loop, rec = fun st pe => { state := st, pending := pe, fn, tmps := a.tmps, params := ps, assign, body, defers := w.heap.size } := ⟨_, rfl⟩
  obtain ⟨W1, hW1⟩ : ∃ W1, (w.alloc (.deferred (some []))).alloc (.loop (rec .ready none)) = W1 := ⟨_, rfl⟩
  have hL1 : W1.heap[w.heap.size + 1]? = some (.loop (rec .ready none)) := by
    rw [← hW1]; have := World.alloc_heap_new (w.alloc (.deferred (some []))) (.loop (rec .ready none)); rwa [World.size_alloc] at this
  have hK1 : W1.heap[w.heap.size]? = some (.deferred (some [])) := by
    rw [← hW1]; exact (Below.heap_alloc _ _ _ (by simp)).trans (World.alloc_heap_new w _)
  have hI1 : I 0 W1 := by rw [← hW1]; exact hI _ _ _ (hI _ _ _ h0 (Spares.alloc (Nat.le_refl _) _)) (Spares.alloc (by simp) _)
  have hB1 : W1.heap[Bn]? = w.heap[Bn]? := by
    rw [← hW1]; exact (Below.heap_alloc _ _ _ (by simp; omega)).trans (Below.heap_alloc _ _ _ hBn)
  refine ⟨w.heap.size + 1, [{ target := .collected w.heap.size, args := #[] }], W1, { target := .fn (.func gf) lb, args := #[.func (.yield (w.heap.size + 1)) #[] #[]] }, W1, gf,
    #[.func (.yield (w.heap.size + 1)) #[] #[]] ++ lb, W1, ?_, ?_, ?_, ?_, fun _ => h1, ?_⟩
  · rw [← hW1, hrec]; exact run_enterLoop_outer _ _ _ _ _
  · simp only [resolve, hg]
    simp [go_sem]
  · intro f' hf'; simp [Target.leads] at hf'; subst hf'; exact hFg
  · simp [invoke, go_sem, eg]
  · refine (hseq (w.heap.size + 1)
      (fun k W => I k W ∧ W.heap[w.heap.size + 1]? = some (.loop (rec .ready none)) ∧ W.heap[w.heap.size]? = some (.deferred (some [])))
      W1 ?_ ?_ ⟨hI1, hL1, hK1⟩ hB1).mono ?_
    · rintro k W x ⟨hi, hl, hk⟩
      exact ⟨hI _ _ _ hi (Spares.setCell ⟨Bn, 0, none⟩ x), (Below.heap_setCell W ⟨Bn, 0, none⟩ x _ (by show _ ≠ Bn; omega)).trans hl, (Below.heap_setCell W ⟨Bn, 0, none⟩ x _ (by show _ ≠ Bn; omega)).trans hk⟩
    · rintro k W ⟨hi, hl, hk⟩ hlen
      have hlt : w.heap.size + 1 < W.heap.size := (Array.getElem?_eq_some_iff.1 hl).1
      have hy := run_yield (P := P) (args := encs k) hl (by rw [hrec]; exact hps k)
      rw [hrec] at hy
      refine ⟨fn, _, assign, body, hy, roundIn_of_wpIn hfn (hassign _ k W _ ⟨_, run_beginRound hl (by rw [hrec]), ?_⟩)⟩
      have hl2 : (W.putObj (w.heap.size + 1) (.loop { rec .ready none with state := .busy })).heap[w.heap.size + 1]? = some (.loop { rec .ready none with state := .busy }) := World.putObj_heap_same hlt
      have hk2 : (W.putObj (w.heap.size + 1) (.loop { rec .ready none with state := .busy })).heap[w.heap.size]? = some (.deferred (some [])) := (World.putObj_heap_other (by omega)).trans hk
      refine wpIn_mono (hbody _ k _ (hI _ _ _ hi (Spares.putObj (by omega) _)) hlen) ?_
      rintro e a3 W3 hp
      cases e with
      | normal =>
        obtain ⟨hk3, hb3, hi3⟩ := hp
        have hl3 := hk3.same _ _ hl2 rfl
        have hd3 := hk3.same _ _ hk2 rfl
        have hend := run_endRound (P := P) none hl3
        rw [hrec] at hend hl3
        refine ⟨_, _, hend, rfl, ⟨hI _ _ _ hi3 (Spares.putObj (by omega) _), ?_, (World.putObj_heap_other (by omega)).trans hd3⟩, ?_⟩
        · rw [hrec]; exact World.putObj_heap_same (Array.getElem?_eq_some_iff.1 hl3).1
        · exact (World.putObj_heap_other (by omega)).trans (hb3.trans (World.putObj_heap_other (by omega)))
      | ret => exact hp.elim
      | exit id => exact hp.elim
      | goto t => exact hp.elim
      | panic ch => exact hp.elim
      | outgrown => exact hp.elim
    · rintro e W2 ⟨⟨v, rfl⟩, hi, hl, hk⟩
      exact ⟨none, _, by have := run_endLoop (P := P) hl (by rw [hrec]; simp); rw [hrec] at this; exact this, hdone _ _ (Nat.le_refl _) (hI _ _ _ hi (Spares.putObj (by omega) _)) ((World.putObj_heap_other (by omega)).trans hk)⟩
end Go.Proofs.YthfmkkkdjgkaoaaGreatDoor
namespace Go.Proofs.YthfmkkkdjgkaoaaGreatDoor
open Go.RowKit
abbrev CellKind := Option (Option IntKind)
def CellIs : CellKind → Value → Prop
  | some (some k), v => ∃ n : Int, v = .int k n ∧ (Lit.int k n).wf = true
  | some none, v => ∃ s : ByteArray, v = .string s ∧ s.size ≤ maxLen
  | none, v => ∃ b : Bool, v = .bool b
def CellsAre : List CellKind → List Value → Prop
  | [], [] => True
  | k :: ks, c :: cs => CellIs k c ∧ CellsAre ks cs
  | _, _ => False
theorem CellsAre.cons {k : CellKind} {ks : List CellKind} {cs : List Value} (h : CellsAre (k :: ks) cs) : ∃ c cs', cs = c :: cs' ∧ CellIs k c ∧ CellsAre ks cs' := by
  match cs, h with
  | c :: cs', h => exact ⟨c, cs', rfl, h.1, h.2⟩
theorem CellsAre.nil {cs : List Value} (h : CellsAre [] cs) : cs = [] := by
  match cs, h with
  | [], _ => rfl
theorem CellsAre.append : ∀ {ks ks' : List CellKind} {cs cs' : List Value}, CellsAre ks cs → CellsAre ks' cs' → CellsAre (ks ++ ks') (cs ++ cs')
  | [], _, [], _, _, h => h
  | k :: ks, _, c :: cs, _, h, h' => ⟨h.1, CellsAre.append h.2 h'⟩
theorem CellsAre.length : ∀ {ks : List CellKind} {cs : List Value}, CellsAre ks cs → cs.length = ks.length
  | [], [], _ => rfl
  | k :: ks, c :: cs, h => by simp [CellsAre.length h.2]
def flatParts (g : TypeId → Option (List CellKind)) : List (Nat × TypeId) → Nat → Option (List CellKind)
  | [], _ => some []
  | (off, t) :: l, o => if off = o then (g t).bind fun ks => (flatParts g l (o + ks.length)).bind fun rest => some (ks ++ rest) else none
def flat (P : Program) : Nat → TypeId → Option (List CellKind)
  | 0, _ => none
  | n + 1, t => match P.underlying t with
    | some (.int k) => some [some (some k)]
    | some .string => some [some none]
    | some .bool => some [none]
    | some (.struct fs) => (flatParts (fun u => (flat P n u).bind fun ks => if ks.length = P.cellsOf u then some ks else none) (fs.toList.map fun f => (f.offset, f.type)) 0).bind fun ks => if ks.length = P.cellsOf t then some ks else none
    | some (.array m e) => (flatParts (fun u => (flat P n u).bind fun ks => if ks.length = P.cellsOf u then some ks else none) ((List.range m).map fun i => (i * P.cellsOf e, e)) 0).bind fun ks => if ks.length = P.cellsOf t then some ks else none
    | _ => none
section
open Go.ChangeShapes Go.WideShapes Go.Deep
variable {H : Type} {enc : TypeId × Value → H} {P : Program} {w : World} {base : Nat} {spare : Nat → Bool} {held : Bool}
theorem parts_are {g : TypeId → Option (List CellKind)} {cs : List Value} : ∀ (l : List (Nat × TypeId)) (o : Nat) (ks : List CellKind), flatParts g l o = some ks → o + ks.length = cs.length →
    (∀ p ∈ l, ∀ ks', g p.2 = some ks' → CellsAre ks' ((cs.drop p.1).take ks'.length)) → CellsAre ks (cs.drop o)
  | [], o, ks, h, hl, _ => by
    simp [flatParts] at h; subst h
    have : cs.drop o = [] := by simp at hl ⊢; omega
    rw [this]; trivial
  | (off, t) :: l, o, ks, h, hl, hp => by
    unfold flatParts at h
    split at h
    · rename_i ho; subst ho
      cases hg : g t with
      | none => rw [hg] at h; simp at h
      | some k1 =>
        rw [hg] at h
        simp only [Option.bind_some] at h
        cases hf : flatParts g l (off + k1.length) with
        | none => rw [hf] at h; simp at h
        | some k2 =>
          rw [hf] at h
          simp at h
          subst h
          have h1 := hp (off, t) (by simp) k1 hg
          have h2 := parts_are (cs := cs) l (off + k1.length) k2 hf (by simp at hl; omega) fun p hp' => hp p (by simp [hp'])
          have h3 := h1.append h2
          have : (cs.drop off).take k1.length ++ cs.drop (off + k1.length) = cs.drop off := by
            rw [← List.drop_drop]; exact List.take_append_drop _ _
          rwa [this] at h3
    · simp at h
theorem flat_are : ∀ (n : Nat) (t : TypeId) (ks : List CellKind) (fuel : Nat) (cs : List Value) (x : DataW H × List MemPlace), flat P n t = some ks → DataW.trod enc P w base spare held fuel t cs = some x → CellsAre ks cs
  | 0, _, _, _, _, _, h, _ => by simp [flat] at h
  | n + 1, t, ks, fuel, cs, x, h, ht => by
    unfold flat at h
    split at h
    · rename_i k hu
      obtain ⟨m, h1, _, h3⟩ := DataW.trod_int hu ht
      simp at h; subst h; subst h1
      exact ⟨⟨m, rfl, h3⟩, trivial⟩
    · rename_i hu
      obtain ⟨s, h1, _, h3⟩ := DataW.trod_string hu ht
      simp at h; subst h; subst h1
      exact ⟨⟨s, rfl, h3⟩, trivial⟩
    · rename_i hu
      obtain ⟨b, h1, _⟩ := DataW.trod_bool hu ht
      simp at h; subst h; subst h1
      exact ⟨⟨b, rfl⟩, trivial⟩
    · rename_i fs hu
      obtain ⟨xs, m, _, _, hlen, hxs, hg⟩ := DataW.trod_struct hu ht
      cases hf : flatParts (fun u => (flat P n u).bind fun ks => if ks.length = P.cellsOf u then some ks else none) (fs.toList.map fun f => (f.offset, f.type)) 0 with
      | none => rw [hf] at h; simp at h
      | some k1 =>
        rw [hf] at h
        simp only [Option.bind_some] at h
        split at h
        · rename_i hk
          simp at h; subst h
          have := parts_are (cs := cs) _ 0 k1 hf (by omega) fun p hp ks' hks => by
            obtain ⟨f, hfm, rfl⟩ := List.mem_map.1 hp
            obtain ⟨i, hi, hfi⟩ := List.getElem_of_mem hfm
            have hi' : i < fs.size := by simpa using hi
            have hg' := hg i f (by rw [Array.getElem?_eq_getElem hi']; simpa using hfi)
            rw [List.getElem?_eq_getElem (by omega)] at hg'
            cases hfl : flat P n f.type with
            | none => simp [hfl] at hks
            | some k2 =>
              simp only [hfl, Option.bind_some] at hks
              split at hks
              · rename_i hc
                simp at hks; subst hks
                rw [← hc] at hg'
                exact flat_are n f.type k2 _ _ _ hfl hg'
              · simp at hks
          simpa using this
        · simp at h
    · rename_i mm e hu
      obtain ⟨xs, m, _, _, hlen, hxs, hg⟩ := DataW.trod_array hu ht
      cases hf : flatParts (fun u => (flat P n u).bind fun ks => if ks.length = P.cellsOf u then some ks else none) ((List.range mm).map fun i => (i * P.cellsOf e, e)) 0 with
      | none => rw [hf] at h; simp at h
      | some k1 =>
        rw [hf] at h
        simp only [Option.bind_some] at h
        split at h
        · rename_i hk
          simp at h; subst h
          have := parts_are (cs := cs) _ 0 k1 hf (by omega) fun p hp ks' hks => by
            obtain ⟨i, hi, rfl⟩ := List.mem_map.1 hp
            have hi' : i < mm := by simpa using hi
            have hg' := hg i hi'
            rw [List.getElem?_eq_getElem (by omega)] at hg'
            dsimp only at hks ⊢
            cases hfl : flat P n e with
            | none => simp [hfl] at hks
            | some k2 =>
              simp only [hfl, Option.bind_some] at hks
              split at hks
              · rename_i hc
                simp at hks; subst hks
                rw [← hc] at hg'
                rw [← hc]
                exact flat_are n e k2 _ _ _ hfl hg'
              · simp at hks
          simpa using this
        · simp at h
    · simp at h
theorem open_flat {r : Reach} {b0 : Nat} {t : TypeId} {fs : Array Field} {v : Value} {d : DataW H} {p : List MemPlace} {ks : List CellKind} (n : Nat) (hs : P.underlying t = some (.struct fs)) (hks : flat P n t = some ks)
    (hv : Value.okWide P w r b0 t v) (h : DataW.Trod enc P w base spare held t v d p) : ∃ cs : List Value, v = .agg cs.toArray ∧ CellsAre ks cs := by
  obtain ⟨cs, rfl, hsz⟩ := okWide_struct hs hv
  obtain ⟨fuel, hf⟩ := h
  exact ⟨cs.toList, by simp, flat_are n t ks fuel _ _ hks hf⟩
end
end Go.Proofs.YthfmkkkdjgkaoaaGreatDoor
