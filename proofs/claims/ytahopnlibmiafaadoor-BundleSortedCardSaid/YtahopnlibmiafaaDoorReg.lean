/- Regions that draw their order, in the class of the worlds that lie above the world at their head; structs of numbers that come in by value. -/
import Derived.Test.YtahopnlibmiafaaDoorBlk
import Derived.Test.YtahopnlibmiafaaDoorQTail
import Derived.BigQuiet
import Derived.Deep.Fields
import Derived.ChangeShapes
import Derived.WideShapes
namespace Go.Proofs.YtahopnlibmiafaaDoor
set_option linter.unusedVariables false
open Go.RowKit

theorem wp_region_class {P : Program} {C : World → Prop} {id : Nat} {Q : Exit → Act → World → Prop} {a : Act} {w : World} {l : List Oper} (hm : P.follows .mixedOrders = true) (hB : Region.lexB .any l.toArray = true) (hC : C w.drew)
    (h : wpQuiet P l.toArray C (fun a' => ∀ w', C w' → Q .normal a' w') l a) : (Code.region id l.toArray true).wp P Q a w :=
  wp_region_quiet (C := C) hm hB hC (by simpa using h)

section
open Go.ChangeShapes Go.WideShapes Go.Deep
variable {H : Type} {enc : TypeId × Value → H} {P : Program} {w : World} {base : Nat} {spare : Nat → Bool} {held : Bool}
/-- A struct by value whose fields are all of one type of integers: its numbers. -/
theorem open_nums {r : Reach} {b0 : Nat} {t ti : TypeId} {k : IntKind} {fs : Array Field} {v : Value} {d : DataW H} {p : List MemPlace} (hs : P.underlying t = some (.struct fs)) (hone : oneCellFields P fs = true) (hC : P.cellsOf t = fs.size)
    (hall : (fs.all fun f => f.type == ti) = true) (hti : P.underlying ti = some (.int k)) (hv : Value.okWide P w r b0 t v) (h : DataW.Trod enc P w base spare held t v d p) :
    ∃ ns : List Int, ns.length = fs.size ∧ v = .agg (ns.map (Value.int k)).toArray ∧ ∀ n ∈ ns, (Lit.int k n).wf = true := by
  obtain ⟨cs, rfl, hsz⟩ := okWide_struct hs hv
  rw [hC] at hsz
  obtain ⟨fuel, hf⟩ := h
  obtain ⟨xs, m, _, _, _, hlen, hg⟩ := DataW.trod_struct hs hf
  have key : ∀ j (hj : j < cs.size), ∃ n, cs[j] = .int k n ∧ (Lit.int k n).wf = true := fun j hj => by
    have hj' : j < fs.size := by omega
    have hfj : fs[j]? = some fs[j] := Array.getElem?_eq_getElem hj'
    obtain ⟨ho, hk⟩ := hone_of hone j _ hfj
    have hty : fs[j].type = ti := by
      have := Array.all_eq_true.1 hall j hj'
      simpa using this
    have h1 := hg j _ hfj
    rw [ho, hk, hty, List.getElem?_eq_getElem (by omega)] at h1
    obtain ⟨n, h2, _, h3⟩ := DataW.trod_int hti h1
    have h4 : ((Value.agg cs).cells.toList.drop j).take 1 = [cs[j]] := by
      have : (Value.agg cs).cells = cs := rfl
      rw [this, List.drop_eq_getElem_cons (by simpa using hj)]
      simp
    rw [h4] at h2
    exact ⟨n, by simpa using h2, h3⟩
  have num : ∀ l : List Value, (∀ j (hj : j < l.length), ∃ n, l[j] = .int k n ∧ (Lit.int k n).wf = true) → ∃ ns : List Int, l = ns.map (Value.int k) ∧ ∀ n ∈ ns, (Lit.int k n).wf = true := by
    intro l
    induction l with
    | nil => exact fun _ => ⟨[], rfl, by simp⟩
    | cons x l ih =>
      intro hl
      obtain ⟨ns, h1, h2⟩ := ih fun j hj => by have := hl (j + 1) (by simpa using hj); rwa [List.getElem_cons_succ] at this
      obtain ⟨n, h3, h4⟩ := hl 0 (by simp)
      exact ⟨n :: ns, by simp [h1, show x = _ from h3], by simpa using ⟨h4, h2⟩⟩
  obtain ⟨ns, h1, h2⟩ := num cs.toList fun j hj => by simpa using key j (by simpa using hj)
  have h3 : cs = (ns.map (Value.int k)).toArray := by rw [← h1]
  refine ⟨ns, ?_, by rw [h3], h2⟩
  have := congrArg Array.size h3
  simp at this
  omega
end

/-! ### The class of the worlds above one world -/
theorem Class.go {W0 : World} {P : Program} {f : FuncId} {args : Array Value} {v : Value} (x : Class (Calm W0)) (h : Calls P f args x.wd fun e w' => e = .returned v ∧ Below x.wd.heap.size x.wd w') :
    Calls P f args x.wd fun e w' => e = .returned v ∧ ∃ y : Class (Calm W0), w' = y.wd :=
  h.mono fun e w' ⟨he, hb⟩ => ⟨he, ⟨w', bt x.ok hb⟩, rfl⟩
theorem Class.same {W0 : World} {P : Program} {f : FuncId} {args : Array Value} {v : Value} (x : Class (Calm W0)) (h : Calls P f args x.wd fun e w' => e = .returned v ∧ x.wd = w') :
    Calls P f args x.wd fun e w' => e = .returned v ∧ ∃ y : Class (Calm W0), w' = y.wd :=
  h.mono fun e w' ⟨he, hb⟩ => ⟨he, x, hb.symm⟩
/-- A block of the head's world in each world of the class. -/
theorem calm_kn {W0 : World} {b : Nat} {c : Array Value} (h : blk W0 b = some c) : ∀ (x : Class (Calm W0)) o, x.wd.cell? ⟨b, o, none⟩ = c[o]? := fun x o => blk_cell (blk_below x.ok h) o
theorem wp_region_in {P : Program} {id : Nat} {Q : Exit → Act → World → Prop} {a : Act} {w : World} {l : List Oper} (hm : P.follows .mixedOrders = true) (hB : Region.lexB .any l.toArray = true)
    (h : ∀ W0, Hid (W0 = w) → Nonempty (Class (Calm W0)) → wpQuiet P l.toArray (fun w' => ∃ x : Class (Calm W0), w' = x.wd) (fun a' => ∀ w', (∃ x : Class (Calm W0), w' = x.wd) → Q .normal a' w') l a) : (Code.region id l.toArray true).wp P Q a w :=
  wp_region_class (C := fun w' => ∃ x : Class (Calm w), w' = x.wd) hm hB ⟨⟨_, (Below.refl _ _).drew⟩, rfl⟩ (h w (Lib.hid rfl) ⟨⟨_, Below.refl _ _⟩⟩)
section
variable {P : Program} {ops : Array Oper} {md : Region.Mode} {C : World → Prop}
theorem head_lt {n i : Nat} {listed : Array Bool} (hs : Region.sinkB md ops n = true) (hc : Region.chainB md ops n = true) (hn : n < ops.size) (inv : HeadInv md ops n listed) (hi : i < n) (hun : listed.getD i true = false) :
    ∀ j ∈ Region.ready md ops listed, j < n := fun j hj => by
  rcases Nat.lt_or_ge j n with h | h
  · exact h
  · exact absurd hj (tail_waits hs hc hn inv _ i rfl hi hun j h)
theorem headC_first {n i : Nat} {oi : Oper} {v : Value} {L : Array Bool → Act → Prop} (hi : ops[i]? = some oi) (hsel : ∀ (j : Nat) (o : Oper) cs b, ops[j]? = some o → o.op ≠ .select cs b)
    (hs : Region.sinkB md ops n = true) (hc : Region.chainB md ops n = true) (hn : n < ops.size) (him : i < n) (hdone : ∀ listed a, L listed a → ∀ j ∈ Region.ready md ops listed, n ≤ j) :
    ∀ (f : Nat) (listed : Array Bool) (a : Act), HeadInv md ops n listed →
      (∀ j oj, ops[j]? = some oj → j ≠ i → listed.getD j true = false → (∀ e ∈ oj.after, Region.binds md e = true → e.on ≠ i) → oi.apart ops oj = true) →
      i ∈ Region.ready md ops listed → YieldsIn P ops C oi v a →
      headQ P md ops C n L f (listed.setIfInBounds i true) (a.put oi.dst v) → headQ P md ops C n L (f + 1) listed a := by
  intro f
  induction f with
  | zero =>
    intro listed a b _ hr hy H
    have hlt := head_lt hs hc hn b him (mem_ready.1 hr).1
    refine ⟨fun h => (by rw [h] at hr; cases hr), fun j hj => ⟨hlt j hj, ?_⟩⟩
    by_cases hji : j = i
    · subst hji; exact hy.qOp hi H
    · have h1 := hdone _ _ H j (ready_mono hj hji)
      have h2 := hlt j hj
      omega
  | succ f ih =>
    intro listed a b hfree hr hy H
    have hlt := head_lt hs hc hn b him (mem_ready.1 hr).1
    refine ⟨fun h => (by rw [h] at hr; cases hr), fun j hj => ⟨hlt j hj, ?_⟩⟩
    by_cases hji : j = i
    · subst hji; exact hy.qOp hi H
    · have h1 := (H.2 j (ready_mono hj hji)).2
      obtain ⟨hjun, oj, hoj, hall⟩ := mem_ready.1 hj
      have hnot : ∀ e ∈ oj.after, Region.binds md e = true → e.on ≠ i := fun e he hb heq => by
        have h1 := hall e he hb
        rw [heq, getD_dflt (mem_ready.1 hr).1] at h1
        cases h1
      have h2 := qOp_put hoj (hfree j oj hoj hji hjun hnot) (fun cs b => hsel i oi cs b hi) (fun cs b => hsel j oj cs b hoj) hy h1
      refine qOp_mono (fun a' h3 => ih (listed.setIfInBounds j true) a' (b.set hj (hlt j hj)) (fun k ok hk hki hun hno => hfree k ok hk hki ?_ hno) (ready_mono hr (Ne.symm hji)) h3.1 ?_) h2
      · by_cases hjk : j = k
        · subst hjk; exact hjun
        · rw [getD_set_ne true hjk] at hun; exact hun
      · rw [Array.setIfInBounds_comm _ _ hji]
        exact h3.2
theorem headC_lex {n g : Nat} {Lq : Act → Prop} (hsel : Region.noSelect ops = true) (hs : Region.sinkB md ops n = true) (hc : Region.chainB md ops n = true) (hn : n < ops.size) :
    ∀ (l : List Oper) (k : Nat) (listed : Array Bool) (a : Act), (∀ j, j < l.length → l[j]? = ops[k + j]?) → k + l.length = n → HeadInv md ops n listed →
    Region.lexHead md ops g l.length k listed = true → wpQuiet P ops C Lq l a →
    headQ P md ops C n (fun listed' a' => Region.seqB md ops g n listed' = true ∧ Lq a') l.length listed a
  | [], k, listed, a, _, hk, _, hB, h => by
    have : k = n := by simpa using hk
    subst this
    exact ⟨by simpa [Region.lexHead] using hB, h⟩
  | o :: l, k, listed, a, hl, hk, b, hB, h => by
    have h0 : ops[k]? = some o := by simpa using (hl 0 (by simp)).symm
    simp only [List.length_cons, Region.lexHead, Bool.and_eq_true] at hB
    obtain ⟨⟨hr, hf⟩, hB'⟩ := hB
    have hkm : k < n := by simp only [List.length_cons] at hk; omega
    have hr' : k ∈ Region.ready md ops listed := by simpa using hr
    have hst : qOp P ops C k (wpQuiet P ops C Lq l) a := by unfold qOp; simp only [h0]; exact h
    obtain ⟨v, hy, hK⟩ := yieldsIn_of_qOp h0 hst
    exact headC_first h0 (Region.noSelect_spec hsel) hs hc hn hkm (fun listed' a' hL => seqB_ready hL.1) l.length listed a b (Region.free_spec h0 hf) hr' hy
      (headC_lex hsel hs hc hn l (k + 1) _ _ (fun j hj => by have := hl (j + 1) (by simp; omega); simpa [Nat.add_assoc, Nat.add_comm 1 j] using this) (by simp only [List.length_cons] at hk; omega) (b.set hr' hkm) hB' hK)
end
/-- The same with a tail of forced order behind n quiet operations. -/
theorem wp_region_tail {P : Program} {id : Nat} {Q : Exit → Act → World → Prop} {a : Act} {w : World} {l : List Oper} (n : Nat) (hm : P.follows .mixedOrders = true) (hB : Region.lexTailB .any l.toArray n = true)
    (h : ∀ W0, Hid (W0 = w) → Nonempty (Class (Calm W0)) → wpQuiet P l.toArray (fun w' => ∃ x : Class (Calm W0), w' = x.wd) (fun a' => ∀ w', (∃ x : Class (Calm W0), w' = x.wd) → wpList P l.toArray Q (l.drop n) a' w') (l.take n) a) :
    (Code.region id l.toArray true).wp P Q a w := by
  simp only [Region.lexTailB, Bool.and_eq_true, decide_eq_true_eq] at hB
  obtain ⟨⟨⟨⟨hsel, hn⟩, hs⟩, hc⟩, hlex⟩ := hB
  have hn' : n < l.length := by simpa using hn
  have htl : (l.take n).length = n := by simp; omega
  have hdl : (l.drop n).length = l.toArray.size - n := by simp
  have inv0 : HeadInv .any l.toArray n (Array.replicate l.toArray.size false) :=
    ⟨by simp, fun j oj _ hl => (by rw [getD_replicate_false] at hl; cases hl), fun t _ ht => getD_in (by simpa using ht) (getD_replicate_false _ _)⟩
  have H := headC_lex (md := .any) (g := l.toArray.size - n) hsel hs hc hn (l.take n) 0 _ a (fun j hj => by
    have hj' : j < n := by rw [htl] at hj; exact hj
    simp [hj']) (by simpa using htl) inv0 (by rw [htl]; exact hlex) (h w (Lib.hid rfl) ⟨⟨_, Below.refl _ _⟩⟩)
  refine wp_region_any hm ?_
  have := wpAny_of_headQ (Q' := Q) (g := l.toArray.size - n) (C := fun w' => ∃ x : Class (Calm w), w' = x.wd) (fun listed a' w' hw' hL => by
    have := wpAny_of_seq (md := .any) (Q' := Q) (l.drop n) n listed a' w' (fun j => by simp [List.getElem?_drop]) (by rw [hdl]; exact hL.1) (hL.2 w' hw')
    rwa [hdl] at this) _ _ _ w.drew ⟨⟨_, (Below.refl _ _).drew⟩, rfl⟩ H
  rw [htl, show n + (l.toArray.size - n) = l.toArray.size by omega] at this
  exact this
end Go.Proofs.YtahopnlibmiafaaDoor
