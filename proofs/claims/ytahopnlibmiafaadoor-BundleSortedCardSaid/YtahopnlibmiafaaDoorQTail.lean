/- A region that draws its order, whose first m operations are quiet in a class of worlds (loads, arithmetic, calls that leave a world of the class) and whose tail runs in one forced order; one operation p that yields its value in any world may lie between them. -/
import Derived.Test.YtahopnlibmiafaaDoorBase
import Derived.StillTail
import Derived.Deep.RegionHeld3
namespace Go.Proofs.YtahopnlibmiafaaDoor
set_option linter.unusedVariables false
section
variable {P : Program} {ops : Array Oper} {md : Region.Mode} {C : World → Prop}

/-- Every order of the operations below m, each quiet; then L. -/
def headQ (P : Program) (md : Region.Mode) (ops : Array Oper) (C : World → Prop) (m : Nat) (L : Array Bool → Act → Prop) : Nat → Array Bool → Act → Prop
  | 0, listed, a => L listed a
  | f + 1, listed, a => Region.ready md ops listed ≠ [] ∧ ∀ i ∈ Region.ready md ops listed, i < m ∧ qOp P ops C i (headQ P md ops C m L f (listed.setIfInBounds i true)) a

theorem wpAny_of_headQ {m g : Nat} {L : Array Bool → Act → Prop} {Q' : Exit → Act → World → Prop} (hL : ∀ listed a w, C w → L listed a → wpAny P md ops Q' g listed a w) :
    ∀ (f : Nat) (listed : Array Bool) (a : Act) (w : World), C w → headQ P md ops C m L f listed a → wpAny P md ops Q' (f + g) listed a w
  | 0, listed, a, w, hw, h => by rw [Nat.zero_add]; exact hL _ _ _ hw h
  | f + 1, listed, a, w, hw, h => by
    rw [show f + 1 + g = (f + g) + 1 by omega]
    exact ⟨fun h0 => absurd h0 h.1, fun i hi => wpOp_of_qOp hw (fun a' w' hw' h' => wpAny_of_headQ hL f _ a' w' hw' h') (h.2 i hi).2⟩

/-- What is so all along: what lies between m and n has come up, and nothing from n on. -/
structure Between (ops : Array Oper) (m n : Nat) (listed : Array Bool) : Prop where
  mid : ∀ i, m ≤ i → i < n → listed.getD i true = true
  tail : ∀ t, n ≤ t → t < ops.size → listed.getD t true = false

theorem getD_dflt {listed : Array Bool} {i : Nat} (h : listed.getD i true = false) : listed.getD i false = false := by
  rcases Nat.lt_or_ge i listed.size with h' | h'
  · simp [h'] at h ⊢; exact h
  · simp [Array.getElem?_eq_none h'] at h

theorem set_dflt {listed : Array Bool} {i j : Nat} (h : listed.getD j true = true) : (listed.setIfInBounds i true).getD j true = true := by
  by_cases hij : i = j
  · subst hij
    rcases Nat.lt_or_ge i listed.size with h' | h'
    · simp [h']
    · simp [Array.getElem?_eq_none h']
  · rw [getD_set_ne true hij]; exact h

theorem Between.set {m n i : Nat} {listed : Array Bool} (b : Between ops m n listed) (hi : i < m) (hmn : m ≤ n) : Between ops m n (listed.setIfInBounds i true) :=
  ⟨fun j h1 h2 => set_dflt (b.mid j h1 h2), fun t h1 h2 => by rw [getD_set_ne true (by omega)]; exact b.tail t h1 h2⟩

def Region.gateB (md : Region.Mode) (ops : Array Oper) (m n : Nat) : Bool :=
  (List.range m).all (fun i => Region.waitsFor md ops n i) && (List.range ops.size).all fun t => decide (t ≤ n) || Region.waitsFor md ops t (t - 1)

theorem ready_head {m n i : Nat} {listed : Array Bool} (hg : Region.gateB md ops m n = true) (b : Between ops m n listed) (hi : i < m) (hun : listed.getD i true = false) :
    ∀ j ∈ Region.ready md ops listed, j < m := by
  intro j hj
  rcases Nat.lt_or_ge j m with h | h
  · exact h
  · exfalso
    obtain ⟨hju, oj, hoj, hall⟩ := mem_ready.1 hj
    have hjlt : j < ops.size := (Array.getElem?_eq_some_iff.1 hoj).1
    simp only [Region.gateB, Bool.and_eq_true] at hg
    rcases Nat.lt_or_ge j n with h2 | h2
    · rw [b.mid j h h2] at hju; cases hju
    · have key : ∀ k, Region.waitsFor md ops j k = true → listed.getD k true = false → False := fun k hw hk => by
        obtain ⟨oj', hoj', e, he, hb, hon⟩ := Region.waitsFor_spec hw
        have : oj' = oj := Option.some.inj (hoj'.symm.trans hoj)
        subst this
        have h3 := hall e he hb
        rw [hon, getD_dflt hk] at h3
        cases h3
      by_cases hjn : j = n
      · subst hjn
        exact key i (List.all_eq_true.1 hg.1 i (List.mem_range.2 hi)) hun
      · have h4 := List.all_eq_true.1 hg.2 j (List.mem_range.2 hjlt)
        simp only [Bool.or_eq_true, decide_eq_true_eq] at h4
        rcases h4 with h4 | h4
        · omega
        · exact key (j - 1) h4 (b.tail _ (by omega) (by omega))

theorem headQ_first {m n i : Nat} {oi : Oper} {v : Value} {L : Array Bool → Act → Prop} (hi : ops[i]? = some oi) (hsel : ∀ (j : Nat) (o : Oper) cs b, ops[j]? = some o → o.op ≠ .select cs b)
    (hg : Region.gateB md ops m n = true) (hmn : m ≤ n) (him : i < m) (hdone : ∀ listed a, L listed a → ∀ j ∈ Region.ready md ops listed, m ≤ j) :
    ∀ (f : Nat) (listed : Array Bool) (a : Act), Between ops m n listed →
      (∀ j oj, ops[j]? = some oj → j ≠ i → listed.getD j true = false → (∀ e ∈ oj.after, Region.binds md e = true → e.on ≠ i) → oi.apart ops oj = true) →
      i ∈ Region.ready md ops listed → YieldsIn P ops C oi v a →
      headQ P md ops C m L f (listed.setIfInBounds i true) (a.put oi.dst v) → headQ P md ops C m L (f + 1) listed a := by
  intro f
  induction f with
  | zero =>
    intro listed a b _ hr hy H
    have hlt := ready_head hg b him (mem_ready.1 hr).1
    refine ⟨fun h => (by rw [h] at hr; cases hr), fun j hj => ⟨hlt j hj, ?_⟩⟩
    by_cases hji : j = i
    · subst hji; exact hy.qOp hi H
    · have h1 := hdone _ _ H j (ready_mono hj hji)
      have h2 := hlt j hj
      omega
  | succ f ih =>
    intro listed a b hfree hr hy H
    have hlt := ready_head hg b him (mem_ready.1 hr).1
    refine ⟨fun h => (by rw [h] at hr; cases hr), fun j hj => ⟨hlt j hj, ?_⟩⟩
    by_cases hji : j = i
    · subst hji; exact hy.qOp hi H
    · have h1 := (H.2 j (ready_mono hj hji)).2
      obtain ⟨hjun, oj, hoj, hall⟩ := mem_ready.1 hj
      have hnot : ∀ e ∈ oj.after, Region.binds md e = true → e.on ≠ i := fun e he hb heq => by
        have h1 := hall e he hb
        rw [heq, getD_dflt (mem_ready.1 hr).1] at h1
        cases h1
      have h2 := qOp_put hoj (hfree j oj hoj hji hjun hnot) (fun cs b => hsel i oi cs b hi) (fun cs b => hsel j oj cs b hoj) hy h1
      refine qOp_mono (fun a' h3 => ih (listed.setIfInBounds j true) a' (b.set (hlt j hj) hmn) (fun k ok hk hki hun hno => hfree k ok hk hki ?_ hno) (ready_mono hr (Ne.symm hji)) h3.1 ?_) h2
      · by_cases hjk : j = k
        · subst hjk; exact hjun
        · rw [getD_set_ne true hjk] at hun; exact hun
      · rw [Array.setIfInBounds_comm _ _ hji]
        exact h3.2

/-- The lexical order of the head may be taken from here, and behind it the tail comes up in one order. -/
def lexHeadTo (md : Region.Mode) (ops : Array Oper) (g n : Nat) : Nat → Nat → Array Bool → Bool
  | 0, _, listed => Region.seqB md ops g n listed
  | f + 1, k, listed => (Region.ready md ops listed).contains k && Region.free md ops listed k && lexHeadTo md ops g n f (k + 1) (listed.setIfInBounds k true)

theorem headQ_lex {m n g : Nat} {Lq : Act → Prop} (hsel : Region.noSelect ops = true) (hg : Region.gateB md ops m n = true) (hmn : m ≤ n) (hdone : ∀ listed, Region.seqB md ops g n listed = true → ∀ j ∈ Region.ready md ops listed, m ≤ j) :
    ∀ (l : List Oper) (k : Nat) (listed : Array Bool) (a : Act), (∀ j, j < l.length → l[j]? = ops[k + j]?) → k + l.length = m → Between ops m n listed →
    lexHeadTo md ops g n l.length k listed = true → wpQuiet P ops C Lq l a →
    headQ P md ops C m (fun listed' a' => Region.seqB md ops g n listed' = true ∧ Lq a') l.length listed a
  | [], k, listed, a, _, hk, _, hB, h => ⟨by simpa [lexHeadTo] using hB, h⟩
  | o :: l, k, listed, a, hl, hk, b, hB, h => by
    have h0 : ops[k]? = some o := by simpa using (hl 0 (by simp)).symm
    simp only [List.length_cons, lexHeadTo, Bool.and_eq_true] at hB
    obtain ⟨⟨hr, hf⟩, hB'⟩ := hB
    have hkm : k < m := by simp only [List.length_cons] at hk; omega
    have hst : qOp P ops C k (wpQuiet P ops C Lq l) a := by unfold qOp; simp only [h0]; exact h
    obtain ⟨v, hy, hK⟩ := yieldsIn_of_qOp h0 hst
    exact headQ_first h0 (Region.noSelect_spec hsel) hg hmn hkm (fun listed' a' hL => hdone listed' hL.1) l.length listed a b (Region.free_spec h0 hf) (by simpa using hr) hy
      (headQ_lex hsel hg hmn hdone l (k + 1) _ _ (fun j hj => by have := hl (j + 1) (by simp; omega); simpa [Nat.add_assoc, Nat.add_comm 1 j] using this) (by simp only [List.length_cons] at hk; omega) (b.set hkm hmn) hB' hK)

/-- The same with no operation between. -/
theorem wp_region_qtail0 {id : Nat} {Q : Exit → Act → World → Prop} {a : Act} {w : World} {l : List Oper} (m : Nat) (hm : P.follows .mixedOrders = true)
    (hsel : Region.noSelect l.toArray = true) (hg : Region.gateB .any l.toArray m m = true) (hn : m ≤ l.length)
    (hlex : lexHeadTo .any l.toArray (l.length - m) m m 0 (Array.replicate l.toArray.size false) = true) (hC : C w.drew)
    (h : wpQuiet P l.toArray C (fun a' => ∀ w', C w' → wpList P l.toArray Q (l.drop m) a' w') (l.take m) a) : (Code.region id l.toArray true).wp P Q a w := by
  refine wp_region_any hm ?_
  have hsz' : l.toArray.size = m + (l.length - m) := by simp; omega
  have key : wpAny P .any l.toArray Q (m + (l.length - m)) (Array.replicate l.toArray.size false) a w.drew := by
    refine wpAny_of_headQ (C := C) (m := m) (L := fun listed' a' => Region.seqB .any l.toArray (l.length - m) m listed' = true ∧ ∀ w', C w' → wpList P l.toArray Q (l.drop m) a' w') ?_ _ _ _ _ hC ?_
    · rintro listed a' w' hw' ⟨h1, h2⟩
      have := wpAny_of_seq (md := .any) (Q' := Q) (l.drop m) m listed a' w' (fun j => by simp [List.getElem?_drop]) (by simpa using h1) (h2 w' hw')
      simpa using this
    · have htl : (l.take m).length = m := by simp; omega
      have := headQ_lex (P := P) (C := C) (md := .any) (ops := l.toArray) (m := m) (n := m) (g := l.length - m) (Lq := fun a' => ∀ w', C w' → wpList P l.toArray Q (l.drop m) a' w') hsel hg (Nat.le_refl _)
        (fun listed h1 j hj => seqB_ready h1 j hj) (l.take m) 0 (Array.replicate l.toArray.size false) a
        (fun j hj => by rw [htl] at hj; simp [hj]) (by rw [htl]; omega)
        ⟨fun i h1 h2 => by omega, fun t h1 h2 => by simp at h2; simp [h2]⟩ (by rw [htl]; exact hlex) h
      rwa [htl] at this
  rw [← hsz'] at key
  exact key

/-- THE REGION: operation p is taken first, then the m quiet ones, then the tail from n on. -/
theorem wp_region_qtail {id : Nat} {Q : Exit → Act → World → Prop} {a : Act} {w : World} {l : List Oper} {oi : Oper} {v : Value} (p m n : Nat) (hm : P.follows .mixedOrders = true)
    (hsel : Region.noSelect l.toArray = true) (hop : l.toArray[p]? = some oi) (hfree : Region.free .any l.toArray (Array.replicate l.toArray.size false) p = true)
    (hr : (Region.ready .any l.toArray (Array.replicate l.toArray.size false)).contains p = true)
    (hg : Region.gateB .any l.toArray m n = true) (hmn : m ≤ n) (hn : n ≤ l.length) (hsz : l.length = m + 1 + (l.length - n))
    (hbm : ((List.range n).all fun i => decide (i < m) || ((Array.replicate l.toArray.size false).setIfInBounds p true).getD i true) = true)
    (hbt : ((List.range l.length).all fun t => decide (t < n) || !((Array.replicate l.toArray.size false).setIfInBounds p true).getD t true) = true)
    (hlex : lexHeadTo .any l.toArray (l.length - n) n m 0 ((Array.replicate l.toArray.size false).setIfInBounds p true) = true)
    (hQ : ∀ c a w, Q (.panic c) (a.put oi.dst v) w → Q (.panic c) a w) (hy : Yields P l.toArray oi v a) (hC : C w.drew)
    (h : wpQuiet P l.toArray C (fun a' => ∀ w', C w' → wpList P l.toArray Q (l.drop n) a' w') (l.take m) (a.put oi.dst v)) : (Code.region id l.toArray true).wp P Q a w := by
  refine wp_region_any hm ?_
  have hsz' : l.toArray.size = (m + (l.length - n)) + 1 := by simp; omega
  rw [hsz']
  refine wpAny_take hop hsel ?_ ?_ hQ hy ?_
  · rw [← hsz']; exact hfree
  · rw [← hsz']; exact hr
  rw [← hsz']
  refine wpAny_of_headQ (C := C) (m := m) (L := fun listed' a' => Region.seqB .any l.toArray (l.length - n) n listed' = true ∧ ∀ w', C w' → wpList P l.toArray Q (l.drop n) a' w') ?_ _ _ _ _ hC ?_
  · rintro listed a' w' hw' ⟨h1, h2⟩
    have := wpAny_of_seq (md := .any) (Q' := Q) (l.drop n) n listed a' w' (fun j => by simp [List.getElem?_drop]) (by simpa using h1) (h2 w' hw')
    simpa using this
  · have htl : (l.take m).length = m := by simp; omega
    have := headQ_lex (P := P) (C := C) (md := .any) (ops := l.toArray) (m := m) (n := n) (g := l.length - n) (Lq := fun a' => ∀ w', C w' → wpList P l.toArray Q (l.drop n) a' w') hsel hg hmn
      (fun listed h1 j hj => Nat.le_trans hmn (seqB_ready h1 j hj)) (l.take m) 0 _ (a.put oi.dst v)
      (fun j hj => by rw [htl] at hj; simp [hj]) (by rw [htl]; omega)
      ⟨fun i h1 h2 => by
        have := List.all_eq_true.1 hbm i (List.mem_range.2 h2)
        simp only [Bool.or_eq_true, decide_eq_true_eq] at this
        rcases this with h3 | h3
        · omega
        · exact h3, fun t h1 h2 => by
        have := List.all_eq_true.1 hbt t (List.mem_range.2 (by simpa using h2))
        simp only [Bool.or_eq_true, decide_eq_true_eq, Bool.not_eq_true'] at this
        rcases this with h3 | h3
        · omega
        · exact h3⟩ (by rw [htl]; exact hlex) h
    rwa [htl] at this
end

open Go.RowKit
/-- A class of worlds, as a type: what is said of its worlds can be a rule without a condition. -/
structure Class (C : World → Prop) where
  wd : World
  ok : C wd
theorem Class.call {C : World → Prop} {P : Program} {f : FuncId} {args : Array Value} {v : Value} (x : Class C) (hk : ∀ W w', C W → Below W.heap.size W w' → C w')
    (h : Calls P f args x.wd fun e w' => e = .returned v ∧ Below x.wd.heap.size x.wd w') : Calls P f args x.wd fun e w' => e = .returned v ∧ ∃ y : Class C, w' = y.wd :=
  h.mono fun e w' ⟨he, hb⟩ => ⟨he, ⟨w', hk _ _ x.ok hb⟩, rfl⟩
end Go.Proofs.YtahopnlibmiafaaDoor
