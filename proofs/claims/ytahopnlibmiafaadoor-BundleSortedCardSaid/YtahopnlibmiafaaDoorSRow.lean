/- Rows of structs: what lies in a block, what a slice reads as, one element loaded, stored, appended. -/
import Derived.Test.YtahopnlibmiafaaDoorBlk
import Derived.Test.YtahopnlibmiafaaDoorReg
import Derived.Deep.MidRow
import Derived.Laws.AppendOwn
namespace Go.Proofs.YtahopnlibmiafaaDoor
set_option linter.unusedVariables false
open Go.RowKit
section
variable {α : Type} {enc : α → List Value} {k : Nat}
def rowC (enc : α → List Value) (l : List α) : List Value := l.flatMap enc
theorem rowC_length (hk : ∀ x, (enc x).length = k) : ∀ l : List α, (rowC enc l).length = l.length * k
  | [] => by simp [rowC]
  | x :: l => by
    have := rowC_length hk l
    simp only [rowC, List.flatMap_cons, List.length_append, List.length_cons, hk] at this ⊢
    rw [this, Nat.add_mul]; omega
theorem rowC_append (a b : List α) : rowC enc (a ++ b) = rowC enc a ++ rowC enc b := by simp [rowC]
theorem rowC_one (x : α) : rowC enc [x] = enc x := by simp [rowC]
theorem rowC_split (l : List α) (i : Nat) (hi : i < l.length) : rowC enc l = rowC enc (l.take i) ++ (enc l[i] ++ rowC enc (l.drop (i + 1))) := by
  have e : l = l.take i ++ ([l[i]] ++ l.drop (i + 1)) := by
    rw [List.singleton_append, ← List.drop_eq_getElem_cons hi, List.take_append_drop]
  conv => lhs; rw [e]
  rw [rowC_append, rowC_append, rowC_one]
theorem rowC_at (hk : ∀ x, (enc x).length = k) (l : List α) (i : Nat) (hi : i < l.length) (rest : List Value) : ((rowC enc l ++ rest).drop (i * k)).take (enc l[i]).length = enc l[i] := by
  rw [rowC_split l i hi, List.append_assoc, List.append_assoc]
  have e : (rowC enc (l.take i)).length = i * k := by rw [rowC_length hk, List.length_take, Nat.min_eq_left (by omega)]
  rw [← e, List.drop_left, List.take_left]
theorem rowC_cell (hk : ∀ x, (enc x).length = k) (l : List α) (i j : Nat) (hi : i < l.length) (hj : j < k) (rest : List Value) : (rowC enc l ++ rest)[i * k + j]? = (enc l[i])[j]? := by
  have h := rowC_at hk l i hi rest
  have h2 := congrArg (fun z => z[j]?) h
  rw [List.getElem?_take_of_lt (by rw [hk]; exact hj), List.getElem?_drop] at h2
  exact h2
/-- Cells laid into a row from place o on. -/
def setMid (c : Array Value) : Nat → List Value → Array Value
  | _, [] => c
  | o, v :: r => setMid (c.setIfInBounds o v) (o + 1) r
theorem setMid_list : ∀ (vs pre mid post : List Value), mid.length = vs.length → setMid (pre ++ mid ++ post).toArray pre.length vs = (pre ++ vs ++ post).toArray
  | [], pre, [], post, _ => rfl
  | v :: vs, pre, m :: mid, post, h => by
    have e1 : (pre ++ m :: mid ++ post).toArray.setIfInBounds pre.length v = ((pre ++ [v]) ++ mid ++ post).toArray := by
      rw [List.setIfInBounds_toArray, List.append_assoc, List.set_append_right _ _ (Nat.le_refl _)]
      simp
    show setMid ((pre ++ m :: mid ++ post).toArray.setIfInBounds pre.length v) (pre.length + 1) vs = _
    rw [e1]
    have := setMid_list vs (pre ++ [v]) mid post (by simpa using h)
    rw [show (pre ++ [v]).length = pre.length + 1 by simp] at this
    rw [this]
    simp
theorem setMid_row (hk : ∀ x, (enc x).length = k) (l : List α) (i : Nat) (hi : i < l.length) (x : α) (rest : List Value) : setMid (rowC enc l ++ rest).toArray (i * k) (enc x) = (rowC enc (l.set i x) ++ rest).toArray := by
  have e : (rowC enc (l.take i)).length = i * k := by rw [rowC_length hk, List.length_take, Nat.min_eq_left (by omega)]
  have h := setMid_list (enc x) (rowC enc (l.take i)) (enc l[i]) (rowC enc (l.drop (i + 1)) ++ rest) (by rw [hk, hk])
  rw [e] at h
  rw [rowC_split l i hi]
  rw [show rowC enc (l.take i) ++ (enc l[i] ++ rowC enc (l.drop (i + 1))) ++ rest = rowC enc (l.take i) ++ enc l[i] ++ (rowC enc (l.drop (i + 1)) ++ rest) by simp, h]
  rw [List.set_eq_take_append_cons_drop, if_pos hi, rowC_append]
  simp [rowC]
end
/-! ### In the middle of a block of known content -/
theorem blk_setCells {b : Nat} : ∀ (vs : List Value) (o : Nat) (w : World) (c : Array Value), blk w b = some c → blk (w.setCells b o vs) b = some (setMid c o vs)
  | [], _, _, _, h => h
  | v :: r, o, w, c, h => blk_setCells r (o + 1) _ _ (blk_set h)
theorem blk_setCells_other {b d : Nat} (hd : d ≠ b) : ∀ (vs : List Value) (o : Nat) (w : World) (c : Array Value), blk w d = some c → blk (w.setCells b o vs) d = some c
  | [], _, _, _, h => h
  | v :: r, o, w, c, h => blk_setCells_other hd r (o + 1) _ _ (blk_other h hd)
theorem below_setCells {B b : Nat} {w0 : World} (hB : B ≤ b) : ∀ (vs : List Value) (o : Nat) (w : World), Below B w0 w → Below B w0 (w.setCells b o vs)
  | [], _, _, h => h
  | v :: r, o, w, h => below_setCells hB r (o + 1) _ (h.setCell hB v)
theorem size_setCells {b : Nat} : ∀ (vs : List Value) (o : Nat) (w : World), (w.setCells b o vs).heap.size = w.heap.size
  | [], _, _ => rfl
  | v :: r, o, w => (size_setCells r (o + 1) _).trans (by simp)
theorem there_of_blk {w : World} {b o n : Nat} {c : Array Value} (h : blk w b = some c) (hn : o + n ≤ c.size) : w.there b o n := fun j hj => by
  refine ⟨?_, blk_frozen h _⟩
  rw [blk_cell h, Array.getElem?_eq_getElem (by omega)]
  rfl
theorem range_of_blk {w : World} {b : Nat} {c : Array Value} (h : blk w b = some c) (o : Nat) (cs : List Value) (hc : (c.toList.drop o).take cs.length = cs) : w.rangeAt b o cs := fun j v hv => by
  rw [blk_cell h]
  have hj : j < cs.length := (List.getElem?_eq_some_iff.1 hv).1
  rw [← hc] at hv
  rw [List.getElem?_take_of_lt hj, List.getElem?_drop, Array.getElem?_toList] at hv
  exact hv
theorem range_row {α : Type} {enc : α → List Value} {k : Nat} (hk : ∀ x, (enc x).length = k) {w : World} {g : Nat} {l : List α} {sp : List Value} (hb : blk w g = some (rowC enc l ++ sp).toArray) {i : Nat} {x : α} (h : l[i]? = some x) : w.rangeAt g (i * k) (enc x) := by
  obtain ⟨hi, rfl⟩ := List.getElem?_eq_some_iff.1 h
  exact range_of_blk hb _ _ (by simpa using rowC_at hk l i hi sp)
theorem range_below {w w' : World} {b o : Nat} {cs : List Value} (hb : b < w.heap.size) (h : w.rangeAt b o cs) (hw : Below w.heap.size w w') : w'.rangeAt b o cs := fun j v hv => (hw.cell (p := ⟨b, o + j, none⟩) hb).trans (h j v hv)
/-! ### A slice of structs -/
section
variable {α : Type} {enc : α → List Value} {k : Nat}
/-- The slice (a, l.length, cap) reads as the structs l. -/
def SRow (enc : α → List Value) (k : Nat) (w : World) (a : Option Addr) (cap : Nat) (l : List α) : Prop :=
  l.length ≤ cap ∧ cap ≤ maxLen ∧ (a = none → cap = 0) ∧
  (0 < l.length → ∃ b off, a = some ⟨b, off, none⟩ ∧ b < w.heap.size ∧ ∀ i (h : i < l.length), w.rangeAt b (off + i * k) (enc l[i]))
theorem SRow.below {w w' : World} {a : Option Addr} {cap : Nat} {l : List α} (h : SRow enc k w a cap l) (hb : Below w.heap.size w w') : SRow enc k w' a cap l := by
  obtain ⟨h1, h2, h3, h4⟩ := h
  refine ⟨h1, h2, h3, fun h0 => ?_⟩
  obtain ⟨b, off, e, hlt, hc⟩ := h4 h0
  exact ⟨b, off, e, Nat.lt_of_lt_of_le hlt hb.size, fun i hi => range_below hlt (hc i hi) hb⟩
theorem srow_nil (w : World) : SRow enc k w none 0 [] := ⟨Nat.le_refl _, by unfold maxLen; omega, fun _ => rfl, fun h => absurd h (by simp)⟩
/-- A row of the call's own reads as its structs. -/
theorem srow_of_owns (hk : ∀ x, (enc x).length = k) {w : World} {base : Nat} {e : TypeId} {v : Value} {l : List α} (h : w.ownsRow base e k v l.length (rowC enc l)) :
    ∃ a cap, v = .slice a l.length cap ∧ SRow enc k w a cap l ∧ ((a = none ∧ l = []) ∨ ∃ g cur, a = some ⟨g, 0, none⟩ ∧ base ≤ g ∧ blk w g = some cur ∧ cur.size = cap * k ∧ cur.toList.take (l.length * k) = rowC enc l) := by
  obtain ⟨h1, h2⟩ := h
  rcases h2 with ⟨rfl, h0⟩ | ⟨g, cap, cur, rfl, hb, hg, hc, hm, hs, ht⟩
  · have : l = [] := List.length_eq_zero_iff.1 h0
    subst this
    exact ⟨none, 0, rfl, srow_nil w, .inl ⟨rfl, rfl⟩⟩
  · refine ⟨_, cap, rfl, ⟨hc, hm, by simp, fun _ => ⟨g, 0, rfl, (Array.getElem?_eq_some_iff.1 hg).1, fun i hi => ?_⟩⟩, .inr ⟨g, cur, rfl, hb, blk_of hg, hs, ht⟩⟩
    refine range_of_blk (blk_of hg) _ _ ?_
    have e : cur.toList = rowC enc l ++ cur.toList.drop (l.length * k) := by rw [← ht, List.take_append_drop]
    rw [e, Nat.zero_add]
    exact rowC_at hk l i hi _
end
section
variable {P : Program} {ops : Array Oper} {rest : List Oper} {o : Oper} {a : Act} {w : World}
theorem wpList_store_midB {Q : Exit → Act → World → Prop} (ty : TypeId) (x y : Operand) (b off : Nat) (c c' cells : Array Value) (hb : blk w b = some c) (hgd : o.guard = none) (ho : o.op = .store ty x y)
    (hx : a.eval x = .pointer (some ⟨b, off, none⟩)) (hy : a.eval y = .agg cells) (hsz : off + cells.size ≤ c.size) (hi : (P.info? ty).map (·.size) = some cells.size) (h1 : cells.all (·.oneCell') = true)
    (hc : setMid c off cells.toList = c')
    (h : ∀ w', blk w' b = some c' → (∀ d e, d ≠ b → blk w d = some e → blk w' d = some e) → (∀ B w0, B ≤ b → Below B w0 w → Below B w0 w') → w'.heap.size = w.heap.size → wpList P ops Q rest (a.put o.dst undef) w') : wpList P ops Q (o :: rest) a w := by
  refine wpList_store_mid hgd ty x y ho b off cells hx hy (there_of_blk hb hsz) hi h1 ?_
  exact h _ (hc ▸ blk_setCells _ _ _ _ hb) (fun d e hd he => blk_setCells_other hd _ _ _ _ he) (fun B w0 hB hw => below_setCells hB _ _ _ hw) (size_setCells _ _ _)
theorem wpQuiet_load_range {C : World → Prop} {Q : Act → Prop} (ty : TypeId) (x : Operand) (b off : Nat) (cs : List Value) (hb : ∀ w, C w → w.rangeAt b off cs) (d : TypeDesc) (hw : Region.wanted o (yielded ops a.tmps) = true) (ho : o.op = .load ty x) (hx : a.eval x = .pointer (some ⟨b, off, none⟩))
    (hu : P.underlying ty = some d) (hd : d.isRow = true) (hi : (P.info? ty).map (·.size) = some cs.length)
    (h : wpQuiet P ops C Q rest (a.put o.dst (.agg cs.toArray))) : wpQuiet P ops C Q (o :: rest) a := by
  refine wpQuiet_step fun K hK => ?_
  rw [if_pos hw]
  refine ⟨.agg cs.toArray, fun w hw => ?_, hK _ h⟩
  unfold Oper.quietAt execOp
  simp only [ho, hx, Sem.run_bind, run_loadAt_mid w b off ty cs d (hb w hw) hu hd hi, Result.andThen_ok]
  exact ⟨rfl, rfl⟩
theorem wpQuiet_app {C : World → Prop} {Q : Act → Prop} (l2 : List Oper) : ∀ (l1 : List Oper) (a : Act), wpQuiet P ops C (fun a' => wpQuiet P ops C Q l2 a') l1 a → wpQuiet P ops C Q (l1 ++ l2) a
  | [], a, h => h
  | o :: rest, a, h => by
    unfold wpQuiet at h
    rw [List.cons_append]
    unfold wpQuiet
    split
    · rename_i hw
      rw [if_pos hw] at h
      exact Oper.quiet_mono (fun a' h' => wpQuiet_app l2 rest a' h') h
    · rename_i hw
      rw [if_neg hw] at h
      exact wpQuiet_app l2 rest _ h
theorem wpQuiet_split {C : World → Prop} {Q : Act → Prop} {l : List Oper} (n : Nat) (h : wpQuiet P ops C (fun a' => wpQuiet P ops C Q (l.drop n) a') (l.take n) a) : wpQuiet P ops C Q l a := by
  have := wpQuiet_app (P := P) (ops := ops) (C := C) (Q := Q) (l.drop n) (l.take n) a h
  rwa [List.take_append_drop] at this
variable {α : Type} {enc : α → List Value}
/-- One struct appended to a row of the call's own. -/
theorem wpList_append_struct {Q : Exit → Act → World → Prop} (hgd : o.guard = none) (s x : Operand) (t : TypeId)
    (ho : o.op = .call { callee := .builtin .append, args := #[s, x], argTypes := #[t, t] })
    (base : Nat) (e : TypeId) (i : TypeInfo) (z : Value) (size bytes : Nat) (ht : P.underlying t = some (.slice e)) (hi : P.info? e = some i) (hz : i.zero = some z)
    (hsize : i.size = size) (hby : i.bytes = bytes) (hzs : z.cells.size = size) (hsz : 0 < size)
    (hk : ∀ x, (enc x).length = size) (h1 : ∀ x, ∀ u ∈ enc x, u.oneCell' = true)
    (v : Value) (l : List α) (hs : a.eval s = v) (hown : w.ownsRow base e size v l.length (rowC enc l))
    (sb c : Nat) (y : α) (hx : a.eval x = .slice (some ⟨sb, 0, none⟩) 1 c) (hb : blk w sb = some (enc y).toArray)
    (h63 : l.length + 1 ≤ maxLen) (hbytes : (l.length + 1) * bytes ≤ 140737488355328) (hbase : base ≤ w.heap.size)
    (h : ∀ v' w', w'.ownsRow base e size v' (l ++ [y]).length (rowC enc (l ++ [y])) → w.grownBy w' v.ownBlock → wpList P ops Q rest (a.put o.dst v') w') : wpList P ops Q (o :: rest) a w := by
  refine wpList_append_own w hgd s x t ho base e i z size bytes ht hi hz hsize hby hzs hsz v l.length (rowC enc l) hs hown ⟨sb, 0, none⟩ 1 c (enc y) hx (by rw [hk]; omega) (fun j u hj => ?_) (h1 y) h63 hbytes hbase (fun v' w' h2 h3 _ => h v' w' ?_ h3)
  · rw [Addr.add_mid, Nat.zero_add, blk_cell hb]
    simpa using hj
  · rw [rowC_append, rowC_one, List.length_append]
    exact h2
end
/-! ### A region in the text's own order, its head walked as a quiet one -/
theorem wpList_of_quiet {P : Program} {ops : Array Oper} {C : World → Prop} {K : Act → Prop} {Q : Exit → Act → World → Prop} (hK : ∀ a w, C w → K a → Q .normal a w) :
    ∀ (l : List Oper) (a : Act) (w : World), C w → wpQuiet P ops C K l a → wpList P ops Q l a w
  | [], a, w, hC, h => hK a w hC h
  | o :: rest, a, w, hC, h => by
    unfold wpQuiet at h
    unfold wpList
    split
    · rename_i hw
      rw [if_pos hw] at h
      exact .inl (Oper.wp_of_quiet hC (fun a' w' hC' h' => wpList_of_quiet hK rest a' w' hC' h') h)
    · rename_i hw
      rw [if_neg hw] at h
      exact wpList_of_quiet hK rest _ w hC h
theorem wp_region_in0 {P : Program} {id : Nat} {Q : Exit → Act → World → Prop} {a : Act} {w : World} {l : List Oper}
    (h : ∀ W0, Hid (W0 = w) → Nonempty (Class (Calm W0)) → wpQuiet P l.toArray (fun w' => ∃ x : Class (Calm W0), w' = x.wd) (fun a' => ∀ w', (∃ x : Class (Calm W0), w' = x.wd) → Q .normal a' w') l a) : (Code.region id l.toArray false).wp P Q a w :=
  wp_region_lit (wpList_of_quiet (C := fun w' => ∃ x : Class (Calm w), w' = x.wd) (fun a' w' hC hQ => hQ w' hC) l a w ⟨⟨w, Below.refl _ _⟩, rfl⟩ (h w (Lib.hid rfl) ⟨⟨_, Below.refl _ _⟩⟩))
section
variable {P : Program} {ops : Array Oper} {rest : List Oper} {o : Oper} {a : Act} {w : World}
theorem wpList_of_quiet_then {C : World → Prop} {K : Act → Prop} {Q : Exit → Act → World → Prop} (l2 : List Oper) (hK : ∀ a w, C w → K a → wpList P ops Q l2 a w) :
    ∀ (l : List Oper) (a : Act) (w : World), C w → wpQuiet P ops C K l a → wpList P ops Q (l ++ l2) a w
  | [], a, w, hC, h => hK a w hC h
  | o :: rest, a, w, hC, h => by
    unfold wpQuiet at h
    rw [List.cons_append]
    unfold wpList
    split
    · rename_i hw
      rw [if_pos hw] at h
      exact .inl (Oper.wp_of_quiet hC (fun a' w' hC' h' => wpList_of_quiet_then l2 hK rest a' w' hC' h') h)
    · rename_i hw
      rw [if_neg hw] at h
      exact wpList_of_quiet_then l2 hK rest _ w hC h
theorem wp_region_tail0 {id : Nat} {Q : Exit → Act → World → Prop} {w : World} {l : List Oper} (n : Nat)
    (h : ∀ W0, Hid (W0 = w) → Nonempty (Class (Calm W0)) → wpQuiet P l.toArray (fun w' => ∃ x : Class (Calm W0), w' = x.wd) (fun a' => ∀ w', (∃ x : Class (Calm W0), w' = x.wd) → wpList P l.toArray Q (l.drop n) a' w') (l.take n) a) : (Code.region id l.toArray false).wp P Q a w := by
  refine wp_region_lit ?_
  have := wpList_of_quiet_then (P := P) (ops := l.toArray) (Q := Q) (C := fun w' => ∃ x : Class (Calm w), w' = x.wd) (l.drop n) (fun a' w' hC hQ => hQ w' hC) (l.take n) a w ⟨⟨w, Below.refl _ _⟩, rfl⟩ (h w (Lib.hid rfl) ⟨⟨_, Below.refl _ _⟩⟩)
  rwa [List.take_append_drop] at this
end
end Go.Proofs.YtahopnlibmiafaaDoor
