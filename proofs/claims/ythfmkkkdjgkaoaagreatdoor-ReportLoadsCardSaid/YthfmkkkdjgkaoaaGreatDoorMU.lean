/- Parts of a proof, printed by a program of mine out of my texts: SoMath, SRow, BuCmp, BuOrd, SoIns, SoEq, SoOwn, SoSame, SoMap, StMath, SOwn. -/
import Derived.RowKit
import Derived.Deep.MidRow
import Derived.Laws.AppendOwn
import Derived.Laws.Externs
import Derived.Laws.Bits64
import Derived.OrdersHeld
import Derived.Deep.RegionHeld
import Derived.Deep.Cut
import Derived.Laws.AppendOwnNone
import Derived.OwnWalk
import Derived.Maps.OwnOps
import Derived.Great.Walk
import Derived.Test.YthfmkkkdjgkaoaaGreatDoorMA
import Derived.Test.YthfmkkkdjgkaoaaGreatDoorMB
set_option linter.unusedSimpArgs false
set_option linter.unusedVariables false
namespace Go.Proofs.YthfmkkkdjgkaoaaGreatDoor
variable {α : Type}
def insRev (lt : α → α → Bool) (x : α) : List α → List α
  | [] => [x]
  | y :: r => if lt x y then y :: insRev lt x r else x :: y :: r
def insR (lt : α → α → Bool) (x : α) (l : List α) : List α := (insRev lt x l.reverse).reverse
def isort (lt : α → α → Bool) (l : List α) : List α := l.foldl (fun s x => insR lt x s) []
theorem insRev_perm (lt : α → α → Bool) (x : α) : ∀ l : List α, (insRev lt x l).Perm (x :: l)
  | [] => List.Perm.refl _
  | y :: r => by
    simp only [insRev]
    split
    · exact ((insRev_perm lt x r).cons y).trans (List.Perm.swap x y r)
    · exact List.Perm.refl _
theorem insR_perm (lt : α → α → Bool) (x : α) (l : List α) : (insR lt x l).Perm (x :: l) :=
  (List.reverse_perm _).trans ((insRev_perm lt x _).trans ((List.reverse_perm l).cons x))
theorem isort_perm (lt : α → α → Bool) (l : List α) : (isort lt l).Perm l := by
  suffices h : ∀ (l s : List α), (l.foldl (fun s x => insR lt x s) s).Perm (s ++ l) by simpa [isort] using h l []
  intro l
  induction l with
  | nil => intro s; simp
  | cons x l ih =>
    intro s
    refine (ih _).trans ?_
    refine ((insR_perm lt x s).append_right l).trans ?_
    exact List.perm_middle.symm
theorem isort_length (lt : α → α → Bool) (l : List α) : (isort lt l).length = l.length := (isort_perm lt l).length_eq
def Srt (lt : α → α → Bool) (l : List α) : Prop := l.Pairwise (fun a b => lt b a = false)
theorem insRev_srt (lt : α → α → Bool) (asym : ∀ a b, lt a b = true → lt b a = false) (tr : ∀ a b c, lt a b = false → lt b c = false → lt a c = false) (x : α) :
    ∀ l : List α, l.Pairwise (fun a b => lt a b = false) → (insRev lt x l).Pairwise (fun a b => lt a b = false)
  | [], _ => by simp [insRev]
  | y :: r, h => by
    simp only [insRev]
    obtain ⟨h1, h2⟩ := List.pairwise_cons.1 h
    split
    · rename_i hx
      refine List.pairwise_cons.2 ⟨fun z hz => ?_, insRev_srt lt asym tr x r h2⟩
      rcases List.mem_cons.1 ((insRev_perm lt x r).mem_iff.1 hz) with rfl | hz
      · exact asym _ _ hx
      · exact h1 z hz
    · rename_i hx
      have hx' : lt x y = false := by simpa using hx
      refine List.pairwise_cons.2 ⟨fun z hz => ?_, h⟩
      rcases List.mem_cons.1 hz with rfl | hz
      · exact hx'
      · exact tr _ _ _ hx' (h1 z hz)
theorem insR_srt (lt : α → α → Bool) (asym : ∀ a b, lt a b = true → lt b a = false) (tr : ∀ a b c, lt a b = false → lt b c = false → lt a c = false) (x : α) (l : List α) (h : Srt lt l) : Srt lt (insR lt x l) := by
  unfold Srt insR at *
  rw [List.pairwise_reverse]
  exact insRev_srt lt asym tr x l.reverse (List.pairwise_reverse.2 h)
theorem isort_srt (lt : α → α → Bool) (asym : ∀ a b, lt a b = true → lt b a = false) (tr : ∀ a b c, lt a b = false → lt b c = false → lt a c = false) (l : List α) : Srt lt (isort lt l) := by
  suffices h : ∀ (l s : List α), Srt lt s → Srt lt (l.foldl (fun s x => insR lt x s) s) from h l [] List.Pairwise.nil
  intro l
  induction l with
  | nil => intro s h; exact h
  | cons x l ih => intro s h; exact ih _ (insR_srt lt asym tr x s h)
end Go.Proofs.YthfmkkkdjgkaoaaGreatDoor
namespace Go.Proofs.YthfmkkkdjgkaoaaGreatDoor
open Go.RowKit
section
variable {α : Type} {enc : α → List Value} {k : Nat}
def rowC (enc : α → List Value) (l : List α) : List Value := l.flatMap enc
theorem rowC_length (hk : ∀ x, (enc x).length = k) : ∀ l : List α, (rowC enc l).length = l.length * k
  | [] => by simp [rowC]
  | x :: l => by
    have := rowC_length hk l
    simp only [rowC, List.flatMap_cons, List.length_append, List.length_cons, hk] at this ⊢
    rw [this, Nat.add_mul]; omega
theorem rowC_append (a b : List α) : rowC enc (a ++ b) = rowC enc a ++ rowC enc b := by simp [rowC]
theorem rowC_one (x : α) : rowC enc [x] = enc x := by simp [rowC]
theorem rowC_split (l : List α) (i : Nat) (hi : i < l.length) : rowC enc l = rowC enc (l.take i) ++ (enc l[i] ++ rowC enc (l.drop (i + 1))) := by
  have e : l = l.take i ++ ([l[i]] ++ l.drop (i + 1)) := by
    rw [List.singleton_append, ← List.drop_eq_getElem_cons hi, List.take_append_drop]
  conv => lhs; rw [e]
  rw [rowC_append, rowC_append, rowC_one]
theorem rowC_at (hk : ∀ x, (enc x).length = k) (l : List α) (i : Nat) (hi : i < l.length) (rest : List Value) : ((rowC enc l ++ rest).drop (i * k)).take (enc l[i]).length = enc l[i] := by
  rw [rowC_split l i hi, List.append_assoc, List.append_assoc]
  have e : (rowC enc (l.take i)).length = i * k := by rw [rowC_length hk, List.length_take, Nat.min_eq_left (by omega)]
  rw [← e, List.drop_left, List.take_left]
theorem rowC_cell (hk : ∀ x, (enc x).length = k) (l : List α) (i j : Nat) (hi : i < l.length) (hj : j < k) (rest : List Value) : (rowC enc l ++ rest)[i * k + j]? = (enc l[i])[j]? := by
  have h := rowC_at hk l i hi rest
  have h2 := congrArg (fun z => z[j]?) h
  rw [List.getElem?_take_of_lt (by rw [hk]; exact hj), List.getElem?_drop] at h2
  exact h2
def setMid (c : Array Value) : Nat → List Value → Array Value
  | _, [] => c
  | o, v :: r => setMid (c.setIfInBounds o v) (o + 1) r
theorem setMid_list : ∀ (vs pre mid post : List Value), mid.length = vs.length → setMid (pre ++ mid ++ post).toArray pre.length vs = (pre ++ vs ++ post).toArray
  | [], pre, [], post, _ => rfl
  | v :: vs, pre, m :: mid, post, h => by
    have e1 : (pre ++ m :: mid ++ post).toArray.setIfInBounds pre.length v = ((pre ++ [v]) ++ mid ++ post).toArray := by
      rw [List.setIfInBounds_toArray, List.append_assoc, List.set_append_right _ _ (Nat.le_refl _)]
      simp
    show setMid ((pre ++ m :: mid ++ post).toArray.setIfInBounds pre.length v) (pre.length + 1) vs = _
    rw [e1]
    have := setMid_list vs (pre ++ [v]) mid post (by simpa using h)
    rw [show (pre ++ [v]).length = pre.length + 1 by simp] at this
    rw [this]
    simp
theorem setMid_row (hk : ∀ x, (enc x).length = k) (l : List α) (i : Nat) (hi : i < l.length) (x : α) (rest : List Value) : setMid (rowC enc l ++ rest).toArray (i * k) (enc x) = (rowC enc (l.set i x) ++ rest).toArray := by
  have e : (rowC enc (l.take i)).length = i * k := by rw [rowC_length hk, List.length_take, Nat.min_eq_left (by omega)]
  have h := setMid_list (enc x) (rowC enc (l.take i)) (enc l[i]) (rowC enc (l.drop (i + 1)) ++ rest) (by rw [hk, hk])
  rw [e] at h
  rw [rowC_split l i hi]
  rw [show rowC enc (l.take i) ++ (enc l[i] ++ rowC enc (l.drop (i + 1))) ++ rest = rowC enc (l.take i) ++ enc l[i] ++ (rowC enc (l.drop (i + 1)) ++ rest) by simp, h]
  rw [List.set_eq_take_append_cons_drop, if_pos hi, rowC_append]
  simp [rowC]
end
theorem blk_setCells {b : Nat} : ∀ (vs : List Value) (o : Nat) (w : World) (c : Array Value), blk w b = some c → blk (w.setCells b o vs) b = some (setMid c o vs)
  | [], _, _, _, h => h
  | v :: r, o, w, c, h => blk_setCells r (o + 1) _ _ (blk_set h)
theorem blk_setCells_other {b d : Nat} (hd : d ≠ b) : ∀ (vs : List Value) (o : Nat) (w : World) (c : Array Value), blk w d = some c → blk (w.setCells b o vs) d = some c
  | [], _, _, _, h => h
  | v :: r, o, w, c, h => blk_setCells_other hd r (o + 1) _ _ (blk_other h hd)
theorem below_setCells {B b : Nat} {w0 : World} (hB : B ≤ b) : ∀ (vs : List Value) (o : Nat) (w : World), Below B w0 w → Below B w0 (w.setCells b o vs)
  | [], _, _, h => h
  | v :: r, o, w, h => below_setCells hB r (o + 1) _ (h.setCell hB v)
theorem size_setCells {b : Nat} : ∀ (vs : List Value) (o : Nat) (w : World), (w.setCells b o vs).heap.size = w.heap.size
  | [], _, _ => rfl
  | v :: r, o, w => (size_setCells r (o + 1) _).trans (by simp)
theorem there_of_blk {w : World} {b o n : Nat} {c : Array Value} (h : blk w b = some c) (hn : o + n ≤ c.size) : w.there b o n := fun j hj => by
  refine ⟨?_, blk_frozen h _⟩
  rw [blk_cell h, Array.getElem?_eq_getElem (by omega)]
  rfl
theorem range_of_blk {w : World} {b : Nat} {c : Array Value} (h : blk w b = some c) (o : Nat) (cs : List Value) (hc : (c.toList.drop o).take cs.length = cs) : w.rangeAt b o cs := fun j v hv => by
  rw [blk_cell h]
  have hj : j < cs.length := (List.getElem?_eq_some_iff.1 hv).1
  rw [← hc] at hv
  rw [List.getElem?_take_of_lt hj, List.getElem?_drop, Array.getElem?_toList] at hv
  exact hv
theorem range_row {α : Type} {enc : α → List Value} {k : Nat} (hk : ∀ x, (enc x).length = k) {w : World} {g : Nat} {l : List α} {sp : List Value} (hb : blk w g = some (rowC enc l ++ sp).toArray) {i : Nat} {x : α} (h : l[i]? = some x) : w.rangeAt g (i * k) (enc x) := by
  obtain ⟨hi, rfl⟩ := List.getElem?_eq_some_iff.1 h
  exact range_of_blk hb _ _ (by simpa using rowC_at hk l i hi sp)
theorem range_below {w w' : World} {b o : Nat} {cs : List Value} (hb : b < w.heap.size) (h : w.rangeAt b o cs) (hw : Below w.heap.size w w') : w'.rangeAt b o cs := fun j v hv => (hw.cell (p := ⟨b, o + j, none⟩) hb).trans (h j v hv)
section
variable {α : Type} {enc : α → List Value} {k : Nat}
def SRow (enc : α → List Value) (k : Nat) (w : World) (a : Option Addr) (cap : Nat) (l : List α) : Prop :=
  l.length ≤ cap ∧ cap ≤ maxLen ∧ (a = none → cap = 0) ∧
  (0 < l.length → ∃ b off, a = some ⟨b, off, none⟩ ∧ b < w.heap.size ∧ ∀ i (h : i < l.length), w.rangeAt b (off + i * k) (enc l[i]))
theorem SRow.below {w w' : World} {a : Option Addr} {cap : Nat} {l : List α} (h : SRow enc k w a cap l) (hb : Below w.heap.size w w') : SRow enc k w' a cap l := by
  obtain ⟨h1, h2, h3, h4⟩ := h
  refine ⟨h1, h2, h3, fun h0 => ?_⟩
  obtain ⟨b, off, e, hlt, hc⟩ := h4 h0
  exact ⟨b, off, e, Nat.lt_of_lt_of_le hlt hb.size, fun i hi => range_below hlt (hc i hi) hb⟩
theorem srow_nil (w : World) : SRow enc k w none 0 [] := ⟨Nat.le_refl _, by unfold maxLen; omega, fun _ => rfl, fun h => absurd h (by simp)⟩
theorem srow_of_owns (hk : ∀ x, (enc x).length = k) {w : World} {base : Nat} {e : TypeId} {v : Value} {l : List α} (h : w.ownsRow base e k v l.length (rowC enc l)) :
    ∃ a cap, v = .slice a l.length cap ∧ SRow enc k w a cap l ∧ ((a = none ∧ l = []) ∨ ∃ g cur, a = some ⟨g, 0, none⟩ ∧ base ≤ g ∧ blk w g = some cur ∧ cur.size = cap * k ∧ cur.toList.take (l.length * k) = rowC enc l) := by
  obtain ⟨h1, h2⟩ := h
  rcases h2 with ⟨rfl, h0⟩ | ⟨g, cap, cur, rfl, hb, hg, hc, hm, hs, ht⟩
  · have : l = [] := List.length_eq_zero_iff.1 h0
    subst this
    exact ⟨none, 0, rfl, srow_nil w, .inl ⟨rfl, rfl⟩⟩
  · refine ⟨_, cap, rfl, ⟨hc, hm, by simp, fun _ => ⟨g, 0, rfl, (Array.getElem?_eq_some_iff.1 hg).1, fun i hi => ?_⟩⟩, .inr ⟨g, cur, rfl, hb, blk_of hg, hs, ht⟩⟩
    refine range_of_blk (blk_of hg) _ _ ?_
    have e : cur.toList = rowC enc l ++ cur.toList.drop (l.length * k) := by rw [← ht, List.take_append_drop]
    rw [e, Nat.zero_add]
    exact rowC_at hk l i hi _
end
section
variable {P : Program} {ops : Array Oper} {rest : List Oper} {o : Oper} {a : Act} {w : World}
theorem wpList_store_midB {Q : Exit → Act → World → Prop} (ty : TypeId) (x y : Operand) (b off : Nat) (c c' cells : Array Value) (hb : blk w b = some c) (hgd : o.guard = none) (ho : o.op = .store ty x y)
    (hx : a.eval x = .pointer (some ⟨b, off, none⟩)) (hy : a.eval y = .agg cells) (hsz : off + cells.size ≤ c.size) (hi : (P.info? ty).map (·.size) = some cells.size) (h1 : cells.all (·.oneCell') = true)
    (hc : setMid c off cells.toList = c')
    (h : ∀ w', blk w' b = some c' → (∀ d e, d ≠ b → blk w d = some e → blk w' d = some e) → (∀ B w0, B ≤ b → Below B w0 w → Below B w0 w') → w'.heap.size = w.heap.size → wpList P ops Q rest (a.put o.dst undef) w') : wpList P ops Q (o :: rest) a w := by
  refine wpList_store_mid hgd ty x y ho b off cells hx hy (there_of_blk hb hsz) hi h1 ?_
  exact h _ (hc ▸ blk_setCells _ _ _ _ hb) (fun d e hd he => blk_setCells_other hd _ _ _ _ he) (fun B w0 hB hw => below_setCells hB _ _ _ hw) (size_setCells _ _ _)
theorem wpQuiet_load_range {C : World → Prop} {Q : Act → Prop} (ty : TypeId) (x : Operand) (b off : Nat) (cs : List Value) (hb : ∀ w, C w → w.rangeAt b off cs) (d : TypeDesc) (hw : Region.wanted o (yielded ops a.tmps) = true) (ho : o.op = .load ty x) (hx : a.eval x = .pointer (some ⟨b, off, none⟩))
    (hu : P.underlying ty = some d) (hd : d.isRow = true) (hi : (P.info? ty).map (·.size) = some cs.length)
    (h : wpQuiet P ops C Q rest (a.put o.dst (.agg cs.toArray))) : wpQuiet P ops C Q (o :: rest) a := by
  refine wpQuiet_step fun K hK => ?_
  rw [if_pos hw]
  refine ⟨.agg cs.toArray, fun w hw => ?_, hK _ h⟩
  unfold Oper.quietAt execOp
  simp only [ho, hx, Sem.run_bind, run_loadAt_mid w b off ty cs d (hb w hw) hu hd hi, Result.andThen_ok]
  exact ⟨rfl, rfl⟩
theorem wpQuiet_app {C : World → Prop} {Q : Act → Prop} (l2 : List Oper) : ∀ (l1 : List Oper) (a : Act), wpQuiet P ops C (fun a' => wpQuiet P ops C Q l2 a') l1 a → wpQuiet P ops C Q (l1 ++ l2) a
  | [], a, h => h
  | o :: rest, a, h => by
    unfold wpQuiet at h
    rw [List.cons_append]
    unfold wpQuiet
    split
    · rename_i hw
      rw [if_pos hw] at h
      exact Oper.quiet_mono (fun a' h' => wpQuiet_app l2 rest a' h') h
    · rename_i hw
      rw [if_neg hw] at h
      exact wpQuiet_app l2 rest _ h
theorem wpQuiet_split {C : World → Prop} {Q : Act → Prop} {l : List Oper} (n : Nat) (h : wpQuiet P ops C (fun a' => wpQuiet P ops C Q (l.drop n) a') (l.take n) a) : wpQuiet P ops C Q l a := by
  have := wpQuiet_app (P := P) (ops := ops) (C := C) (Q := Q) (l.drop n) (l.take n) a h
  rwa [List.take_append_drop] at this
variable {α : Type} {enc : α → List Value}
theorem wpList_append_struct {Q : Exit → Act → World → Prop} (hgd : o.guard = none) (s x : Operand) (t : TypeId)
    (ho : o.op = .call { callee := .builtin .append, args := #[s, x], argTypes := #[t, t] })
    (base : Nat) (e : TypeId) (i : TypeInfo) (z : Value) (size bytes : Nat) (ht : P.underlying t = some (.slice e)) (hi : P.info? e = some i) (hz : i.zero = some z)
    (hsize : i.size = size) (hby : i.bytes = bytes) (hzs : z.cells.size = size) (hsz : 0 < size)
    (hk : ∀ x, (enc x).length = size) (h1 : ∀ x, ∀ u ∈ enc x, u.oneCell' = true)
    (v : Value) (l : List α) (hs : a.eval s = v) (hown : w.ownsRow base e size v l.length (rowC enc l))
    (sb c : Nat) (y : α) (hx : a.eval x = .slice (some ⟨sb, 0, none⟩) 1 c) (hb : blk w sb = some (enc y).toArray)
    (h63 : l.length + 1 ≤ maxLen) (hbytes : (l.length + 1) * bytes ≤ 140737488355328) (hbase : base ≤ w.heap.size)
    (h : ∀ v' w', w'.ownsRow base e size v' (l ++ [y]).length (rowC enc (l ++ [y])) → w.grownBy w' v.ownBlock → wpList P ops Q rest (a.put o.dst v') w') : wpList P ops Q (o :: rest) a w := by
  refine wpList_append_own w hgd s x t ho base e i z size bytes ht hi hz hsize hby hzs hsz v l.length (rowC enc l) hs hown ⟨sb, 0, none⟩ 1 c (enc y) hx (by rw [hk]; omega) (fun j u hj => ?_) (h1 y) h63 hbytes hbase (fun v' w' h2 h3 _ => h v' w' ?_ h3)
  · rw [Addr.add_mid, Nat.zero_add, blk_cell hb]
    simpa using hj
  · rw [rowC_append, rowC_one, List.length_append]
    exact h2
end
section
variable {P : Program} {ops : Array Oper} {rest : List Oper} {o : Oper} {a : Act} {w : World}
theorem wpList_of_quiet_then {C : World → Prop} {K : Act → Prop} {Q : Exit → Act → World → Prop} (l2 : List Oper) (hK : ∀ a w, C w → K a → wpList P ops Q l2 a w) :
    ∀ (l : List Oper) (a : Act) (w : World), C w → wpQuiet P ops C K l a → wpList P ops Q (l ++ l2) a w
  | [], a, w, hC, h => hK a w hC h
  | o :: rest, a, w, hC, h => by
    unfold wpQuiet at h
    rw [List.cons_append]
    unfold wpList
    split
    · rename_i hw
      rw [if_pos hw] at h
      exact .inl (Oper.wp_of_quiet hC (fun a' w' hC' h' => wpList_of_quiet_then l2 hK rest a' w' hC' h') h)
    · rename_i hw
      rw [if_neg hw] at h
      exact wpList_of_quiet_then l2 hK rest _ w hC h
theorem wp_region_tail0 {id : Nat} {Q : Exit → Act → World → Prop} {w : World} {l : List Oper} (n : Nat)
    (h : ∀ W0, Hid (W0 = w) → Nonempty (Class (Calm W0)) → wpQuiet P l.toArray (fun w' => ∃ x : Class (Calm W0), w' = x.wd) (fun a' => ∀ w', (∃ x : Class (Calm W0), w' = x.wd) → wpList P l.toArray Q (l.drop n) a' w') (l.take n) a) : (Code.region id l.toArray false).wp P Q a w := by
  refine wp_region_lit ?_
  have := wpList_of_quiet_then (P := P) (ops := l.toArray) (Q := Q) (C := fun w' => ∃ x : Class (Calm w), w' = x.wd) (l.drop n) (fun a' w' hC hQ => hQ w' hC) (l.take n) a w ⟨⟨w, Below.refl _ _⟩, rfl⟩ (h w (Lib.hid rfl) ⟨⟨_, Below.refl _ _⟩⟩)
  rwa [List.take_append_drop] at this
end
end Go.Proofs.YthfmkkkdjgkaoaaGreatDoor
namespace Go.Proofs.YthfmkkkdjgkaoaaGreatDoor
open Go.RowKit
structure Bn where
  (no sq of de pr bo li to : Int)
  da : ByteArray
def bn (b : Bn) : List Value := [.int .i64 b.no, .int .u64 b.sq, .int .i64 b.of, .int .i64 b.de, .int .i64 b.pr, .int .i64 b.bo, .int .i64 b.li, .int .i64 b.to, .string b.da]
theorem bn_len (b : Bn) : (bn b).length = 9 := rfl
theorem bn_one (b : Bn) : ∀ u ∈ bn b, u.oneCell' = true := by
  intro u hu
  simp only [bn, List.mem_cons, List.not_mem_nil, or_false] at hu
  rcases hu with rfl | rfl | rfl | rfl | rfl | rfl | rfl | rfl | rfl <;> rfl
end Go.Proofs.YthfmkkkdjgkaoaaGreatDoor
namespace Go.Proofs.YthfmkkkdjgkaoaaGreatDoor
open Go.RowKit
theorem owns_belowS {w w' : World} {base : Nat} {e : TypeId} {size : Nat} {v : Value} {n : Nat} {xs : List Value} (h : w.ownsRow base e size v n xs) (hb : Below w.heap.size w w') : w'.ownsRow base e size v n xs := by
  obtain ⟨h1, h2⟩ := h
  refine ⟨h1, ?_⟩
  rcases h2 with h2 | ⟨g, cap, cur, h3, h4, h5, h6⟩
  · exact .inl h2
  · refine .inr ⟨g, cap, cur, h3, h4, ?_, h6⟩
    have hlt : g < w.heap.size := (Array.getElem?_eq_some_iff.1 h5).1
    rw [hb.block g hlt]
    exact h5
theorem owns_base {w : World} {base base' : Nat} {e : TypeId} {size : Nat} {v : Value} {n : Nat} {xs : List Value} (h : w.ownsRow base e size v n xs) (hb : base' ≤ base) : w.ownsRow base' e size v n xs := by
  obtain ⟨h1, h2⟩ := h
  refine ⟨h1, ?_⟩
  rcases h2 with h2 | ⟨g, cap, cur, h3, h4, h5⟩
  · exact .inl h2
  · exact .inr ⟨g, cap, cur, h3, Nat.le_trans hb h4, h5⟩
end Go.Proofs.YthfmkkkdjgkaoaaGreatDoor
namespace Go.Proofs.YthfmkkkdjgkaoaaGreatDoor
open Go.RowKit
abbrev Id3 := Int × Int × Int
def idCs (k : Id3) : Array Value := #[.int .i64 k.1, .int .u64 k.2.1, .int .i64 k.2.2]
def idK (k : Id3) : Value := .agg (idCs k)
theorem run_idKey (em : Bool) (k : Id3) (w : World) : (Instr.checkKey em 10000 52 (idK k)).run Tryz.prog w = .ok () w := by
  obtain ⟨a, b, c⟩ := k
  kernel_rfl
theorem run_idEqual (a b : Id3) (w : World) : (Op.equal 52 (idK a) (idK b)).run Tryz.prog w = .ok (decide (a = b)) w := by
  obtain ⟨a1, a2, a3⟩ := a
  obtain ⟨b1, b2, b3⟩ := b
  have h : (Op.equal 52 (.agg #[.int .i64 a1, .int .u64 a2, .int .i64 a3]) (.agg #[.int .i64 b1, .int .u64 b2, .int .i64 b3])).run Tryz.prog w = .ok (if a1 = b1 then (if a2 = b2 then a3 == b3 else false) else false) w := by
    show Sem.run Tryz.prog (Op.equalIn (9998 + 1 + 1) _ _ _) w = _
    go_simp
    by_cases h1 : a1 = b1
    · by_cases h2 : a2 = b2
      · by_cases h3 : a3 = b3 <;> simp [h1, h2, h3]
      · simp [h1, h2]
    · simp [h1]
  refine h.trans ?_
  by_cases h1 : a1 = b1
  · by_cases h2 : a2 = b2
    · by_cases h3 : a3 = b3 <;> simp [h1, h2, h3]
    · simp [h1, h2]
  · simp [h1]
def idL (k : Id3) : List Value := [.int .i64 k.1, .int .u64 k.2.1, .int .i64 k.2.2]
theorem run_idKEq (a b : Id3) (w : World) : Sem.run Tryz.prog (binOp BinOp.eql 52 (.agg (idL a).toArray) (.agg (idL b).toArray)) w = .ok (.bool (decide (a = b))) w := by
  obtain ⟨a1, a2, a3⟩ := a
  obtain ⟨b1, b2, b3⟩ := b
  unfold idL
  go_simp
  by_cases h1 : a1 = b1
  · by_cases h2 : a2 = b2
    · by_cases h3 : a3 = b3 <;> simp [h1, h2, h3]
    · simp [h1, h2]
  · simp [h1]
def idxM (k : Id3) : List (Id3 × Value) → Nat → Option (Nat × Value)
  | [], _ => none
  | x :: l, i => if k = x.1 then some (i, x.2) else idxM k l (i + 1)
def getM (l : List (Id3 × Value)) (k : Id3) (z : Value) : Value := ((idxM k l 0).map (·.2)).getD z
def entE (l : List (Id3 × Value)) : List (Value × Value) := l.map fun x => (idK x.1, x.2)
def mapAt (w : World) (b : Nat) (l : List (Id3 × Value)) : Prop := ∃ es clock, w.heap[b]? = some (.map es clock) ∧ es.toList.map (fun e => (e.key, e.val)) = entE l
theorem mapAt.lt {w : World} {b : Nat} {l : List (Id3 × Value)} (h : mapAt w b l) : b < w.heap.size := by
  obtain ⟨es, cl, h1, _⟩ := h
  exact (Array.getElem?_eq_some_iff.1 h1).1
theorem mapAt.kept {w w' : World} {b : Nat} {l : List (Id3 × Value)} (h : mapAt w b l) (he : w'.heap[b]? = w.heap[b]?) : mapAt w' b l := by
  obtain ⟨es, cl, h1, h2⟩ := h
  exact ⟨es, cl, he.trans h1, h2⟩
theorem mapAt.below {w w' : World} {b : Nat} {l : List (Id3 × Value)} (h : mapAt w b l) (hb : Below w.heap.size w w') : mapAt w' b l := h.kept (hb.block b h.lt)
theorem mapAt.alloc {w : World} {b : Nat} {l : List (Id3 × Value)} (h : mapAt w b l) (o : Obj) : mapAt (w.alloc o) b l := h.kept (Below.heap_alloc w o b h.lt)
theorem mapAt.grown {w w' : World} {b : Nat} {row : Option Nat} {l : List (Id3 × Value)} (h : mapAt w b l) (hg : w.grownBy w' row) (hne : some b ≠ row) : mapAt w' b l := h.kept (hg.block b h.lt hne)
theorem mapAt_made (w : World) : mapAt (w.alloc (.map #[] 0)) w.heap.size [] := ⟨#[], 0, (MapKept.heap_alloc w _).1, rfl⟩
theorem run_findId (k : Id3) (w : World) : ∀ (es : List MapEntry) (l : List (Id3 × Value)) (i : Nat), es.map (fun e => (e.key, e.val)) = entE l → (Instr.findAsking 52 (idK k) es i).run Tryz.prog w = .ok (idxM k l i) w
  | [], l, i, h => by
    cases l with
    | nil => rfl
    | cons x l => simp [entE] at h
  | e :: es, l, i, h => by
    cases l with
    | nil => simp [entE] at h
    | cons x l =>
      simp only [entE, List.map_cons, List.cons.injEq, Prod.mk.injEq] at h
      obtain ⟨⟨h1, h2⟩, h3⟩ := h
      unfold Instr.findAsking idxM
      rw [h1, Sem.run_bind, run_idEqual, Result.andThen_ok]
      by_cases hk : k = x.1
      · simp [hk, h2]
      · simp [hk, run_findId k w es l (i + 1) h3]
theorem run_findKeyId (k : Id3) (w : World) (es : Array MapEntry) (l : List (Id3 × Value)) (h : es.toList.map (fun e => (e.key, e.val)) = entE l) : (Instr.findKey 52 (idK k) es.toList).run Tryz.prog w = .ok (idxM k l 0) w := by
  unfold Instr.findKey
  rw [Sem.run_bind, run_underlying Tryz.underlying52, Result.andThen_ok]
  cases hl : es.toList with
  | nil =>
    rw [hl] at h
    cases l with
    | nil => rfl
    | cons x l => simp [entE] at h
  | cons e r =>
    rw [hl] at h
    have := run_findId k w (e :: r) l 0 h
    cases l with
    | nil => simp [entE] at h
    | cons x l =>
      rw [← this]
      rfl
theorem run_lookId {t e : TypeId} (ht : Tryz.prog.underlying t = some (.map 52 e)) {w : World} {z : Value} (hz : (zeroValue e).run Tryz.prog w = .ok z w) {b : Nat} {l : List (Id3 × Value)} (h : mapAt w b l) (k : Id3) :
    (Instr.lookup t (.map (some b)) (idK k) false).run Tryz.prog w = .ok (getM l k z) w := by
  obtain ⟨es, cl, h1, h2⟩ := h
  have hf := run_findKeyId k w es l h2
  unfold getM
  cases hi : idxM k l 0 with
  | none => rw [hi] at hf; simp [Instr.lookup, run_underlying ht, MapKept.run_getObj_map h1, run_idKey, hf, hz, Result.andThen]
  | some x => rw [hi] at hf; simp [Instr.lookup, run_underlying ht, MapKept.run_getObj_map h1, run_idKey, hf, Result.andThen]
def putM (l : List (Id3 × Value)) (k : Id3) (v : Value) : List (Id3 × Value) :=
  match idxM k l 0 with
  | none => l ++ [(k, v)]
  | some x => l.set x.1 (k, v)
theorem idxM_le (k : Id3) : ∀ (l : List (Id3 × Value)) (i : Nat) (x : Nat × Value), idxM k l i = some x → i ≤ x.1 ∧ ∃ h : x.1 - i < l.length, l[x.1 - i].1 = k
  | [], _, _, h => by simp [idxM] at h
  | y :: l, i, x, h => by
    unfold idxM at h
    split at h
    · cases h
      rename_i hk
      exact ⟨Nat.le_refl _, by simp, by simp [hk]⟩
    · obtain ⟨h1, h2, h3⟩ := idxM_le k l (i + 1) x h
      refine ⟨by omega, by simp; omega, ?_⟩
      obtain ⟨d, hd⟩ : ∃ d, x.1 - i = d + 1 := ⟨x.1 - i - 1, by omega⟩
      have hd' : x.1 - (i + 1) = d := by omega
      simp only [hd, List.getElem_cons_succ]
      simpa only [hd'] using h3
theorem run_stays (k : Id3) (w : World) : (Instr.keyThatStays (idK k) (idK k)).run Tryz.prog w = .ok (idK k) w := by
  obtain ⟨a, b, c⟩ := k
  unfold Instr.keyThatStays
  have : Instr.sameBits 10000 (idK (a, b, c)) (idK (a, b, c)) = true := by
    simp [idK, idCs, Instr.sameBits]
  rw [if_pos this]
  rfl
theorem run_putId {t e : TypeId} (ht : Tryz.prog.underlying t = some (.map 52 e)) {w : World} {b : Nat} {l : List (Id3 × Value)} (h : mapAt w b l) (k : Id3) (v : Value) :
    ∃ w', (Instr.mapUpdate t (.map (some b)) (idK k) v).run Tryz.prog w = .ok () w' ∧ mapAt w' b (putM l k v) ∧ w.grownBy w' (some b) := by
  obtain ⟨es, cl, h1, h2⟩ := h
  have hf := run_findKeyId k w es l h2
  unfold putM
  cases hi : idxM k l 0 with
  | none =>
    rw [hi] at hf
    refine ⟨_, by simp [Instr.mapUpdate, run_underlying ht, MapKept.run_getObj_map h1, run_idKey, hf, MapKept.run_setObj_map _ h1, Result.andThen]; rfl, ?_, ?_⟩
    · exact ⟨_, _, ChangeMaps.heap_setBlock_same h1 _, by simp [h2, entE]⟩
    · exact ⟨rfl, rfl, rfl, by simp [ChangeMaps.setBlock], fun i _ hi => ChangeMaps.heap_setBlock_other h1 _ (fun e => hi (by rw [e]))⟩
  | some x =>
    rw [hi] at hf
    obtain ⟨_, hx, hk⟩ := idxM_le k l 0 x hi
    simp only [Nat.sub_zero] at hx hk
    have hlen : es.toList.length = l.length := by have := congrArg List.length h2; simpa [entE] using this
    have h3 : es.size = l.length := by simpa using hlen
    have hxs : x.1 < es.size := by omega
    have hkey : es[x.1].key = idK k := by
      have := congrArg (fun z => z[x.1]?) h2
      simp [entE, hx, hxs] at this
      rw [this.1, hk]
    refine ⟨_, by simp [Instr.mapUpdate, run_underlying ht, MapKept.run_getObj_map h1, run_idKey, hf, hxs, hkey, run_stays, MapKept.run_setObj_map _ h1, Result.andThen]; rfl, ?_, ?_⟩
    · refine ⟨_, _, ChangeMaps.heap_setBlock_same h1 _, ?_⟩
      apply List.ext_getElem?
      intro i
      have hi2 := congrArg (fun z => z[i]?) h2
      simp only [List.getElem?_map, entE, Array.getElem?_toList] at hi2 ⊢
      simp only [Array.getElem?_modify, List.getElem?_set]
      by_cases e : x.1 = i
      · subst e
        simp [hx, hxs]
      · simp [e]
        exact hi2
    · exact ⟨rfl, rfl, rfl, by simp [ChangeMaps.setBlock], fun i _ hi => ChangeMaps.heap_setBlock_other h1 _ (fun e => hi (by rw [e]))⟩
section
variable {ops : Array Oper} {rest : List Oper} {o : Oper} {a : Act} {w : World}
theorem wpList_lookId {Q : Exit → Act → World → Prop} (hg : o.guard = none) (m x : Operand) (t : TypeId) (hop : o.op = Op.lookup t m x false) (e : TypeId) (ht : Tryz.prog.underlying t = some (.map 52 e)) (z : Value)
    (hz : (zeroValue e).run Tryz.prog w = .ok z w) (b : Nat) (l : List (Id3 × Value)) (h : mapAt w b l) (k : Id3) (hm : a.eval m = .map (some b)) (hx : a.eval x = idK k) (hK : wpList Tryz.prog ops Q rest (a.put o.dst (getM l k z)) w) : wpList Tryz.prog ops Q (o :: rest) a w := by
  refine wpList_plain hg fun K' hK' => ?_
  unfold Oper.wp
  simp [execOp, hop, hm, hx, run_lookId ht hz h, Result.andThen]
  exact hK' _ _ hK
theorem wpList_putId {Q : Exit → Act → World → Prop} (hg : o.guard = none) (m x v : Operand) (t : TypeId) (hop : o.op = Op.mapUpdate t m x v) (e : TypeId) (ht : Tryz.prog.underlying t = some (.map 52 e))
    (b : Nat) (l : List (Id3 × Value)) (h : mapAt w b l) (k : Id3) (val : Value) (hm : a.eval m = .map (some b)) (hx : a.eval x = idK k) (hv : a.eval v = val)
    (hK : ∀ w', mapAt w' b (putM l k val) → w.grownBy w' (some b) → wpList Tryz.prog ops Q rest (a.put o.dst undef) w') : wpList Tryz.prog ops Q (o :: rest) a w := by
  refine wpList_plain hg fun K' hK' => ?_
  obtain ⟨w', hrun, r1, r2⟩ := run_putId ht h k val
  unfold Oper.wp
  simp [execOp, hop, hm, hx, hv, hrun, Result.andThen]
  exact hK' _ _ (hK w' r1 r2)
end
end Go.Proofs.YthfmkkkdjgkaoaaGreatDoor
namespace Go.Proofs.YthfmkkkdjgkaoaaGreatDoor
open Go.RowKit
def bid (b : Bn) : Id3 := (b.no, b.sq, b.of)
def bcode (b : Bn) : Int := buC b.no b.sq b.of b.de b.pr b.bo b.li b.to b.da.size
theorem find_range_none (n : Nat) (p : Nat → Bool) (h : ∀ i < n, p i = false) : (List.range n).find? p = none := by
  rw [List.find?_eq_none]
  intro x hx
  simp [h x (List.mem_range.1 hx)]
theorem find_range_some (n k : Nat) (p : Nat → Bool) (h : ∀ i < k, p i = false) (hk : k < n) (hp : p k = true) : (List.range n).find? p = some k := by
  rw [List.find?_range_eq_some]
  exact ⟨hp, List.mem_range.2 hk, fun j hj => by simp [h j hj]⟩
end Go.Proofs.YthfmkkkdjgkaoaaGreatDoor
namespace Go.Proofs.YthfmkkkdjgkaoaaGreatDoor
open Go.RowKit
theorem owns_setCell {w : World} {base : Nat} {e : TypeId} {size g cap n : Nat} {xs : List Value} (h : w.ownsRow base e size (.slice (some ⟨g, 0, none⟩) n cap) n xs) {j : Nat} (hj : j < n * size) (u : Value) :
    (w.setCell ⟨g, j, none⟩ u).ownsRow base e size (.slice (some ⟨g, 0, none⟩) n cap) n (xs.set j u) := by
  obtain ⟨h1, h2⟩ := h
  refine ⟨by simpa using h1, ?_⟩
  rcases h2 with ⟨h2, _⟩ | ⟨g', cap', cur, h3, h4, h5, h6, h7, h8, h9⟩
  · cases h2
  · simp only [Value.slice.injEq, Option.some.injEq, Addr.mk.injEq] at h3
    obtain ⟨⟨rfl, _⟩, _, rfl⟩ := h3
    refine .inr ⟨g, cap, cur.setIfInBounds j u, rfl, h4, ?_, h6, h7, by simpa using h8, ?_⟩
    · obtain ⟨hlt, hk⟩ := Array.getElem?_eq_some_iff.1 h5
      show (w.heap.modify g _)[g]? = _
      rw [Array.getElem?_eq_getElem (by rw [Array.size_modify]; exact hlt), Array.getElem_modify_self, hk]
      rfl
    · rw [← h9, Array.toList_setIfInBounds, List.take_set]
def setL : List Value → Nat → List Value → List Value
  | xs, _, [] => xs
  | xs, o, v :: r => setL (xs.set o v) (o + 1) r
theorem setL_toList : ∀ (vs : List Value) (c : Array Value) (o : Nat), (setMid c o vs).toList = setL c.toList o vs
  | [], _, _ => rfl
  | v :: r, c, o => by
    show (setMid (c.setIfInBounds o v) (o + 1) r).toList = setL (c.toList.set o v) (o + 1) r
    rw [setL_toList r, Array.toList_setIfInBounds]
theorem owns_setCells {base : Nat} {e : TypeId} {size g cap n : Nat} : ∀ (vs : List Value) (o : Nat) (xs : List Value) (w : World), w.ownsRow base e size (.slice (some ⟨g, 0, none⟩) n cap) n xs → o + vs.length ≤ n * size →
    (w.setCells g o vs).ownsRow base e size (.slice (some ⟨g, 0, none⟩) n cap) n (setL xs o vs)
  | [], _, _, _, h, _ => h
  | v :: r, o, xs, w, h, hl => by
    simp only [List.length_cons] at hl
    exact owns_setCells r (o + 1) (xs.set o v) _ (owns_setCell h (by omega) v) (by omega)
section
variable {α : Type} {enc : α → List Value} {k : Nat}
theorem setL_row (hk : ∀ x, (enc x).length = k) (l : List α) (i : Nat) (hi : i < l.length) (x : α) : setL (rowC enc l) (i * k) (enc x) = rowC enc (l.set i x) := by
  have h := setMid_row hk l i hi x []
  have h2 := congrArg Array.toList h
  rw [setL_toList] at h2
  simpa using h2
theorem owns_cells (hk : ∀ x, (enc x).length = k) {w : World} {base : Nat} {e : TypeId} {l : List α} {v : Value} (h : w.ownsRow base e k v l.length (rowC enc l)) (h0 : 0 < l.length) :
    ∃ g cap, v = .slice (some ⟨g, 0, none⟩) l.length cap ∧ base ≤ g ∧ g < w.heap.size ∧ l.length ≤ cap ∧ cap ≤ maxLen ∧ (∀ i (hi : i < l.length), w.rangeAt g (i * k) (enc l[i])) ∧ ∀ o, w.frozen? ⟨g, o, none⟩ = false := by
  obtain ⟨a, cap, rfl, hS, hd⟩ := srow_of_owns hk h
  rcases hd with ⟨_, rfl⟩ | ⟨g, cur, rfl, hb, hk', _, _⟩
  · simp at h0
  · obtain ⟨b, off, e1, hlt, hc⟩ := hS.2.2.2 h0
    cases e1
    refine ⟨g, cap, rfl, hb, hlt, hS.1, hS.2.1, fun i hi => ?_, blk_frozen hk'⟩
    have := hc i hi
    rwa [Nat.zero_add] at this
theorem owns_range (hk : ∀ x, (enc x).length = k) {w : World} {base : Nat} {e : TypeId} {l : List α} {g cap : Nat} (h : w.ownsRow base e k (.slice (some ⟨g, 0, none⟩) l.length cap) l.length (rowC enc l)) {i : Nat} (hi : i < l.length) : w.rangeAt g (i * k) (enc l[i]) := by
  obtain ⟨g', cap', e1, _, _, _, _, hr, _⟩ := owns_cells hk h (by omega)
  simp only [Value.slice.injEq, Option.some.injEq, Addr.mk.injEq] at e1
  obtain ⟨⟨rfl, _⟩, _, rfl⟩ := e1
  exact hr i hi
variable {P : Program} {ops : Array Oper} {rest : List Oper} {o : Oper} {a : Act} {w : World}
theorem wpList_store_own {Q : Exit → Act → World → Prop} (hk : ∀ x, (enc x).length = k) (h1 : ∀ x, ∀ u ∈ enc x, u.oneCell' = true) (ty : TypeId) (x y : Operand) (base : Nat) (e : TypeId) (l : List α) (g cap i : Nat) (X : α)
    (hown : w.ownsRow base e k (.slice (some ⟨g, 0, none⟩) l.length cap) l.length (rowC enc l)) (hgd : o.guard = none) (ho : o.op = .store ty x y)
    (hx : a.eval x = .pointer (some ⟨g, i * k, none⟩)) (hy : a.eval y = .agg (enc X).toArray) (hi : i < l.length) (hs : (P.info? ty).map (·.size) = some k)
    (h : ∀ w', w'.ownsRow base e k (.slice (some ⟨g, 0, none⟩) (l.set i X).length cap) (l.set i X).length (rowC enc (l.set i X)) → (∀ B w0, B ≤ g → Below B w0 w → Below B w0 w') → w'.heap.size = w.heap.size → wpList P ops Q rest (a.put o.dst undef) w') : wpList P ops Q (o :: rest) a w := by
  have hle : i * k + k ≤ l.length * k := by
    have : (i + 1) * k ≤ l.length * k := Nat.mul_le_mul_right _ hi
    rwa [Nat.add_mul, Nat.one_mul] at this
  obtain ⟨cur, hcur, hcs⟩ : ∃ cur, blk w g = some cur ∧ l.length * k ≤ cur.size := by
    obtain ⟨_, h2⟩ := hown
    rcases h2 with ⟨h2, _⟩ | ⟨g', cap', cur, h3, h4, h5, h6, h7, h8, h9⟩
    · cases h2
    · simp only [Value.slice.injEq, Option.some.injEq, Addr.mk.injEq] at h3
      obtain ⟨⟨rfl, _⟩, _, rfl⟩ := h3
      exact ⟨cur, blk_of h5, by rw [h8]; exact Nat.mul_le_mul_right _ h6⟩
  have hsz : (enc X).toArray.size = k := by simp [hk]
  refine wpList_store_mid hgd ty x y ho g (i * k) (enc X).toArray hx hy (there_of_blk hcur (by rw [hsz]; omega)) (by rw [hsz]; exact hs) (by simpa using h1 X) ?_
  refine h _ ?_ (fun B w0 hB hw => below_setCells hB _ _ _ hw) (size_setCells _ _ _)
  have := owns_setCells (enc X) (i * k) (rowC enc l) w hown (by rw [hk]; omega)
  rw [setL_row hk l i hi X] at this
  rw [List.length_set]
  exact this
end
end Go.Proofs.YthfmkkkdjgkaoaaGreatDoor
