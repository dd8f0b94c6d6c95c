/- Parts of a proof, printed by a program of mine out of my texts: more of SoMath, SRow, SoIns, SoOrd, SoOwn, Slice, KitMod, EgMath, EgPlain, EgAll, EgLst, EgFn. -/
import Derived.Test.YtkaehoihpgelnaaDoorMF
import Derived.Test.YtkaehoihpgelnaaDoorMM
import Derived.Test.YtkaehoihpgelnaaDoorMN
import Derived.Test.YtkaehoihpgelnaaDoorMU
set_option linter.unusedSimpArgs false
set_option linter.unusedVariables false
namespace Go.Proofs.YtkaehoihpgelnaaDoor
variable {α : Type}
def Srt (lt : α → α → Bool) (l : List α) : Prop := l.Pairwise (fun a b => lt b a = false)
theorem insRev_srt (lt : α → α → Bool) (asym : ∀ a b, lt a b = true → lt b a = false) (tr : ∀ a b c, lt a b = false → lt b c = false → lt a c = false) (x : α) :
    ∀ l : List α, l.Pairwise (fun a b => lt a b = false) → (insRev lt x l).Pairwise (fun a b => lt a b = false)
  | [], _ => by simp [insRev]
  | y :: r, h => by
    simp only [insRev]
    obtain ⟨h1, h2⟩ := List.pairwise_cons.1 h
    split
    · rename_i hx
      refine List.pairwise_cons.2 ⟨fun z hz => ?_, insRev_srt lt asym tr x r h2⟩
      rcases List.mem_cons.1 ((insRev_perm lt x r).mem_iff.1 hz) with rfl | hz
      · exact asym _ _ hx
      · exact h1 z hz
    · rename_i hx
      have hx' : lt x y = false := by simpa using hx
      refine List.pairwise_cons.2 ⟨fun z hz => ?_, h⟩
      rcases List.mem_cons.1 hz with rfl | hz
      · exact hx'
      · exact tr _ _ _ hx' (h1 z hz)
theorem insR_srt (lt : α → α → Bool) (asym : ∀ a b, lt a b = true → lt b a = false) (tr : ∀ a b c, lt a b = false → lt b c = false → lt a c = false) (x : α) (l : List α) (h : Srt lt l) : Srt lt (insR lt x l) := by
  unfold Srt insR at *
  rw [List.pairwise_reverse]
  exact insRev_srt lt asym tr x l.reverse (List.pairwise_reverse.2 h)
theorem isort_srt (lt : α → α → Bool) (asym : ∀ a b, lt a b = true → lt b a = false) (tr : ∀ a b c, lt a b = false → lt b c = false → lt a c = false) (l : List α) : Srt lt (isort lt l) := by
  suffices h : ∀ (l s : List α), Srt lt s → Srt lt (l.foldl (fun s x => insR lt x s) s) from h l [] List.Pairwise.nil
  intro l
  induction l with
  | nil => intro s h; exact h
  | cons x l ih => intro s h; exact ih _ (insR_srt lt asym tr x s h)
end Go.Proofs.YtkaehoihpgelnaaDoor
namespace Go.Proofs.YtkaehoihpgelnaaDoor
open Go.RowKit
section
variable {α : Type} {enc : α → List Value} {k : Nat}
end
section
variable {α : Type} {enc : α → List Value} {k : Nat}
end
section
variable {P : Program} {ops : Array Oper} {rest : List Oper} {o : Oper} {a : Act} {w : World}
variable {α : Type} {enc : α → List Value}
theorem wpList_append_struct {Q : Exit → Act → World → Prop} (hgd : o.guard = none) (s x : Operand) (t : TypeId)
    (ho : o.op = .call { callee := .builtin .append, args := #[s, x], argTypes := #[t, t] })
    (base : Nat) (e : TypeId) (i : TypeInfo) (z : Value) (size bytes : Nat) (ht : P.underlying t = some (.slice e)) (hi : P.info? e = some i) (hz : i.zero = some z)
    (hsize : i.size = size) (hby : i.bytes = bytes) (hzs : z.cells.size = size) (hsz : 0 < size)
    (hk : ∀ x, (enc x).length = size) (h1 : ∀ x, ∀ u ∈ enc x, u.oneCell' = true)
    (v : Value) (l : List α) (hs : a.eval s = v) (hown : w.ownsRow base e size v l.length (rowC enc l))
    (sb c : Nat) (y : α) (hx : a.eval x = .slice (some ⟨sb, 0, none⟩) 1 c) (hb : blk w sb = some (enc y).toArray)
    (h63 : l.length + 1 ≤ maxLen) (hbytes : (l.length + 1) * bytes ≤ 140737488355328) (hbase : base ≤ w.heap.size)
    (h : ∀ v' w', w'.ownsRow base e size v' (l ++ [y]).length (rowC enc (l ++ [y])) → w.grownBy w' v.ownBlock → wpList P ops Q rest (a.put o.dst v') w') : wpList P ops Q (o :: rest) a w := by
  refine wpList_append_own w hgd s x t ho base e i z size bytes ht hi hz hsize hby hzs hsz v l.length (rowC enc l) hs hown ⟨sb, 0, none⟩ 1 c (enc y) hx (by rw [hk]; omega) (fun j u hj => ?_) (h1 y) h63 hbytes hbase (fun v' w' h2 h3 _ => h v' w' ?_ h3)
  · rw [Addr.add_mid, Nat.zero_add, blk_cell hb]
    simpa using hj
  · rw [rowC_append, rowC_one, List.length_append]
    exact h2
end
section
variable {P : Program} {ops : Array Oper} {rest : List Oper} {o : Oper} {a : Act} {w : World}
end
end Go.Proofs.YtkaehoihpgelnaaDoor
namespace Go.Proofs.YtkaehoihpgelnaaDoor
open Go.RowKit
theorem bn_one (b : Bn) : ∀ u ∈ bn b, u.oneCell' = true := by
  intro u hu
  simp only [bn, List.mem_cons, List.not_mem_nil, or_false] at hu
  rcases hu with rfl | rfl | rfl | rfl | rfl | rfl | rfl | rfl | rfl <;> rfl
end Go.Proofs.YtkaehoihpgelnaaDoor
namespace Go.Proofs.YtkaehoihpgelnaaDoor
open Go.RowKit
def cmpO : List (Int × Int) → Int
  | [] => 0
  | x :: l => if cmp3 x.1 x.2 ≠ 0 then cmp3 x.1 x.2 else cmpO l
theorem cmpO_swap : ∀ l, cmpO (l.map fun x => (x.2, x.1)) = - cmpO l
  | [] => by simp [cmpO]
  | x :: l => by
    have := cmpO_swap l
    simp only [List.map_cons, cmpO]
    rcases cmp3_cases x.1 x.2 with ⟨h, h'⟩ | ⟨h, h'⟩ | ⟨h, h'⟩ <;> rcases cmp3_cases x.2 x.1 with ⟨g, g'⟩ | ⟨g, g'⟩ | ⟨g, g'⟩ <;> first | omega | (rw [h, g]; simp; try omega)
theorem cmpO_zero : ∀ l, cmpO l = 0 ↔ ∀ x ∈ l, x.1 = x.2
  | [] => by simp [cmpO]
  | x :: l => by
    have := cmpO_zero l
    simp only [cmpO, List.mem_cons, forall_eq_or_imp]
    rcases cmp3_cases x.1 x.2 with ⟨h, h'⟩ | ⟨h, h'⟩ | ⟨h, h'⟩ <;> rw [h]
    · exact ⟨fun hh => by simp at hh, fun hh => absurd hh.1 (by omega)⟩
    · exact ⟨fun hh => ⟨h', this.1 (by simpa using hh)⟩, fun hh => by simpa using this.2 hh.2⟩
    · exact ⟨fun hh => by simp at hh, fun hh => absurd hh.1 (by omega)⟩
theorem cmpO_trans : ∀ (l : List (Int × Int × Int)), cmpO (l.map fun x => (x.1, x.2.1)) ≤ 0 → cmpO (l.map fun x => (x.2.1, x.2.2)) ≤ 0 →
    cmpO (l.map fun x => (x.1, x.2.2)) ≤ 0 ∧ (cmpO (l.map fun x => (x.1, x.2.1)) < 0 ∨ cmpO (l.map fun x => (x.2.1, x.2.2)) < 0 → cmpO (l.map fun x => (x.1, x.2.2)) < 0)
  | [] => by simp [cmpO]
  | x :: l => by
    have ih := cmpO_trans l
    simp only [List.map_cons, cmpO]
    rcases cmp3_cases x.1 x.2.1 with ⟨h, h'⟩ | ⟨h, h'⟩ | ⟨h, h'⟩ <;> rcases cmp3_cases x.2.1 x.2.2 with ⟨g, g'⟩ | ⟨g, g'⟩ | ⟨g, g'⟩ <;> rcases cmp3_cases x.1 x.2.2 with ⟨k, k'⟩ | ⟨k, k'⟩ | ⟨k, k'⟩ <;> first | omega | (rw [h, g, k]; simp; try omega)
theorem cmpI_L (no sq of no' sq' of' : Int) : cmpI no sq of no' sq' of' = cmpO [(no, no'), (sq, sq'), (of, of')] := rfl
theorem ordB_O (no sq of pr bo li no' sq' of' pr' bo' li' : Int) : ordB no sq of pr bo li no' sq' of' pr' bo' li' = cmpO [(pr', pr), (bo + li, bo' + li'), (no, no'), (sq, sq'), (of, of')] := by
  unfold ordB
  simp only [cmpI_L, orL, cmpO]
  rcases cmp3_cases pr' pr with ⟨h, _⟩ | ⟨h, _⟩ | ⟨h, _⟩ <;> rw [h] <;> simp <;>
  rcases cmp3_cases (bo + li) (bo' + li') with ⟨g, _⟩ | ⟨g, _⟩ | ⟨g, _⟩ <;> rw [g] <;> simp <;>
  (intro k; omega)
theorem less_lawsO (no sq of pr bo li no' sq' of' pr' bo' li' no2 sq2 of2 pr2 bo2 li2 : Int) :
    (lessB no sq of pr bo li no' sq' of' pr' bo' li' = true → lessB no' sq' of' pr' bo' li' no sq of pr bo li = false) ∧
    (lessB no sq of pr bo li no' sq' of' pr' bo' li' = true → lessB no' sq' of' pr' bo' li' no2 sq2 of2 pr2 bo2 li2 = true → lessB no sq of pr bo li no2 sq2 of2 pr2 bo2 li2 = true) ∧
    (lessB no sq of pr bo li no' sq' of' pr' bo' li' = false → lessB no' sq' of' pr' bo' li' no sq of pr bo li = false → no = no' ∧ sq = sq' ∧ of = of') := by
  unfold lessB
  rw [ordB_O, ordB_O, ordB_O, ordB_O]
  have h1 := cmpO_swap [(pr', pr), (bo + li, bo' + li'), (no, no'), (sq, sq'), (of, of')]
  have h2 := cmpO_zero [(pr', pr), (bo + li, bo' + li'), (no, no'), (sq, sq'), (of, of')]
  have h3 := cmpO_trans [(bo + li, bo' + li', bo2 + li2), (no, no', no2), (sq, sq', sq2), (of, of', of2)]
  simp only [List.map_cons, List.map_nil] at h1 h3
  simp only [List.mem_cons, List.not_mem_nil, or_false, forall_eq_or_imp, forall_eq] at h2
  refine ⟨fun a => ?_, fun a b => ?_, fun a b => ?_⟩
  · simp only [decide_eq_true_eq, decide_eq_false_iff_not] at a ⊢; omega
  · simp only [decide_eq_true_eq] at a b ⊢
    have e : ∀ p q : Int, ∀ l, cmpO ((p, q) :: l) = if cmp3 p q ≠ 0 then cmp3 p q else cmpO l := fun _ _ _ => rfl
    rw [e] at a b ⊢
    rcases cmp3_cases pr' pr with ⟨h, h'⟩ | ⟨h, h'⟩ | ⟨h, h'⟩ <;> rcases cmp3_cases pr2 pr' with ⟨g, g'⟩ | ⟨g, g'⟩ | ⟨g, g'⟩ <;> rcases cmp3_cases pr2 pr with ⟨k, k'⟩ | ⟨k, k'⟩ | ⟨k, k'⟩ <;> first | omega | (rw [h] at a; rw [g] at b; rw [k]; simp at a b ⊢; try exact (h3 (by omega) (by omega)).2 (.inl a))
  · simp only [decide_eq_false_iff_not] at a b
    have := h2.1 (by omega)
    exact this.2.2
theorem ltB_asymO (a b : Bn) (h : ltB a b = true) : ltB b a = false := (less_lawsO a.no a.sq a.of a.pr a.bo a.li b.no b.sq b.of b.pr b.bo b.li 0 0 0 0 0 0).1 h
theorem cmpO_nn : ∀ l : List (Int × Int × Int), ¬ cmpO (l.map fun x => (x.1, x.2.1)) < 0 → ¬ cmpO (l.map fun x => (x.2.1, x.2.2)) < 0 → ¬ cmpO (l.map fun x => (x.1, x.2.2)) < 0
  | [], _, _ => by simp [cmpO]
  | (a, b, c) :: l, h1, h2 => by
    have e : ∀ p q : Int, ∀ l, cmpO ((p, q) :: l) = if cmp3 p q ≠ 0 then cmp3 p q else cmpO l := fun _ _ _ => rfl
    simp only [List.map_cons] at h1 h2 ⊢
    rw [e] at h1 h2 ⊢
    have ih := cmpO_nn l
    rcases cmp3_cases a b with ⟨h, h'⟩ | ⟨h, h'⟩ | ⟨h, h'⟩ <;> rcases cmp3_cases b c with ⟨g, g'⟩ | ⟨g, g'⟩ | ⟨g, g'⟩ <;> rcases cmp3_cases a c with ⟨k, k'⟩ | ⟨k, k'⟩ | ⟨k, k'⟩ <;>
      first
      | omega
      | (rw [h] at h1; exact absurd h1 (by decide))
      | (rw [g] at h2; exact absurd h2 (by decide))
      | (rw [k]; decide)
      | (rw [h] at h1; rw [g] at h2; rw [k]; exact ih (by simpa using h1) (by simpa using h2))
theorem cmpO_neg (p q : Int) (l : List (Int × Int)) : cmpO ((p, q) :: l) = cmpO ((-q, -p) :: l) := by
  have e : ∀ p q : Int, ∀ l, cmpO ((p, q) :: l) = if cmp3 p q ≠ 0 then cmp3 p q else cmpO l := fun _ _ _ => rfl
  have h : cmp3 p q = cmp3 (-q) (-p) := by
    rcases cmp3_cases p q with ⟨h, h'⟩ | ⟨h, h'⟩ | ⟨h, h'⟩ <;> rcases cmp3_cases (-q) (-p) with ⟨g, g'⟩ | ⟨g, g'⟩ | ⟨g, g'⟩ <;> first | omega | rw [h, g]
  rw [e, e, h]
theorem ltB_nnO (a b c : Bn) (h1 : ltB a b = false) (h2 : ltB b c = false) : ltB a c = false := by
  unfold ltB lessB at *
  rw [ordB_O, cmpO_neg] at *
  simp only [decide_eq_false_iff_not] at *
  exact cmpO_nn [(-a.pr, -b.pr, -c.pr), (a.bo + a.li, b.bo + b.li, c.bo + c.li), (a.no, b.no, c.no), (a.sq, b.sq, c.sq), (a.of, b.of, c.of)] h1 h2
end Go.Proofs.YtkaehoihpgelnaaDoor
namespace Go.Proofs.YtkaehoihpgelnaaDoor
open Go.RowKit
theorem infoBu : (Tryd.prog.info? 38).map (fun i => (i.zero, i.size, i.bytes)) = some (some (.agg #[.int .i64 0, .int .u64 0, .int .i64 0, .int .i64 0, .int .i64 0, .int .i64 0, .int .i64 0, .int .i64 0, .string ⟨#[]⟩]), 9, 80) := by kernel_rfl
end Go.Proofs.YtkaehoihpgelnaaDoor
namespace Go.Proofs.YtkaehoihpgelnaaDoor
open Go.RowKit
def IsRow (k : IntKind) (w : World) (a : Option Addr) (len cap : Nat) (zs : List Int) : Prop :=
  (a = none ∧ len = 0 ∧ cap = 0 ∧ zs = []) ∨
  ∃ x, a = some x ∧ len ≤ cap ∧ cap ≤ maxLen ∧ zs.length = cap ∧ (∀ i, i < zs.length → w.cell? (x.add i) = some (.int k (zs.getD i 0))) ∧ ∀ n ∈ zs, (Lit.int k n).wf = true
def Row (k : IntKind) (w : World) (a : Option Addr) (cap : Nat) (zs : List Int) : Prop :=
  zs.length ≤ cap ∧ cap ≤ maxLen ∧ (∀ z ∈ zs, (Lit.int k z).wf = true) ∧
  (a = none → cap = 0) ∧
  (0 < zs.length → ∃ b off, a = some ⟨b, off, none⟩ ∧ b < w.heap.size ∧ ∀ i (h : i < zs.length), w.cell? ⟨b, off + i, none⟩ = some (.int k zs[i]))
theorem row_of {k : IntKind} {w : World} {a : Option Addr} {len cap : Nat} {zs : List Int} (h : IsRow k w a len cap zs) : len = (zs.take len).length ∧ Row k w a cap (zs.take len) := by
  rcases h with ⟨rfl, rfl, rfl, rfl⟩ | ⟨x, rfl, hl, hm, hz, hc, hw⟩
  · exact ⟨rfl, Nat.le_refl _, by unfold maxLen; omega, by simp, fun _ => rfl, fun h => by simp at h⟩
  · have e : (zs.take len).length = len := by rw [List.length_take]; omega
    refine ⟨e.symm, by omega, hm, fun z hz => hw z (List.mem_of_mem_take hz), by simp, fun h0 => ?_⟩
    rw [e] at h0
    have h1 := hc 0 (by omega)
    obtain ⟨b, off, spot⟩ := x
    have hs : spot = none := by simpa [Addr.add] using World.cell?_spot h1
    subst hs
    refine ⟨b, off, rfl, ?_, fun i hi => ?_⟩
    · unfold World.cell? at h1
      simp only [Addr.add] at h1
      have : ∃ o, w.heap[b]? = some o := by
        cases ho : w.heap[b]? with
        | none => simp [ho] at h1
        | some o => exact ⟨o, rfl⟩
      obtain ⟨o, ho⟩ := this
      exact (Array.getElem?_eq_some_iff.1 ho).1
    · have hi' : i < len := by omega
      have := hc i (by omega)
      rw [Addr.add_lit] at this
      rw [this]
      congr 2
      rw [List.getElem_take, List.getD_eq_getElem?_getD, List.getElem?_eq_getElem (by omega)]
      rfl
theorem Row.below {k : IntKind} {w w' : World} {a : Option Addr} {cap : Nat} {zs : List Int} (h : Row k w a cap zs) (hb : Below w.heap.size w w') : Row k w' a cap zs := by
  obtain ⟨h1, h2, h3, h5, h4⟩ := h
  refine ⟨h1, h2, h3, h5, fun h0 => ?_⟩
  obtain ⟨b, off, e, hlt, hc⟩ := h4 h0
  exact ⟨b, off, e, Nat.lt_of_lt_of_le hlt hb.size, fun i hi => (hb.cell (p := ⟨b, off + i, none⟩) hlt).trans (hc i hi)⟩
end Go.Proofs.YtkaehoihpgelnaaDoor
namespace Go.Proofs.YtkaehoihpgelnaaDoor
open Go.RowKit
theorem emod_tmod (a n : Int) (h : 1 ≤ n) : (a.tmod n < 0 → a % n = a.tmod n + n) ∧ (¬ a.tmod n < 0 → a % n = a.tmod n) ∧ -n < a.tmod n ∧ a.tmod n < n := by
  have h1 := Int.emod_nonneg a (show n ≠ 0 by omega)
  have h2 := Int.emod_lt_of_pos a (show 0 < n by omega)
  have h3 := Int.tmod_eq_emod (a := a) (b := n)
  split at h3 <;> omega
set_option maxRecDepth 100000 in
theorem mod_any (a n : Int) (w : World) (h1 : 1 ≤ n) (h2 : n ≤ 1152921504606846976) :
    Calls Tryd.prog 15 #[.int .i64 a, .int .i64 n] w fun e w' => e = .returned (.int .i64 (a % n)) ∧ w = w' := by
  obtain ⟨m1, m2, m3, m4⟩ := emod_tmod a n h1
  have hz : (n == 0) = false := by simp; omega
  have e1 : IntKind.i64.wrap (a.tmod n) = a.tmod n := IntWalk.i64_in _ (by omega)
  have e2 : IntKind.i64.wrap (a.tmod n + n) = a.tmod n + n := IntWalk.i64_in _ (by omega)
  by_cases c : a.tmod n < 0
  · rw [m1 c]
    clear m1 m2
    go_enter Tryd.func15, Tryd.ntmps15
    go_wp2
    go_ret
    exact ⟨rfl, rfl⟩
  · rw [m2 c]
    clear m1 m2
    go_enter Tryd.func15, Tryd.ntmps15
    go_wp2
    go_ret
    exact ⟨rfl, rfl⟩
end Go.Proofs.YtkaehoihpgelnaaDoor
namespace Go.Proofs.YtkaehoihpgelnaaDoor
theorem chkD_ok {x : Rr} (h : okD x) : chkD x = 0 := by
  obtain ⟨h1, h2, h3, h4, h5, h6, h7⟩ := h
  unfold chkD
  rw [if_neg (by omega), weiS_ok h3 h4.1 h4.2, if_neg (by simp), if_neg (by simpa using h5), if_neg (by omega)]
end Go.Proofs.YtkaehoihpgelnaaDoor
namespace Go.Proofs.YtkaehoihpgelnaaDoor
theorem ltQ_asym (l : List Bn) (a b : Int) (h : ltQ l a b = true) : ltQ l b a = false := ltB_asymO _ _ h
theorem ltQ_nn (l : List Bn) (a b c : Int) (h1 : ltQ l a b = false) (h2 : ltQ l b c = false) : ltQ l a c = false := ltB_nnO _ _ _ h1 h2
end Go.Proofs.YtkaehoihpgelnaaDoor
namespace Go.Proofs.YtkaehoihpgelnaaDoor
theorem head_cand {w : Wy} (h : GdW w) {p : Int} (h0 : 0 ≤ p) (h2 : p ≤ 2) : (candA w p = -1 ∧ headA w p = 0) ∨ (0 ≤ candA w p ∧ headA w p = at3 w.sz (candA w p) ∧ 1 ≤ headA w p ∧ headA w p ≤ 1200) := by
  rcases cand_pos h h0 h2 with h1 | ⟨_, _, h1, h3, h4⟩
  · exact .inl ⟨h1, by unfold headA; rw [h1]; rfl⟩
  · have e : headA w p = at3 w.sz (candA w p) := by unfold headA; rw [if_neg (by omega)]
    exact .inr ⟨h1, e, by omega, by omega⟩
theorem heads_ok {w : Wy} (h : GdW w) : okH (headsS w) := by
  refine ⟨rfl, fun v hv => ?_⟩
  unfold headsS at hv
  simp only [List.mem_cons, List.not_mem_nil, or_false] at hv
  rcases hv with rfl | rfl | rfl
  · rcases head_cand h (p := 0) (by omega) (by omega) with h1 | h1 <;> omega
  · rcases head_cand h (p := 1) (by omega) (by omega) with h1 | h1 <;> omega
  · rcases head_cand h (p := 2) (by omega) (by omega) with h1 | h1 <;> omega
theorem linD_eq {w : Wy} (h : GdW w) : linD w.dr (headsS w) = if ∀ v ∈ headsS w, v = 0 then 8 else 0 := by
  have h1 := heads_ok h
  unfold linD
  rw [chkD_ok h.dr, if_neg (by simp), if_neg (by simp [headsS]), if_neg (by simpa using h1.2)]
theorem choose_none {w : Wy} (h : GdW w) (hn : (chooseS w).2.2 ≠ 0) : ∀ p : Int, 0 ≤ p → p ≤ 2 → candA w p = -1 := by
  have h1 : linD w.dr (headsS w) ≠ 0 := by
    intro e
    apply hn
    unfold chooseS
    rw [if_neg (by simpa using e)]
  rw [linD_eq h] at h1
  intro p h0 h2
  by_cases hz : ∀ v ∈ headsS w, v = 0
  · rcases head_cand h h0 h2 with ⟨h3, _⟩ | ⟨_, _, h3, _⟩
    · exact h3
    · have h4 : headA w p ∈ headsS w := by
        unfold headsS
        rcases (by omega : p = 0 ∨ p = 1 ∨ p = 2) with rfl | rfl | rfl <;> simp
      have := hz _ h4
      omega
  · rw [if_neg hz] at h1; exact absurd rfl h1
def sumZ (sz : List Int) (l : List Int) : Int := (l.map (at3 sz)).foldr (· + ·) 0
theorem sumZ_cons (sz : List Int) (i : Int) (l : List Int) : sumZ sz (i :: l) = at3 sz i + sumZ sz l := rfl
structure AllW (w : Wy) (r : List Int × Wy) : Prop where
  gd : GdW r.2
  l : r.2.l = w.l
  sz : r.2.sz = w.sz
  by_ : r.2.by' = w.by'
  fin : ∀ p : Int, 0 ≤ p → p ≤ 2 → candA r.2 p = -1
  mem : ∀ x ∈ r.1, ∃ p : Int, 0 ≤ p ∧ p ≤ 2 ∧ x ∈ quA w p
  nd : r.1.Nodup
  qu : ∀ p : Int, 0 ≤ p → p ≤ 2 → quA r.2 p = (quA w p).filter (fun x => decide (x ∉ r.1))
  us : r.2.us = w.us - sumZ w.sz r.1
  bu : r.2.bu = w.bu - sumZ w.sz r.1
  us0 : 0 ≤ w.us → 0 ≤ r.2.us
  bu0 : 0 ≤ w.bu → 0 ≤ r.2.bu
theorem pr_mem {w : Wy} (h : GdW w) {p : Int} (h0 : 0 ≤ p) (h2 : p ≤ 2) {x : Int} (hx : x ∈ quA w p) : (bnL w.l x).pr = p := by
  obtain ⟨_, _, _, h3⟩ := h.mem p h0 h2 x hx
  exact h3
theorem all_spec : ∀ (n : Nat) (w : Wy), GdW w → cntW w < n → AllW w (allS n w)
  | 0, w, _, hc => absurd hc (by omega)
  | n + 1, w, h, hc => by
    unfold allS
    by_cases hn : (chooseS w).2.2 = 0
    · rw [if_neg (by simpa using hn)]
      obtain ⟨p, st⟩ := step_some h hn
      have ih := all_spec n (stepW w) st.gd (by have := cnt_step st; omega)
      show AllW w ((chooseS w).1 :: (allS n (stepW w)).1, (allS n (stepW w)).2)
      obtain ⟨r, hr⟩ : ∃ r, r = allS n (stepW w) := ⟨_, rfl⟩
      rw [← hr] at ih ⊢
      rw [st.i]
      have hpm := pr_mem h st.p0 st.p2 st.mem
      have hfit := st.fit
      unfold fitS at hfit
      simp only [Bool.and_eq_true, decide_eq_true_eq] at hfit
      have hnot : candA w p ∉ r.1 := by
        intro hx
        obtain ⟨p', h0', h2', hx'⟩ := ih.mem _ hx
        rw [st.qu p' h0' h2'] at hx'
        split at hx'
        · have := (List.mem_filter.1 hx').2; simp at this
        · rename_i hne
          have := pr_mem h h0' h2' hx'
          omega
      refine ⟨ih.gd, ih.l.trans st.l, ih.sz.trans st.sz, ih.by_.trans st.by_, ih.fin, fun x hx => ?_, List.nodup_cons.2 ⟨hnot, ih.nd⟩, fun p' h0' h2' => ?_, ?_, ?_, fun h9 => ih.us0 (by rw [st.us]; omega), fun h9 => ih.bu0 (by rw [st.bu]; omega)⟩
      · rcases List.mem_cons.1 hx with rfl | hx
        · exact ⟨p, st.p0, st.p2, st.mem⟩
        · obtain ⟨p', h0', h2', hx'⟩ := ih.mem _ hx
          refine ⟨p', h0', h2', ?_⟩
          rw [st.qu p' h0' h2'] at hx'
          split at hx'
          · rename_i e; subst e; exact (List.mem_filter.1 hx').1
          · exact hx'
      · rw [ih.qu p' h0' h2', st.qu p' h0' h2']
        split
        · rename_i e
          subst e
          rw [List.filter_filter]
          refine List.filter_congr fun x hx => ?_
          simp only [List.mem_cons, not_or, ne_eq]
          by_cases h8 : x = candA w p' <;> by_cases h7 : x ∈ r.1 <;> simp [h8, h7]
        · rename_i hne
          refine List.filter_congr fun x hx => ?_
          have h8 : x ≠ candA w p := by
            intro e
            have := pr_mem h h0' h2' hx
            rw [e] at this; omega
          simp [h8]
      · rw [ih.us, st.us, st.sz, sumZ_cons]; omega
      · rw [ih.bu, st.bu, st.sz, sumZ_cons]; omega
    · rw [if_pos (by simpa using hn)]
      exact ⟨h, rfl, rfl, rfl, choose_none h hn, by simp, List.nodup_nil, fun p h0 h2 => (List.filter_eq_self.2 (by simp)).symm, by simp [sumZ], by simp [sumZ], fun h => h, fun h => h⟩
end Go.Proofs.YtkaehoihpgelnaaDoor
namespace Go.Proofs.YtkaehoihpgelnaaDoor
structure MadeE (l : List Bn) : Prop where
  len : l.length ≤ 12
  ok : ∀ i (h : i < l.length), bcode l[i] = 0
  no : ∀ i (h : i < l.length), l[i].no = 1
  sq : ∀ i (h : i < l.length), l[i].sq = i
  pr : ∀ i (h : i < l.length), 0 ≤ l[i].pr ∧ l[i].pr ≤ 2
def IdsE (l : List Bn) : Prop := ∀ i k (h : i < l.length) (h2 : k < l.length), l[i].no = l[k].no → l[i].sq = l[k].sq → l[i].of = l[k].of → i = k
theorem MadeE.ids {l : List Bn} (h : MadeE l) : IdsE l := by
  intro i k hi hk _ h2 _
  rw [h.sq i hi, h.sq k hk] at h2
  omega
theorem ltQ_tot {l : List Bn} (hv : IdsE l) {i k : Nat} (hi : i < l.length) (hk : k < l.length) (hne : i ≠ k) (h : ltQ l i k = false) : ltQ l k i = true := by
  cases hl : ltQ l k i with
  | true => rfl
  | false =>
    exfalso
    unfold ltQ at h hl
    rw [bnL_nat l i hi, bnL_nat l k hk] at h hl
    have h3 := (less_lawsO l[i].no l[i].sq l[i].of l[i].pr l[i].bo l[i].li l[k].no l[k].sq l[k].of l[k].pr l[k].bo l[k].li 0 0 0 0 0 0).2.2 h hl
    exact hne (hv i k hi hk h3.1 h3.2.1 h3.2.2)
theorem queS_srt (l : List Bn) (p : Int) : Srt (ltQ l) (queS l p) := isort_srt (ltQ l) (ltQ_asym l) (ltQ_nn l) _
theorem queS_strict {l : List Bn} (hv : IdsE l) (p : Int) : (queS l p).Pairwise (fun a b => ltQ l a b = true) := by
  rw [List.pairwise_iff_getElem]
  intro i j hi hj hij
  have h1 := List.pairwise_iff_getElem.1 (queS_srt l p) i j hi hj hij
  have h2 := List.pairwise_iff_getElem.1 (queS_nodup l p) i j hi hj hij
  obtain ⟨a, ha, hal, _⟩ := queS_mem.1 (List.getElem_mem hi)
  obtain ⟨b, hb, hbl, _⟩ := queS_mem.1 (List.getElem_mem hj)
  rw [ha, hb] at h1 h2 ⊢
  exact ltQ_tot hv hbl hal (fun e => h2 (by rw [e])) h1
theorem firW_gd {l : List Bn} (hs : ∀ i (h : i < l.length), 1 ≤ szB l[i] ∧ szB l[i] ≤ 1200) (us bu by' : Int) : GdW (firW l us bu by') := by
  refine ⟨⟨rfl, rfl, ?_, by show (1 : Int) ≤ 1200 ∧ (1200 : Int) ≤ 1200; omega, ?_, by show (0 : Int) ≤ 2; omega, by show (2 : Int) ≤ 2; omega⟩, rfl, rfl, fun p h0 h2 i hi => ?_, fun i hi => ?_⟩
  · intro v hv; simp [firW] at hv; omega
  · intro v hv; simp [firW] at hv; omega
  · rw [firW_qu l us bu by' p h0 h2] at hi
    obtain ⟨n, hn, hl, hp⟩ := queS_mem.1 hi
    exact ⟨n, hn, hl, by rw [hn]; show (bnL l n).pr = p; rw [bnL_nat l n hl]; exact hp⟩
  · show 1 ≤ at3 (sizesE l) i ∧ at3 (sizesE l) i ≤ 1200
    rw [sizesE_at l i hi]
    exact hs i hi
end Go.Proofs.YtkaehoihpgelnaaDoor
namespace Go.Proofs.YtkaehoihpgelnaaDoor
open Go.RowKit
def RetCa (L : List Int) (w : World) (e : Ending) (w' : World) : Prop := ∃ a1 c1, e = .returned (.tuple #[.slice a1 3 c1, .int .i64 0]) ∧ SRow ic 1 w' a1 c1 L ∧ Below w.heap.size w w'
set_option maxRecDepth 100000 in
set_option maxHeartbeats 3200000 in
theorem cands_any {r : Rr} {ps : List Int} {l : List Bn} {us bu by' : Int} (h : OpnG r ps l us bu by') (c : Array Value) (al : Option Addr) (cl : Nat) (w : World) (hT : HTab w) (hX : ExitS (fun _ => False) w c r ps) (hrow : SRow bn 9 w al cl l) :
    Calls Tryd.prog 29 #[.agg c, .slice al l.length cl, .int .u64 us, .int .i64 bu, .int .i64 by'] w fun e w' => RetCa (candsS (opnW r ps l us bu by')) w e w' := by
  have HO := Lib.hid (fun W (hB : Below w.heap.size w W) => open_any h c al cl W (hT.on hB) (fun _ => False) (fun _ h => h.elim) (hX.below hB) (hrow.below hB) (fun _ _ _ _ h => h))
  have HC := Lib.hid (fun (c' : Array Value) (W : World) (hW : WayAt W c' (opnW r ps l us bu by')) => cand_ok c' _ (opnW_gd h) (opnW_sz r ps l us bu by') W hW)
  obtain ⟨aw, cw, ad, cd, ap, cp, rfl, _⟩ := hX
  obtain ⟨x, hx⟩ : ∃ x, x = opnW r ps l us bu by' := ⟨_, rfl⟩
  rw [← hx] at HO HC ⊢
  obtain ⟨rq, hrq⟩ : ∃ v, v = r.q := ⟨_, rfl⟩
  obtain ⟨rt, hrt⟩ : ∃ v, v = r.t := ⟨_, rfl⟩
  obtain ⟨n, hn⟩ : ∃ v, v = l.length := ⟨_, rfl⟩
  rw [← hrq, ← hrt, ← hn] at HO ⊢
  have t1 : ((0 : Int) != 0) = false := rfl
  clear hx hrq hrt hn hrow hT h
  go_enter Tryd.func29, Tryd.ntmps29
  go_upto_region 1 with fail
  refine wp_region_tail0 0 ?_
  intro W0 hE hN
  have k0 : blk W0 w.heap.size = some #[.slice aw 3 cw, .int .i64 rq, .slice ad 3 cd, .int .i64 rt, .slice ap 3 cp] := (by rw [hE.out]; exact blk_alloc_new _ _ _ rfl)
  have b0 : Below w.heap.size w W0 := (by rw [hE.out]; (repeat (first | (with_reducible assumption) | (with_reducible exact Below.refl _ _) | (with_reducible refine beld_drew ?_) | ((with_reducible refine bset' ?_ ?_); (first | (focus (dsimp only; assumption)) | (focus (simp; done)) | (focus (dsimp only; omega)))) | (with_reducible refine belt_alloc ?_) | ((with_reducible refine zeroed_below' ?_ ?_); (first | (focus (simp; done)) | (focus (dsimp only; omega)))) | (with_reducible refine bt ?_ (by assumption)))))
  clear hE
  simp only [List.take_succ_cons, List.take_zero, List.drop_succ_cons, List.drop_zero]
  refine wpQuiet_nil ?_
  rintro _ ⟨x', rfl⟩
  have k1 := blk_below x'.ok k0
  have b1 := bt b0 x'.ok
  obtain ⟨u, hu⟩ : ∃ u, u = x'.wd := ⟨_, rfl⟩
  rw [← hu] at k1 b1 ⊢
  clear hu x' hN k0 b0
  refine wpList_load_mid rfl 28 (.tmp 5) rfl w.heap.size 0 rfl [.slice aw 3 cw, .int .i64 rq, .slice ad 3 cd, .int .i64 rt, .slice ap 3 cp] _ (range_of_blk k1 0 _ rfl) Tryd.underlying28 rfl (by kernel_rfl) ?_
  conv => arg 5; simp [Act.put]
  clear k1
  go_wp2_with (first | (go_at_call 38; (with_reducible refine (HO.out _ b1).mono ?_); rintro e u2 ⟨cc, rfl, hW2, h2⟩; (have b2 := bt b1 h2); (have HW := Lib.hid hW2.at); obtain ⟨aw', cw', ad', cd', ap', cp', al', cl', ob', cq', az', cz', rfl, _⟩ := hW2; clear h2) | (go_at_call 55; (with_reducible refine (HC.out _ _ (HW.out.below ((Below.refl _ _).alloc (Nat.le_refl _) _))).mono ?_); rintro e u4 ⟨f1, g1, f2, g2, rfl, F1, F2, h4⟩))
  go_ret2
  exact ⟨f1, g1, rfl, F1, bt (b2.alloc b2.size _) h4⟩
end Go.Proofs.YtkaehoihpgelnaaDoor
