/- Parts of a proof, printed by a program of mine out of my texts: more of SRow, SoIns, SoOwn, Slice, KitMod, EgMath, EgAll, EgLst, EgFn. -/
import Derived.Test.YtkaehoihpgelnaaDoorMF
import Derived.Test.YtkaehoihpgelnaaDoorMM
import Derived.Test.YtkaehoihpgelnaaDoorMN
import Derived.Test.YtkaehoihpgelnaaDoorMU
set_option linter.unusedSimpArgs false
set_option linter.unusedVariables false
namespace Go.Proofs.YtkaehoihpgelnaaDoor
open Go.RowKit
section
variable {α : Type} {enc : α → List Value} {k : Nat}
theorem rowC_cell (hk : ∀ x, (enc x).length = k) (l : List α) (i j : Nat) (hi : i < l.length) (hj : j < k) (rest : List Value) : (rowC enc l ++ rest)[i * k + j]? = (enc l[i])[j]? := by
  have h := rowC_at hk l i hi rest
  have h2 := congrArg (fun z => z[j]?) h
  rw [List.getElem?_take_of_lt (by rw [hk]; exact hj), List.getElem?_drop] at h2
  exact h2
end
section
variable {α : Type} {enc : α → List Value} {k : Nat}
end
section
variable {P : Program} {ops : Array Oper} {rest : List Oper} {o : Oper} {a : Act} {w : World}
variable {α : Type} {enc : α → List Value}
theorem wpList_append_struct {Q : Exit → Act → World → Prop} (hgd : o.guard = none) (s x : Operand) (t : TypeId)
    (ho : o.op = .call { callee := .builtin .append, args := #[s, x], argTypes := #[t, t] })
    (base : Nat) (e : TypeId) (i : TypeInfo) (z : Value) (size bytes : Nat) (ht : P.underlying t = some (.slice e)) (hi : P.info? e = some i) (hz : i.zero = some z)
    (hsize : i.size = size) (hby : i.bytes = bytes) (hzs : z.cells.size = size) (hsz : 0 < size)
    (hk : ∀ x, (enc x).length = size) (h1 : ∀ x, ∀ u ∈ enc x, u.oneCell' = true)
    (v : Value) (l : List α) (hs : a.eval s = v) (hown : w.ownsRow base e size v l.length (rowC enc l))
    (sb c : Nat) (y : α) (hx : a.eval x = .slice (some ⟨sb, 0, none⟩) 1 c) (hb : blk w sb = some (enc y).toArray)
    (h63 : l.length + 1 ≤ maxLen) (hbytes : (l.length + 1) * bytes ≤ 140737488355328) (hbase : base ≤ w.heap.size)
    (h : ∀ v' w', w'.ownsRow base e size v' (l ++ [y]).length (rowC enc (l ++ [y])) → w.grownBy w' v.ownBlock → wpList P ops Q rest (a.put o.dst v') w') : wpList P ops Q (o :: rest) a w := by
  refine wpList_append_own w hgd s x t ho base e i z size bytes ht hi hz hsize hby hzs hsz v l.length (rowC enc l) hs hown ⟨sb, 0, none⟩ 1 c (enc y) hx (by rw [hk]; omega) (fun j u hj => ?_) (h1 y) h63 hbytes hbase (fun v' w' h2 h3 _ => h v' w' ?_ h3)
  · rw [Addr.add_mid, Nat.zero_add, blk_cell hb]
    simpa using hj
  · rw [rowC_append, rowC_one, List.length_append]
    exact h2
end
section
variable {P : Program} {ops : Array Oper} {rest : List Oper} {o : Oper} {a : Act} {w : World}
end
end Go.Proofs.YtkaehoihpgelnaaDoor
namespace Go.Proofs.YtkaehoihpgelnaaDoor
open Go.RowKit
theorem bn_one (b : Bn) : ∀ u ∈ bn b, u.oneCell' = true := by
  intro u hu
  simp only [bn, List.mem_cons, List.not_mem_nil, or_false] at hu
  rcases hu with rfl | rfl | rfl | rfl | rfl | rfl | rfl | rfl | rfl <;> rfl
end Go.Proofs.YtkaehoihpgelnaaDoor
namespace Go.Proofs.YtkaehoihpgelnaaDoor
open Go.RowKit
theorem infoBu : (Tryd.prog.info? 38).map (fun i => (i.zero, i.size, i.bytes)) = some (some (.agg #[.int .i64 0, .int .u64 0, .int .i64 0, .int .i64 0, .int .i64 0, .int .i64 0, .int .i64 0, .int .i64 0, .string ⟨#[]⟩]), 9, 80) := by kernel_rfl
theorem rowC_one_cell (l : List Bn) : ∀ u ∈ rowC bn l, u.oneCell' = true := by
  intro u hu
  simp only [rowC, List.mem_flatMap] at hu
  obtain ⟨x, _, hx⟩ := hu
  exact bn_one x u hx
theorem srow_cells {w : World} {a : Option Addr} {cap : Nat} {l : List Bn} (h : SRow bn 9 w a cap l) (h0 : 0 < l.length) : ∃ b off, a = some ⟨b, off, none⟩ ∧ b < w.heap.size ∧ ∀ j u, (rowC bn l)[j]? = some u → w.cell? ⟨b, off + j, none⟩ = some u := by
  obtain ⟨b, off, e, hlt, hc⟩ := h.2.2.2 h0
  refine ⟨b, off, e, hlt, fun j u hj => ?_⟩
  have hjl : j < l.length * 9 := by
    have := (List.getElem?_eq_some_iff.1 hj).1
    rwa [rowC_length bn_len] at this
  have hi : j / 9 < l.length := by omega
  have h2 := rowC_cell bn_len l (j / 9) (j % 9) hi (by omega) []
  rw [List.append_nil, show j / 9 * 9 + j % 9 = j by omega, hj] at h2
  have := hc (j / 9) hi (j % 9) u h2.symm
  rwa [show off + j / 9 * 9 + j % 9 = off + j by omega] at this
theorem own_empty9 (w : World) (e : TypeId) : (w.alloc (.cells #[] e)).ownsRow w.heap.size e 9 (.slice (some ⟨w.heap.size, 0, none⟩) 0 0) 0 [] :=
  ⟨rfl, .inr ⟨w.heap.size, 0, #[], rfl, Nat.le_refl _, heap_alloc_new w _, Nat.le_refl _, by unfold maxLen; omega, rfl, rfl⟩⟩
end Go.Proofs.YtkaehoihpgelnaaDoor
namespace Go.Proofs.YtkaehoihpgelnaaDoor
open Go.RowKit
def IsRow (k : IntKind) (w : World) (a : Option Addr) (len cap : Nat) (zs : List Int) : Prop :=
  (a = none ∧ len = 0 ∧ cap = 0 ∧ zs = []) ∨
  ∃ x, a = some x ∧ len ≤ cap ∧ cap ≤ maxLen ∧ zs.length = cap ∧ (∀ i, i < zs.length → w.cell? (x.add i) = some (.int k (zs.getD i 0))) ∧ ∀ n ∈ zs, (Lit.int k n).wf = true
def Row (k : IntKind) (w : World) (a : Option Addr) (cap : Nat) (zs : List Int) : Prop :=
  zs.length ≤ cap ∧ cap ≤ maxLen ∧ (∀ z ∈ zs, (Lit.int k z).wf = true) ∧
  (a = none → cap = 0) ∧
  (0 < zs.length → ∃ b off, a = some ⟨b, off, none⟩ ∧ b < w.heap.size ∧ ∀ i (h : i < zs.length), w.cell? ⟨b, off + i, none⟩ = some (.int k zs[i]))
theorem row_of {k : IntKind} {w : World} {a : Option Addr} {len cap : Nat} {zs : List Int} (h : IsRow k w a len cap zs) : len = (zs.take len).length ∧ Row k w a cap (zs.take len) := by
  rcases h with ⟨rfl, rfl, rfl, rfl⟩ | ⟨x, rfl, hl, hm, hz, hc, hw⟩
  · exact ⟨rfl, Nat.le_refl _, by unfold maxLen; omega, by simp, fun _ => rfl, fun h => by simp at h⟩
  · have e : (zs.take len).length = len := by rw [List.length_take]; omega
    refine ⟨e.symm, by omega, hm, fun z hz => hw z (List.mem_of_mem_take hz), by simp, fun h0 => ?_⟩
    rw [e] at h0
    have h1 := hc 0 (by omega)
    obtain ⟨b, off, spot⟩ := x
    have hs : spot = none := by simpa [Addr.add] using World.cell?_spot h1
    subst hs
    refine ⟨b, off, rfl, ?_, fun i hi => ?_⟩
    · unfold World.cell? at h1
      simp only [Addr.add] at h1
      have : ∃ o, w.heap[b]? = some o := by
        cases ho : w.heap[b]? with
        | none => simp [ho] at h1
        | some o => exact ⟨o, rfl⟩
      obtain ⟨o, ho⟩ := this
      exact (Array.getElem?_eq_some_iff.1 ho).1
    · have hi' : i < len := by omega
      have := hc i (by omega)
      rw [Addr.add_lit] at this
      rw [this]
      congr 2
      rw [List.getElem_take, List.getD_eq_getElem?_getD, List.getElem?_eq_getElem (by omega)]
      rfl
theorem Row.below {k : IntKind} {w w' : World} {a : Option Addr} {cap : Nat} {zs : List Int} (h : Row k w a cap zs) (hb : Below w.heap.size w w') : Row k w' a cap zs := by
  obtain ⟨h1, h2, h3, h5, h4⟩ := h
  refine ⟨h1, h2, h3, h5, fun h0 => ?_⟩
  obtain ⟨b, off, e, hlt, hc⟩ := h4 h0
  exact ⟨b, off, e, Nat.lt_of_lt_of_le hlt hb.size, fun i hi => (hb.cell (p := ⟨b, off + i, none⟩) hlt).trans (hc i hi)⟩
end Go.Proofs.YtkaehoihpgelnaaDoor
namespace Go.Proofs.YtkaehoihpgelnaaDoor
open Go.RowKit
theorem emod_tmod (a n : Int) (h : 1 ≤ n) : (a.tmod n < 0 → a % n = a.tmod n + n) ∧ (¬ a.tmod n < 0 → a % n = a.tmod n) ∧ -n < a.tmod n ∧ a.tmod n < n := by
  have h1 := Int.emod_nonneg a (show n ≠ 0 by omega)
  have h2 := Int.emod_lt_of_pos a (show 0 < n by omega)
  have h3 := Int.tmod_eq_emod (a := a) (b := n)
  split at h3 <;> omega
set_option maxRecDepth 100000 in
theorem mod_any (a n : Int) (w : World) (h1 : 1 ≤ n) (h2 : n ≤ 1152921504606846976) :
    Calls Tryd.prog 15 #[.int .i64 a, .int .i64 n] w fun e w' => e = .returned (.int .i64 (a % n)) ∧ w = w' := by
  obtain ⟨m1, m2, m3, m4⟩ := emod_tmod a n h1
  have hz : (n == 0) = false := by simp; omega
  have e1 : IntKind.i64.wrap (a.tmod n) = a.tmod n := IntWalk.i64_in _ (by omega)
  have e2 : IntKind.i64.wrap (a.tmod n + n) = a.tmod n + n := IntWalk.i64_in _ (by omega)
  by_cases c : a.tmod n < 0
  · rw [m1 c]
    clear m1 m2
    go_enter Tryd.func15, Tryd.ntmps15
    go_wp2
    go_ret
    exact ⟨rfl, rfl⟩
  · rw [m2 c]
    clear m1 m2
    go_enter Tryd.func15, Tryd.ntmps15
    go_wp2
    go_ret
    exact ⟨rfl, rfl⟩
end Go.Proofs.YtkaehoihpgelnaaDoor
namespace Go.Proofs.YtkaehoihpgelnaaDoor
theorem chkD_ok {x : Rr} (h : okD x) : chkD x = 0 := by
  obtain ⟨h1, h2, h3, h4, h5, h6, h7⟩ := h
  unfold chkD
  rw [if_neg (by omega), weiS_ok h3 h4.1 h4.2, if_neg (by simp), if_neg (by simpa using h5), if_neg (by omega)]
end Go.Proofs.YtkaehoihpgelnaaDoor
namespace Go.Proofs.YtkaehoihpgelnaaDoor
theorem head_cand {w : Wy} (h : GdW w) {p : Int} (h0 : 0 ≤ p) (h2 : p ≤ 2) : (candA w p = -1 ∧ headA w p = 0) ∨ (0 ≤ candA w p ∧ headA w p = at3 w.sz (candA w p) ∧ 1 ≤ headA w p ∧ headA w p ≤ 1200) := by
  rcases cand_pos h h0 h2 with h1 | ⟨_, _, h1, h3, h4⟩
  · exact .inl ⟨h1, by unfold headA; rw [h1]; rfl⟩
  · have e : headA w p = at3 w.sz (candA w p) := by unfold headA; rw [if_neg (by omega)]
    exact .inr ⟨h1, e, by omega, by omega⟩
theorem heads_ok {w : Wy} (h : GdW w) : okH (headsS w) := by
  refine ⟨rfl, fun v hv => ?_⟩
  unfold headsS at hv
  simp only [List.mem_cons, List.not_mem_nil, or_false] at hv
  rcases hv with rfl | rfl | rfl
  · rcases head_cand h (p := 0) (by omega) (by omega) with h1 | h1 <;> omega
  · rcases head_cand h (p := 1) (by omega) (by omega) with h1 | h1 <;> omega
  · rcases head_cand h (p := 2) (by omega) (by omega) with h1 | h1 <;> omega
theorem linD_eq {w : Wy} (h : GdW w) : linD w.dr (headsS w) = if ∀ v ∈ headsS w, v = 0 then 8 else 0 := by
  have h1 := heads_ok h
  unfold linD
  rw [chkD_ok h.dr, if_neg (by simp), if_neg (by simp [headsS]), if_neg (by simpa using h1.2)]
end Go.Proofs.YtkaehoihpgelnaaDoor
namespace Go.Proofs.YtkaehoihpgelnaaDoor
structure MadeE (l : List Bn) : Prop where
  len : l.length ≤ 12
  ok : ∀ i (h : i < l.length), bcode l[i] = 0
  no : ∀ i (h : i < l.length), l[i].no = 1
  sq : ∀ i (h : i < l.length), l[i].sq = i
  pr : ∀ i (h : i < l.length), 0 ≤ l[i].pr ∧ l[i].pr ≤ 2
def IdsE (l : List Bn) : Prop := ∀ i k (h : i < l.length) (h2 : k < l.length), l[i].no = l[k].no → l[i].sq = l[k].sq → l[i].of = l[k].of → i = k
theorem MadeE.ids {l : List Bn} (h : MadeE l) : IdsE l := by
  intro i k hi hk _ h2 _
  rw [h.sq i hi, h.sq k hk] at h2
  omega
end Go.Proofs.YtkaehoihpgelnaaDoor
namespace Go.Proofs.YtkaehoihpgelnaaDoor
open Go.RowKit
theorem queuesX_any {l : List Bn} (hl : l.length ≤ 20) (h : lstE l = 0) (al : Option Addr) (cl : Nat) (w : World) (hrow : SRow bn 9 w al cl l) :
    Calls Tryd.prog 21 #[.slice al l.length cl] w fun e w' => ∃ ob, e = .returned (.tuple #[.slice (some ⟨ob, 0, none⟩) 3 3, .int .i64 0]) ∧ w.heap.size ≤ ob ∧ QAtU w' ob (queS l 0) (queS l 1) (queS l 2) ∧ Below w.heap.size w w' := by
  have hb := fun x hx => bcode_facts (lstE_codes h x hx)
  have GL := Lib.hid (fun W (hB : Below w.heap.size w W) => (show Calls Tryd.prog 45 #[.slice al l.length cl] W fun e w' => e = .returned (.int .i64 0) ∧ Below W.heap.size W w' from by
    have h9 := list_any al cl l (fun x hx => (hb x hx).2.2.1) W (hrow.below hB)
    rw [h] at h9
    exact h9))
  have GQ := Lib.hid (fun W (hB : Below w.heap.size w W) => queues_any al cl l hl (fun x hx => (hb x hx).1) (fun x hx => (hb x hx).2.1) W (hrow.below hB))
  have t1 : ((0 : Int) != 0) = false := rfl
  clear hb h hrow hl
  go_enter Tryd.func21, Tryd.ntmps21
  go_wp2_with (first | (go_at_call 45; (with_reducible refine (GL.out _ (Below.refl _ _)).mono ?_); rintro e u2 ⟨rfl, h2⟩) | (go_at_call 46; (with_reducible refine (GQ.out _ h2).mono ?_); rintro e u3 ⟨ob, rfl, lob, HQ, h3⟩))
  go_ret2
  exact ⟨ob, rfl, Nat.le_trans h2.size lob, HQ, bt h2 h3⟩
end Go.Proofs.YtkaehoihpgelnaaDoor
