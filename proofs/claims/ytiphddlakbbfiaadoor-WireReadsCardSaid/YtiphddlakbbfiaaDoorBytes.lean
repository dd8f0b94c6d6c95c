/- A slice of bytes of the call's own that began as a conversion's row: its mark lies behind the last cell. Strings are appended to it; it is turned back into a text. -/
import Derived.Test.YtiphddlakbbfiaaDoorBase
import Derived.Lib.FrozenHead
import Derived.Lib.AppendStr
namespace Go.Proofs.YtiphddlakbbfiaaDoor
set_option linter.unusedVariables false
open Go.RowKit

/-- No cell of the row is marked. -/
def Free (cur : Array Value) (fz : Nat × Nat) : Prop := ∀ i, i < cur.size → ¬ (fz.1 ≤ i ∧ i < fz.2)

/-- v is a slice over the row of block g, whose first cells are the bytes l. -/
def OwnsB (w : World) (base : Nat) (e : TypeId) (v : Value) (g : Nat) (l : List UInt8) : Prop :=
  ∃ cap cur fz, v = .slice (some ⟨g, 0, none⟩) l.length cap ∧ base ≤ g ∧ w.heap[g]? = some (.cells cur e fz) ∧ Free cur fz ∧ l.length ≤ cap ∧ cap ≤ maxLen ∧ cur.size = cap ∧
    cur.toList.take l.length = l.map fun b => Value.int .u8 b.toNat

theorem OwnsB.lt {w : World} {base : Nat} {e : TypeId} {v : Value} {g : Nat} {l : List UInt8} (h : OwnsB w base e v g l) : g < w.heap.size := by
  obtain ⟨cap, cur, fz, _, _, hg, _⟩ := h
  exact (Array.getElem?_eq_some_iff.1 hg).1
theorem OwnsB.kept {w w' : World} {base : Nat} {e : TypeId} {v : Value} {g : Nat} {l : List UInt8} (h : OwnsB w base e v g l) (hk : w'.heap[g]? = w.heap[g]?) : OwnsB w' base e v g l := by
  obtain ⟨cap, cur, fz, h1, h2, hg, h3⟩ := h
  exact ⟨cap, cur, fz, h1, h2, hk.trans hg, h3⟩
theorem OwnsB.below {w w' : World} {base : Nat} {e : TypeId} {v : Value} {g : Nat} {l : List UInt8} (h : OwnsB w base e v g l) (hb : Below w.heap.size w w') : OwnsB w' base e v g l := h.kept (hb.block g h.lt)

theorem OwnsB.cell {w : World} {base : Nat} {e : TypeId} {v : Value} {g : Nat} {l : List UInt8} (h : OwnsB w base e v g l) (j : Nat) (hj : j < l.length) : w.cell? ⟨g, j, none⟩ = some (.int .u8 (l[j].toNat : Int)) := by
  obtain ⟨cap, cur, fz, h1, h2, hg, h3, h4, h5, h6, h7⟩ := h
  have h8 : (cur.toList.take l.length)[j]? = some (.int .u8 (l[j].toNat : Int)) := by rw [h7]; simp [hj]
  rw [List.getElem?_take_of_lt hj, Array.getElem?_toList] at h8
  simp [World.cell?, hg, h8]

/-- 'string(out)'. -/
theorem OwnsB.back {P : Program} {w : World} {src dst e : TypeId} {base : Nat} {v : Value} {g : Nat} {l : List UInt8} (h : OwnsB w base e v g l) (hs : P.underlying src = some (.slice e)) (he : P.underlying e = some (.int .u8)) (hd : P.underlying dst = some .string) :
    (convert src dst v).run P w = .ok (bstr l) w := by
  have hc := h.cell
  obtain ⟨cap, cur, fz, rfl, _⟩ := h
  exact run_convert_bytes_back (P := P) w src dst e ⟨g, 0, none⟩ cap l hs he hd (fun j hj => by rw [Addr.add_lit, Nat.zero_add]; exact hc j hj)

/-- '[]byte(s)'. -/
theorem ownsB_of {P : Program} {src dst e : TypeId} (hs : P.underlying src = some .string) (hd : P.underlying dst = some (.slice e)) (he : P.underlying e = some (.int .u8)) (t : ByteArray) (ht : t.size ≤ maxLen) (w : World) :
    ∃ v W1, (convert src dst (.string t)).run P w = .ok v W1 ∧ OwnsB W1 w.heap.size e v w.heap.size t.data.toList ∧ Below w.heap.size w W1 ∧ W1.heap.size = w.heap.size + 1 := by
  have hge := grownCap_ge w t.size 0 e
  have hsz : (bytesRow t (grownCap w t.size 0 e)).size = grownCap w t.size 0 e := by
    have : t.data.size = t.size := rfl
    simp [bytesRow, this]; omega
  have hl : t.data.toList.length = t.size := by simp
  refine ⟨_, _, run_bytes_of_string w src dst e t hs hd he, ⟨grownCap w t.size 0 e, _, _, by rw [hl], Nat.le_refl _, heap_alloc_new w.drew _, ?_, by rw [hl]; exact hge, grownCap_le_maxLen w t.size 0 e ht, hsz, ?_⟩, (((Below.refl _ _).drew).alloc (by simp) _), by simp⟩
  · intro i hi h; have := h.1; simp at this; omega
  · rw [hl]
    unfold bytesRow
    rw [Array.toList_append, List.take_left' (by simp)]
    simp

theorem run_storeCells_free (P : Program) (g o : Nat) (t : TypeId) (fz : Nat × Nat) : ∀ (vs : List Value) (i : Nat) (cur : Array Value) (w : World), w.heap[g]? = some (.cells cur t fz) → Free cur fz → o + i + vs.length ≤ cur.size → (∀ u ∈ vs, u.oneCell' = true) →
    (storeCells ⟨g, o, none⟩ vs i).run P w = .ok () (w.setRow g (cur.toList.take (o + i) ++ vs ++ cur.toList.drop (o + i + vs.length)).toArray)
  | [], i, cur, w, hg, _, _, _ => by
    simp only [storeCells, List.append_nil, List.length_nil, Nat.add_zero, List.take_append_drop, Array.toArray_toList]
    rw [setRow_self w g cur t fz hg]
    rfl
  | v :: rest, i, cur, w, hg, hfz, hl, h1 => by
    have hi : o + i < cur.size := by simp at hl; omega
    have hadd : (⟨g, o, none⟩ : Addr).add i = ⟨g, o + i, none⟩ := by unfold Addr.add; split <;> simp_all
    have hcell : w.cell? ⟨g, o + i, none⟩ = some cur[o + i] := by simp [World.cell?, hg, hi]
    have hfro : w.frozen? ⟨g, o + i, none⟩ = false := by
      have := hfz (o + i) hi
      simp only [World.frozen?, hg, Bool.and_eq_false_iff, decide_eq_false_iff_not]
      by_cases hh : fz.1 ≤ o + i
      · exact .inr fun h2 => this ⟨hh, h2⟩
      · exact .inl hh
    have hst : (store ((⟨g, o, none⟩ : Addr).add i) v).run P w = .ok () (w.setRow g (cur.setIfInBounds (o + i) v)) := by
      rw [hadd, run_store P w _ v _ (h1 v (by simp)), hcell]
      simp [hfro, setCell_eq_setRow w g (o + i) cur t fz v hg]
    have ih := run_storeCells_free P g o t fz rest (i + 1) (cur.setIfInBounds (o + i) v) (w.setRow g (cur.setIfInBounds (o + i) v)) (setRow_heap w g cur _ t _ hg) (fun k hk => hfz k (by simpa using hk)) (by simp at hl ⊢; omega) (fun x hx => h1 x (by simp [hx]))
    simp only [storeCells, Sem.run_bind, hst, Result.andThen_ok, ih, setRow_setRow]
    congr 3
    have e := list_seg_step cur.toList (o + i) v rest (by simp at hl ⊢; omega)
    simpa [Array.toList_setIfInBounds, Nat.add_assoc] using e

theorem run_append_B {P : Program} {w : World} (base : Nat) (t u ty e : TypeId) (i : TypeInfo) (ht : P.underlying t = some (.slice e)) (hu : P.underlying u = some .string) (hi : P.info? e = some i) (hz : i.zero = some (.int .u8 0))
    (hsize : i.size = 1) (hby : i.bytes = 1) (v : Value) (g : Nat) (l : List UInt8) (hown : OwnsB w base e v g l) (s : ByteArray) (hbytes : l.length + s.size ≤ 140737488355328) (hbase : base ≤ w.heap.size) :
    ∃ v' w' g', (Builtin.append_ #[t, u] ty #[v, .string s]).run P w = .ok v' w' ∧ OwnsB w' base e v' g' (l ++ s.data.toList) ∧ w.grownBy w' (some g) := by
  obtain ⟨cap, cur, fz, rfl, hbg, hg, hfz, hnc, hcm, hcs, htake⟩ := hown
  have hsl : s.data.toList.length = s.size := by simp
  have hstr : Lib.strCells s = s.data.toList.map fun b => Value.int .u8 b.toNat := rfl
  by_cases hroom : l.length + s.size ≤ cap
  · have hf := Lib.run_firstCells_string (P := P) w 1 s
    have hst := run_storeCells_free P g l.length e fz (Lib.strCells s) 0 cur w hg hfz (by simpa [Lib.strCells_length] using (by omega : l.length + s.size ≤ cur.size)) (Lib.strCells_oneCell s)
    simp only [Nat.add_zero, Lib.strCells_length] at hst
    have hr : (Builtin.append_ #[t, u] ty #[.slice (some ⟨g, 0, none⟩) l.length cap, .string s]).run P w = .ok (.slice (some ⟨g, 0, none⟩) (l.length + s.size) cap) (w.setRow g (cur.toList.take l.length ++ Lib.strCells s ++ cur.toList.drop (l.length + s.size)).toArray) := by
      simp [Builtin.append_, run_underlying ht, run_underlying hu, sizeOf, typeInfo, hi, hsize, Builtin.lenOf, hroom, hf, Addr.add_lit, hst]
    refine ⟨_, _, g, hr, ?_, ⟨rfl, rfl, rfl, by simp, fun k _ hk => setRow_other w g k _ (fun e => hk (by rw [e]))⟩⟩
    have hsz : (cur.toList.take l.length ++ Lib.strCells s ++ cur.toList.drop (l.length + s.size)).toArray.size = cap := by
      simp only [List.size_toArray, List.length_append, List.length_take, List.length_drop, Array.length_toList, Lib.strCells_length]
      omega
    refine ⟨cap, _, fz, by rw [List.length_append, hsl], hbg, setRow_heap w g cur _ e _ hg, fun k hk => hfz k (by omega), by rw [List.length_append, hsl]; exact hroom, hcm, hsz, ?_⟩
    rw [htake, hstr]
    simp only [List.length_append, hsl, List.map_append]
    exact List.take_left' (by simp)
  · have hxl : (l.map fun b => Value.int .u8 b.toNat).length = l.length := by simp
    have holds : ∀ j u, (l.map fun b => Value.int .u8 b.toNat)[j]? = some u → w.cell? ((⟨g, 0, none⟩ : Addr).add j) = some u := by
      intro j u hj
      obtain ⟨hjl, hju⟩ := List.getElem?_eq_some_iff.1 hj
      rw [← htake, List.getElem?_take_of_lt (by simpa using hjl), Array.getElem?_toList] at hj
      rw [Addr.add_lit, Nat.zero_add]
      simp [World.cell?, hg, hj]
    have hr := Lib.run_append_grow_string (P := P) w t u ty e i (.int .u8 0) ht hu hi hz ⟨g, 0, none⟩ l.length cap (l.map fun b => Value.int .u8 b.toNat) (by rw [hsize]; simp) holds s (by omega) (by omega) (by rw [hby]; exact growslice_fits (by omega) (by omega))
    have hge := grownCap_ge w (l.length + s.size) cap e
    have hcm2 : grownCap w (l.length + s.size) cap e ≤ maxLen := grownCap_le_maxLen w (l.length + s.size) cap e (by unfold maxLen; omega)
    refine ⟨_, _, w.heap.size, hr, ⟨_, _, (0, 0), by rw [List.length_append, hsl], hbase, heap_alloc_new w.drew _, fun k _ h => by simp at h, by rw [List.length_append, hsl]; exact hge, hcm2, ?_, ?_⟩, ⟨rfl, rfl, rfl, by simp, fun k hk _ => Below.heap_alloc w.drew _ k (by simpa using hk)⟩⟩
    · have hz1 : (Value.int IntKind.u8 0).cells.size = 1 := rfl
      simp only [Array.size_append, List.size_toArray, size_zeroCells, hz1, List.length_map, Lib.strCells_length]
      omega
    · simp only [Array.toList_append, List.append_assoc, hstr, List.map_append, List.length_append, hsl]
      rw [← List.append_assoc]
      exact List.take_left' (by simp)

/-- The operation, for the walk. -/
theorem wpList_append_B {P : Program} {w : World} {ops : Array Oper} {rest : List Oper} {o : Oper} {a : Act} {Q : Exit → Act → World → Prop} (hgd : o.guard = none) (sl x : Operand) (t u : TypeId)
    (ho : o.op = .call { callee := .builtin .append, args := #[sl, x], argTypes := #[t, u] })
    (base : Nat) (e : TypeId) (i : TypeInfo) (ht : P.underlying t = some (.slice e)) (hu : P.underlying u = some .string) (hi : P.info? e = some i) (hz : i.zero = some (.int .u8 0))
    (hsize : i.size = 1) (hby : i.bytes = 1) (v : Value) (g : Nat) (l : List UInt8) (hs : a.eval sl = v) (hown : OwnsB w base e v g l) (s : ByteArray) (hx : a.eval x = .string s)
    (hbytes : l.length + s.size ≤ 140737488355328) (hbase : base ≤ w.heap.size)
    (h : ∀ v' w' g', OwnsB w' base e v' g' (l ++ s.data.toList) → w.grownBy w' (some g) → wpList P ops Q rest (a.put o.dst v') w') : wpList P ops Q (o :: rest) a w := by
  refine wpList_plain hgd fun K hK => ?_
  obtain ⟨v', w', g', hr, h2, h3⟩ := run_append_B (P := P) base t u o.type e i ht hu hi hz hsize hby v g l hown s hbytes hbase
  unfold Oper.wp execOp
  simp only [ho, resolve, invoke, builtin, Sem.run_bind, Sem.run_pure, Result.andThen_ok, List.map_toArray, List.map_cons, List.map_nil, hs, hx, hr]
  exact hK _ _ (h v' w' g' h2 h3)

theorem OwnsB.weaken {w : World} {base base' : Nat} {e : TypeId} {v : Value} {g : Nat} {l : List UInt8} (h : OwnsB w base e v g l) (hb : base' ≤ base) : OwnsB w base' e v g l := by
  obtain ⟨cap, cur, fz, h1, h2, h3⟩ := h; exact ⟨cap, cur, fz, h1, Nat.le_trans hb h2, h3⟩
theorem OwnsB.base_le {w : World} {base : Nat} {e : TypeId} {v : Value} {g : Nat} {l : List UInt8} (h : OwnsB w base e v g l) : base ≤ g := by
  obtain ⟨_, _, _, _, hb, _⟩ := h; exact hb
end Go.Proofs.YtiphddlakbbfiaaDoor
