/- Whole blocks of cells: what a block holds behind stores, new blocks, draws and calls; results that lie in memory. -/
import Derived.Test.YtahopnlibmiafaaDoorBase
import Derived.Defers
namespace Go.Proofs.YtahopnlibmiafaaDoor
set_option linter.unusedVariables false
open Go.RowKit

/-- What block b holds, if it is an unmarked row of cells. -/
def blk (w : World) (b : Nat) : Option (Array Value) :=
  match w.heap[b]? with
  | some (.cells c _ (0, 0)) => some c
  | _ => none

theorem blk_of {w : World} {b : Nat} {c : Array Value} {t : TypeId} (h : w.heap[b]? = some (.cells c t (0, 0))) : blk w b = some c := by simp [blk, h]
theorem blk_cell {w : World} {b : Nat} {c : Array Value} (h : blk w b = some c) (i : Nat) : w.cell? ⟨b, i, none⟩ = c[i]? := by
  unfold blk at h
  split at h
  · rename_i c' _ hc; cases h; simp [World.cell?, hc]
  · cases h
theorem blk_frozen {w : World} {b : Nat} {c : Array Value} (h : blk w b = some c) (i : Nat) : w.frozen? ⟨b, i, none⟩ = false := by
  unfold blk at h
  split at h
  · rename_i c' _ hc; cases h; simp [World.frozen?, hc]
  · cases h
theorem blk_lt {w : World} {b : Nat} {c : Array Value} (h : blk w b = some c) : b < w.heap.size := by
  unfold blk at h
  split at h
  · rename_i c' _ hc; exact (Array.getElem?_eq_some_iff.1 hc).1
  · cases h
theorem blk_kept {w w' : World} {b : Nat} (h : w'.heap[b]? = w.heap[b]?) : blk w' b = blk w b := by unfold blk; rw [h]
theorem blk_below {w w' : World} {b : Nat} {c : Array Value} (hb : Below w.heap.size w w') (h : blk w b = some c) : blk w' b = some c := (blk_kept (hb.block b (blk_lt h))).trans h
theorem blk_alloc_new (w : World) (c : Array Value) (t : TypeId) {n : Nat} (hn : n = w.heap.size) : blk (w.alloc (.cells c t)) n = some c := by subst hn; exact blk_of (heap_alloc_new w _)
theorem blk_alloc {w : World} {b : Nat} {c : Array Value} (h : blk w b = some c) (o : Obj) : blk (w.alloc o) b = some c := (blk_kept (Below.heap_alloc w o b (blk_lt h))).trans h
theorem blk_drew {w : World} {b : Nat} {c : Array Value} (h : blk w b = some c) : blk w.drew b = some c := h
theorem blk_other {w : World} {b : Nat} {c : Array Value} {a : Addr} {v : Value} (h : blk w b = some c) (hne : b ≠ a.block) : blk (w.setCell a v) b = some c := (blk_kept (Below.heap_setCell w a v b hne)).trans h
theorem blk_set {w : World} {b i : Nat} {c : Array Value} {v : Value} (h : blk w b = some c) : blk (w.setCell ⟨b, i, none⟩ v) b = some (c.setIfInBounds i v) := by
  unfold blk at h
  split at h
  · rename_i c' t hc
    cases h
    obtain ⟨hlt, hk⟩ := Array.getElem?_eq_some_iff.1 hc
    have : (w.setCell ⟨b, i, none⟩ v).heap[b]? = some (.cells (c.setIfInBounds i v) t (0, 0)) := by
      show (w.heap.modify b _)[b]? = _
      rw [Array.getElem?_eq_getElem (by rw [Array.size_modify]; exact hlt), Array.getElem_modify_self, hk]
      rfl
    exact blk_of this
  · cases h

/-- What the walk wants to know of a block. -/
theorem kn {w : World} {b : Nat} {c : Array Value} (h : blk w b = some c) : (∀ o, w.cell? ⟨b, o, none⟩ = c[o]?) ∧ (∀ o, w.frozen? ⟨b, o, none⟩ = false) ∧ b < w.heap.size ∧ b ≠ w.heap.size ∧ w.heap.size ≠ b :=
  ⟨blk_cell h, blk_frozen h, blk_lt h, Nat.ne_of_lt (blk_lt h), (Nat.ne_of_lt (blk_lt h)).symm⟩
/-- A result that lies in a block. -/
theorem ret_blk {P : Program} {fn : Func} {R : Ending → World → Prop} {a : Act} {W : World} {b : Nat} {c : Array Value} {v : Value} (hb : blk W b = some c)
    (hres : ∀ W' : World, (∀ i, W'.cell? ⟨b, i, none⟩ = c[i]?) → (results fn a.tmps).run P W' = .ok v W') (hd : a.defers = []) (hR : R (.returned v) W) : bodyPost P fn R .ret a W :=
  bodyPost_ret (v := v) (hres W fun i => blk_cell hb i) hd hR

theorem bcell {W w1 : World} (hb : Below W.heap.size W w1) : (∀ b o, b < W.heap.size → w1.cell? ⟨b, o, none⟩ = W.cell? ⟨b, o, none⟩) ∧ (∀ b o, b < W.heap.size → w1.frozen? ⟨b, o, none⟩ = W.frozen? ⟨b, o, none⟩) :=
  ⟨fun b o h => hb.cell (p := ⟨b, o, none⟩) h, fun b o h => hb.frozen (p := ⟨b, o, none⟩) h⟩
theorem blk_other' {w : World} {b : Nat} {c : Array Value} {a : Addr} {v : Value} (hne : b ≠ a.block) (h : blk w b = some c) : blk (w.setCell a v) b = some c := blk_other h hne
theorem blk_to {w : World} {b : Nat} {c c' : Array Value} (h : blk w b = some c') (e : c' = c) : blk w b = some c := e ▸ h
theorem bset' {B : Nat} {w W : World} {p : Addr} {v : Value} (hp : B ≤ p.block) (h : Below B w W) : Below B w (W.setCell p v) := h.setCell hp v
theorem belt_alloc {w W : World} {o : Obj} (h : Below w.heap.size w W) : Below w.heap.size w (W.alloc o) := h.alloc h.size o
theorem beld_drew {B : Nat} {w W : World} (h : Below B w W) : Below B w W.drew := h.drew
theorem bta {w a : World} {o : Obj} (h : Below (w.alloc o).heap.size (w.alloc o) a) : Below w.heap.size w a := ((Below.refl _ _).alloc (Nat.le_refl _) o).trans (h.mono (by simp))
end Go.Proofs.YtahopnlibmiafaaDoor
