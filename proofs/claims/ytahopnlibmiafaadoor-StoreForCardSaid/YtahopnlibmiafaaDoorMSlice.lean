/- Parts of a proof, printed by a program of mine out of my texts: Slice. -/
import Derived.Test.YtahopnlibmiafaaDoorMA
set_option linter.unusedSimpArgs false
set_option linter.unusedVariables false
namespace Go.Proofs.YtahopnlibmiafaaDoor
open Go.RowKit
def IsRow (k : IntKind) (w : World) (a : Option Addr) (len cap : Nat) (zs : List Int) : Prop :=
  (a = none ∧ len = 0 ∧ cap = 0 ∧ zs = []) ∨
  ∃ x, a = some x ∧ len ≤ cap ∧ cap ≤ maxLen ∧ zs.length = cap ∧ (∀ i, i < zs.length → w.cell? (x.add i) = some (.int k (zs.getD i 0))) ∧ ∀ n ∈ zs, (Lit.int k n).wf = true
def Row (k : IntKind) (w : World) (a : Option Addr) (cap : Nat) (zs : List Int) : Prop :=
  zs.length ≤ cap ∧ cap ≤ maxLen ∧ (∀ z ∈ zs, (Lit.int k z).wf = true) ∧
  (a = none → cap = 0) ∧
  (0 < zs.length → ∃ b off, a = some ⟨b, off, none⟩ ∧ b < w.heap.size ∧ ∀ i (h : i < zs.length), w.cell? ⟨b, off + i, none⟩ = some (.int k zs[i]))
theorem row_of {k : IntKind} {w : World} {a : Option Addr} {len cap : Nat} {zs : List Int} (h : IsRow k w a len cap zs) : len = (zs.take len).length ∧ Row k w a cap (zs.take len) := by
  rcases h with ⟨rfl, rfl, rfl, rfl⟩ | ⟨x, rfl, hl, hm, hz, hc, hw⟩
  · exact ⟨rfl, Nat.le_refl _, by unfold maxLen; omega, by simp, fun _ => rfl, fun h => by simp at h⟩
  · have e : (zs.take len).length = len := by rw [List.length_take]; omega
    refine ⟨e.symm, by omega, hm, fun z hz => hw z (List.mem_of_mem_take hz), by simp, fun h0 => ?_⟩
    rw [e] at h0
    have h1 := hc 0 (by omega)
    obtain ⟨b, off, spot⟩ := x
    have hs : spot = none := by simpa [Addr.add] using World.cell?_spot h1
    subst hs
    refine ⟨b, off, rfl, ?_, fun i hi => ?_⟩
    · unfold World.cell? at h1
      simp only [Addr.add] at h1
      have : ∃ o, w.heap[b]? = some o := by
        cases ho : w.heap[b]? with
        | none => simp [ho] at h1
        | some o => exact ⟨o, rfl⟩
      obtain ⟨o, ho⟩ := this
      exact (Array.getElem?_eq_some_iff.1 ho).1
    · have hi' : i < len := by omega
      have := hc i (by omega)
      rw [Addr.add_lit] at this
      rw [this]
      congr 2
      rw [List.getElem_take, List.getD_eq_getElem?_getD, List.getElem?_eq_getElem (by omega)]
      rfl
theorem Row.below {k : IntKind} {w w' : World} {a : Option Addr} {cap : Nat} {zs : List Int} (h : Row k w a cap zs) (hb : Below w.heap.size w w') : Row k w' a cap zs := by
  obtain ⟨h1, h2, h3, h5, h4⟩ := h
  refine ⟨h1, h2, h3, h5, fun h0 => ?_⟩
  obtain ⟨b, off, e, hlt, hc⟩ := h4 h0
  exact ⟨b, off, e, Nat.lt_of_lt_of_le hlt hb.size, fun i hi => (hb.cell (p := ⟨b, off + i, none⟩) hlt).trans (hc i hi)⟩
end Go.Proofs.YtahopnlibmiafaaDoor
