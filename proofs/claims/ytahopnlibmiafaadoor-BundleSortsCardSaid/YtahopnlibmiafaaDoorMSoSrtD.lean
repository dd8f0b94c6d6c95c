/- Parts of a proof, printed by a program of mine out of my texts: SoSrtD. -/
import Derived.Test.YtahopnlibmiafaaDoorMU
import Derived.Test.YtahopnlibmiafaaDoorMV
set_option linter.unusedSimpArgs false
set_option linter.unusedVariables false
namespace Go.Proofs.YtahopnlibmiafaaDoor
open Go.RowKit
def fltB (l : List Bn) : Int := (l.find? (fun b => decide (bcode b ≠ 0))).elim 0 bcode
theorem fltB_ok {l : List Bn} (h : ∀ i (hi : i < l.length), bcode l[i] = 0) : fltB l = 0 := by
  unfold fltB
  have e : l.find? (fun b => decide (bcode b ≠ 0)) = none := by
    rw [List.find?_eq_none]
    intro x hx
    obtain ⟨i, hi, rfl⟩ := List.getElem_of_mem hx
    simpa using h i hi
  rw [e]; rfl
theorem fltB_bad {l : List Bn} {j : Nat} (hj : j < l.length) (h : ∀ i (hi : i < l.length), i < j → bcode l[i] = 0) (hn : bcode l[j] ≠ 0) : fltB l = bcode l[j] := by
  unfold fltB
  have e : l.find? (fun b => decide (bcode b ≠ 0)) = some l[j] := by
    rw [List.find?_eq_some_iff_getElem]
    exact ⟨by simpa using hn, j, hj, rfl, fun i hi => by simpa using h i (by omega) hi⟩
  rw [e]; rfl
def srtB (l : List Bn) : List Bn × Int := if fltB l = 0 then (isort ltB l, 0) else ([], fltB l)
theorem srtB_ok {l : List Bn} (h : ∀ i (hi : i < l.length), bcode l[i] = 0) : srtB l = (isort ltB l, 0) := by unfold srtB; rw [if_pos (fltB_ok h)]
theorem srtB_bad {l : List Bn} {j : Nat} (hj : j < l.length) (h : ∀ i (hi : i < l.length), i < j → bcode l[i] = 0) {c : Int} (hc : bcode l[j] = c) (hn : c ≠ 0) : srtB l = ([], c) := by
  have e := fltB_bad hj h (by rw [hc]; exact hn)
  unfold srtB
  rw [e, hc, if_neg hn]
def RetB (R : List Bn × Int) (w : World) (e : Ending) (w' : World) : Prop := ∃ v, e = .returned (.tuple #[v, .int .i64 R.2]) ∧ w'.ownsRow w.heap.size 28 9 v R.1.length (rowC bn R.1) ∧ Below w.heap.size w w'
theorem RetB.err {w w' : World} (c : Int) (h : Below w.heap.size w w') : RetB ([], c) w (.returned (.tuple #[.slice none 0 0, .int .i64 c])) w' := ⟨_, rfl, World.ownsRow_nil _ _ _ _, h⟩
theorem bcode_iB {b : Bn} (h : bcode b = 0) : BnI b := by
  obtain ⟨_, ⟨_, _, _, _, h1, h2, h3, h4, _⟩, _⟩ := buC_ok h
  exact ⟨⟨by omega, by omega⟩, ⟨by omega, by omega⟩⟩
end Go.Proofs.YtahopnlibmiafaaDoor
