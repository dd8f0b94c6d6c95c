/- Parts of a proof, printed by a program of mine out of my texts: OpenBun. -/
import Derived.Test.YtahopnlibmiafaaDoorMU
import Derived.Test.YtahopnlibmiafaaDoorMZ
set_option linter.unusedSimpArgs false
set_option linter.unusedVariables false
namespace Go.Proofs.YtahopnlibmiafaaDoor
open Go.RowKit
abbrev kib : CellKind := some (some .i64)
abbrev kub : CellKind := some (some .u64)
def bnK : List CellKind := [kib, kub, kib, kib, kib, kib, kib, kib, some none]
def GdB (b : Bn) : Prop := b.da.size ≤ maxLen
theorem bn_mk (cs : List Value) (h : CellsAre bnK cs) : ∃ x : Bn, cs = bn x ∧ GdB x := by
  obtain ⟨c0, r0, rfl, q0, h⟩ := CellsAre.cons h
  obtain ⟨c1, r1, rfl, q1, h⟩ := CellsAre.cons h
  obtain ⟨c2, r2, rfl, q2, h⟩ := CellsAre.cons h
  obtain ⟨c3, r3, rfl, q3, h⟩ := CellsAre.cons h
  obtain ⟨c4, r4, rfl, q4, h⟩ := CellsAre.cons h
  obtain ⟨c5, r5, rfl, q5, h⟩ := CellsAre.cons h
  obtain ⟨c6, r6, rfl, q6, h⟩ := CellsAre.cons h
  obtain ⟨c7, r7, rfl, q7, h⟩ := CellsAre.cons h
  obtain ⟨c8, r8, rfl, q8, h⟩ := CellsAre.cons h
  obtain rfl := CellsAre.nil h
  obtain ⟨n0, rfl, _⟩ := q0
  obtain ⟨n1, rfl, _⟩ := q1
  obtain ⟨n2, rfl, _⟩ := q2
  obtain ⟨n3, rfl, _⟩ := q3
  obtain ⟨n4, rfl, _⟩ := q4
  obtain ⟨n5, rfl, _⟩ := q5
  obtain ⟨n6, rfl, _⟩ := q6
  obtain ⟨n7, rfl, _⟩ := q7
  obtain ⟨s8, rfl, w8⟩ := q8
  exact ⟨⟨n0, n1, n2, n3, n4, n5, n6, n7, s8⟩, rfl, w8⟩
end Go.Proofs.YtahopnlibmiafaaDoor
