/- Equality of bundles, as the model runs it. -/
import Derived.Test.YtahopnlibmiafaaDoorSoIns
namespace Go.Proofs.YtahopnlibmiafaaDoor
set_option linter.unusedVariables false
open Go.RowKit
theorem bytes_toList_iff (a b : ByteArray) : a.toList = b.toList ↔ a = b := by
  rw [ByteArray.toList_eq, ByteArray.toList_eq]
  constructor
  · intro h
    obtain ⟨⟨a⟩⟩ := a
    obtain ⟨⟨b⟩⟩ := b
    have : a = b := h
    rw [this]
  · rintro rfl; rfl
def eqB (x y : Bn) : Bool := decide (x.no = y.no ∧ x.sq = y.sq ∧ x.of = y.of ∧ x.de = y.de ∧ x.pr = y.pr ∧ x.bo = y.bo ∧ x.li = y.li ∧ x.to = y.to ∧ x.da.toList = y.da.toList)
theorem eqB_iff (x y : Bn) : eqB x y = true ↔ x = y := by
  constructor
  · intro h
    obtain ⟨a1, a2, a3, a4, a5, a6, a7, a8, a9⟩ := x
    obtain ⟨b1, b2, b3, b4, b5, b6, b7, b8, b9⟩ := y
    simp only [eqB, decide_eq_true_eq, bytes_toList_iff] at h
    obtain ⟨rfl, rfl, rfl, rfl, rfl, rfl, rfl, rfl, rfl⟩ := h
    rfl
  · rintro rfl; simp [eqB]
set_option maxHeartbeats 1600000 in
theorem run_bnEq (x y : Bn) (w : World) : Sem.run Tryd.prog (binOp BinOp.eql 28 (.agg (bn x).toArray) (.agg (bn y).toArray)) w = .ok (.bool (eqB x y)) w := by
  obtain ⟨a1, a2, a3, a4, a5, a6, a7, a8, a9⟩ := x
  obtain ⟨b1, b2, b3, b4, b5, b6, b7, b8, b9⟩ := y
  simp only [eqB, bn]
  go_simp
  refine (Decidable.em (a1 = b1)).elim (fun h1 => ?_) (fun h1 => by simp [h1])
  subst h1
  refine (Decidable.em (a2 = b2)).elim (fun h2 => ?_) (fun h2 => by simp [h2])
  subst h2
  refine (Decidable.em (a3 = b3)).elim (fun h3 => ?_) (fun h3 => by simp [h3])
  subst h3
  refine (Decidable.em (a4 = b4)).elim (fun h4 => ?_) (fun h4 => by simp [h4])
  subst h4
  refine (Decidable.em (a5 = b5)).elim (fun h5 => ?_) (fun h5 => by simp [h5])
  subst h5
  refine (Decidable.em (a6 = b6)).elim (fun h6 => ?_) (fun h6 => by simp [h6])
  subst h6
  refine (Decidable.em (a7 = b7)).elim (fun h7 => ?_) (fun h7 => by simp [h7])
  subst h7
  refine (Decidable.em (a8 = b8)).elim (fun h8 => ?_) (fun h8 => by simp [h8])
  subst h8
  by_cases h9 : a9.toList = b9.toList
  · simp [h9]
  · simp [h9]
set_option maxHeartbeats 1600000 in
theorem run_bnNe (x y : Bn) (w : World) : Sem.run Tryd.prog (binOp BinOp.neq 28 (.agg (bn x).toArray) (.agg (bn y).toArray)) w = .ok (.bool (!eqB x y)) w := by
  obtain ⟨a1, a2, a3, a4, a5, a6, a7, a8, a9⟩ := x
  obtain ⟨b1, b2, b3, b4, b5, b6, b7, b8, b9⟩ := y
  simp only [eqB, bn]
  go_simp
  refine (Decidable.em (a1 = b1)).elim (fun h1 => ?_) (fun h1 => by simp [h1])
  subst h1
  refine (Decidable.em (a2 = b2)).elim (fun h2 => ?_) (fun h2 => by simp [h2])
  subst h2
  refine (Decidable.em (a3 = b3)).elim (fun h3 => ?_) (fun h3 => by simp [h3])
  subst h3
  refine (Decidable.em (a4 = b4)).elim (fun h4 => ?_) (fun h4 => by simp [h4])
  subst h4
  refine (Decidable.em (a5 = b5)).elim (fun h5 => ?_) (fun h5 => by simp [h5])
  subst h5
  refine (Decidable.em (a6 = b6)).elim (fun h6 => ?_) (fun h6 => by simp [h6])
  subst h6
  refine (Decidable.em (a7 = b7)).elim (fun h7 => ?_) (fun h7 => by simp [h7])
  subst h7
  refine (Decidable.em (a8 = b8)).elim (fun h8 => ?_) (fun h8 => by simp [h8])
  subst h8
  by_cases h9 : a9.toList = b9.toList
  · simp [h9]
  · simp [h9]
end Go.Proofs.YtahopnlibmiafaaDoor
