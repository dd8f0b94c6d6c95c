/- Both orders are orders. -/
import Derived.Test.YtahopnlibmiafaaDoorBuLaw3
namespace Go.Proofs.YtahopnlibmiafaaDoor
set_option linter.unusedVariables false
open Go.RowKit

/-- A row of numbers compared with another one, piece by piece. -/
def cmpL : List (Int × Int) → Int
  | [] => 0
  | x :: l => if cmp3 x.1 x.2 ≠ 0 then cmp3 x.1 x.2 else cmpL l
theorem cmpL_bd : ∀ l, -1 ≤ cmpL l ∧ cmpL l ≤ 1
  | [] => by simp [cmpL]
  | x :: l => by
    have := cmpL_bd l
    unfold cmpL
    rcases cmp3_cases x.1 x.2 with ⟨h, _⟩ | ⟨h, _⟩ | ⟨h, _⟩ <;> rw [h] <;> simp <;> omega
theorem cmpL_swap : ∀ l, cmpL (l.map fun x => (x.2, x.1)) = - cmpL l
  | [] => by simp [cmpL]
  | x :: l => by
    have := cmpL_swap l
    simp only [List.map_cons, cmpL]
    rcases cmp3_cases x.1 x.2 with ⟨h, h'⟩ | ⟨h, h'⟩ | ⟨h, h'⟩ <;> rcases cmp3_cases x.2 x.1 with ⟨g, g'⟩ | ⟨g, g'⟩ | ⟨g, g'⟩ <;> first | omega | (rw [h, g]; simp; try omega)
theorem cmpL_zero : ∀ l, cmpL l = 0 ↔ ∀ x ∈ l, x.1 = x.2
  | [] => by simp [cmpL]
  | x :: l => by
    have := cmpL_zero l
    simp only [cmpL, List.mem_cons, forall_eq_or_imp]
    rcases cmp3_cases x.1 x.2 with ⟨h, h'⟩ | ⟨h, h'⟩ | ⟨h, h'⟩ <;> rw [h]
    · exact ⟨fun hh => by simp at hh, fun hh => absurd hh.1 (by omega)⟩
    · exact ⟨fun hh => ⟨h', this.1 (by simpa using hh)⟩, fun hh => by simpa using this.2 hh.2⟩
    · exact ⟨fun hh => by simp at hh, fun hh => absurd hh.1 (by omega)⟩
theorem cmpL_trans : ∀ (l : List (Int × Int × Int)), cmpL (l.map fun x => (x.1, x.2.1)) ≤ 0 → cmpL (l.map fun x => (x.2.1, x.2.2)) ≤ 0 →
    cmpL (l.map fun x => (x.1, x.2.2)) ≤ 0 ∧ (cmpL (l.map fun x => (x.1, x.2.1)) < 0 ∨ cmpL (l.map fun x => (x.2.1, x.2.2)) < 0 → cmpL (l.map fun x => (x.1, x.2.2)) < 0)
  | [] => by simp [cmpL]
  | x :: l => by
    have ih := cmpL_trans l
    simp only [List.map_cons, cmpL]
    rcases cmp3_cases x.1 x.2.1 with ⟨h, h'⟩ | ⟨h, h'⟩ | ⟨h, h'⟩ <;> rcases cmp3_cases x.2.1 x.2.2 with ⟨g, g'⟩ | ⟨g, g'⟩ | ⟨g, g'⟩ <;> rcases cmp3_cases x.1 x.2.2 with ⟨k, k'⟩ | ⟨k, k'⟩ | ⟨k, k'⟩ <;> first | omega | (rw [h, g, k]; simp; try omega)
theorem cmpI_L (no sq of no' sq' of' : Int) : cmpI no sq of no' sq' of' = cmpL [(no, no'), (sq, sq'), (of, of')] := rfl
theorem ordB_L (no sq of pr bo li no' sq' of' pr' bo' li' : Int) : ordB no sq of pr bo li no' sq' of' pr' bo' li' = cmpL [(pr', pr), (bo + li, bo' + li'), (no, no'), (sq, sq'), (of, of')] := by
  unfold ordB
  simp only [cmpI_L, orL, cmpL]
  rcases cmp3_cases pr' pr with ⟨h, _⟩ | ⟨h, _⟩ | ⟨h, _⟩ <;> rw [h] <;> simp <;>
  rcases cmp3_cases (bo + li) (bo' + li') with ⟨g, _⟩ | ⟨g, _⟩ | ⟨g, _⟩ <;> rw [g] <;> simp <;>
  (intro k; omega)

/-- Two IDs are equal. -/
def idEq (no sq of no' sq' of' : Int) : Bool := decide (no = no' ∧ sq = sq' ∧ of = of')
theorem run_idEq (no sq of no' sq' of' : Int) (w : World) : Sem.run Tryd.prog (binOp BinOp.eql 26 (.agg #[.int .i64 no, .int .u64 sq, .int .i64 of]) (.agg #[.int .i64 no', .int .u64 sq', .int .i64 of'])) w = .ok (.bool (idEq no sq of no' sq' of')) w := by
  unfold idEq
  go_simp
  repeat' split
  all_goals simp [*]
theorem run_idNe (no sq of no' sq' of' : Int) (w : World) : Sem.run Tryd.prog (binOp BinOp.neq 26 (.agg #[.int .i64 no, .int .u64 sq, .int .i64 of]) (.agg #[.int .i64 no', .int .u64 sq', .int .i64 of'])) w = .ok (.bool (!idEq no sq of no' sq' of')) w := by
  unfold idEq
  go_simp
  repeat' split
  all_goals simp [*]
/-- What the order of IDs obeys. -/
theorem id_laws (no sq of no' sq' of' no2 sq2 of2 : Int) :
    cmpI no sq of no' sq' of' = - cmpI no' sq' of' no sq of ∧ (cmpI no sq of no' sq' of' = 0 ↔ no = no' ∧ sq = sq' ∧ of = of') ∧
    (cmpI no sq of no' sq' of' < 0 → cmpI no' sq' of' no2 sq2 of2 < 0 → cmpI no sq of no2 sq2 of2 < 0) ∧ -1 ≤ cmpI no sq of no' sq' of' ∧ cmpI no sq of no' sq' of' ≤ 1 := by
  rw [cmpI_L, cmpI_L, cmpI_L, cmpI_L]
  have h1 := cmpL_swap [(no, no'), (sq, sq'), (of, of')]
  have h2 := cmpL_zero [(no, no'), (sq, sq'), (of, of')]
  have h3 := cmpL_trans [(no, no', no2), (sq, sq', sq2), (of, of', of2)]
  have h4 := cmpL_bd [(no, no'), (sq, sq'), (of, of')]
  simp only [List.map_cons, List.map_nil] at h1 h3
  simp only [List.mem_cons, List.not_mem_nil, or_false, forall_eq_or_imp, forall_eq] at h2
  refine ⟨by omega, h2, fun a b => (h3 (by omega) (by omega)).2 (.inl a), h4⟩
/-- What the order of bundles obeys. -/
theorem less_laws (no sq of pr bo li no' sq' of' pr' bo' li' no2 sq2 of2 pr2 bo2 li2 : Int) :
    (lessB no sq of pr bo li no' sq' of' pr' bo' li' = true → lessB no' sq' of' pr' bo' li' no sq of pr bo li = false) ∧
    (lessB no sq of pr bo li no' sq' of' pr' bo' li' = true → lessB no' sq' of' pr' bo' li' no2 sq2 of2 pr2 bo2 li2 = true → lessB no sq of pr bo li no2 sq2 of2 pr2 bo2 li2 = true) ∧
    (lessB no sq of pr bo li no' sq' of' pr' bo' li' = false → lessB no' sq' of' pr' bo' li' no sq of pr bo li = false → no = no' ∧ sq = sq' ∧ of = of') := by
  unfold lessB
  rw [ordB_L, ordB_L, ordB_L, ordB_L]
  have h1 := cmpL_swap [(pr', pr), (bo + li, bo' + li'), (no, no'), (sq, sq'), (of, of')]
  have h2 := cmpL_zero [(pr', pr), (bo + li, bo' + li'), (no, no'), (sq, sq'), (of, of')]
  have h3 := cmpL_trans [(bo + li, bo' + li', bo2 + li2), (no, no', no2), (sq, sq', sq2), (of, of', of2)]
  simp only [List.map_cons, List.map_nil] at h1 h3
  simp only [List.mem_cons, List.not_mem_nil, or_false, forall_eq_or_imp, forall_eq] at h2
  refine ⟨fun a => ?_, fun a b => ?_, fun a b => ?_⟩
  · simp only [decide_eq_true_eq, decide_eq_false_iff_not] at a ⊢; omega
  · simp only [decide_eq_true_eq] at a b ⊢
    have e : ∀ p q : Int, ∀ l, cmpL ((p, q) :: l) = if cmp3 p q ≠ 0 then cmp3 p q else cmpL l := fun _ _ _ => rfl
    rw [e] at a b ⊢
    rcases cmp3_cases pr' pr with ⟨h, h'⟩ | ⟨h, h'⟩ | ⟨h, h'⟩ <;> rcases cmp3_cases pr2 pr' with ⟨g, g'⟩ | ⟨g, g'⟩ | ⟨g, g'⟩ <;> rcases cmp3_cases pr2 pr with ⟨k, k'⟩ | ⟨k, k'⟩ | ⟨k, k'⟩ <;> first | omega | (rw [h] at a; rw [g] at b; rw [k]; simp at a b ⊢; try exact (h3 (by omega) (by omega)).2 (.inl a))
  · simp only [decide_eq_false_iff_not] at a b
    have := h2.1 (by omega)
    exact this.2.2

end Go.Proofs.YtahopnlibmiafaaDoor
