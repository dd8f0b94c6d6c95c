/- Parts of a proof, printed by a program of mine out of my texts: SoOrd. -/
import Derived.Test.YtahopnlibmiafaaDoorMU
set_option linter.unusedSimpArgs false
set_option linter.unusedVariables false
namespace Go.Proofs.YtahopnlibmiafaaDoor
open Go.RowKit
def cmpO : List (Int × Int) → Int
  | [] => 0
  | x :: l => if cmp3 x.1 x.2 ≠ 0 then cmp3 x.1 x.2 else cmpO l
theorem cmpO_bd : ∀ l, -1 ≤ cmpO l ∧ cmpO l ≤ 1
  | [] => by simp [cmpO]
  | x :: l => by
    have := cmpO_bd l
    unfold cmpO
    rcases cmp3_cases x.1 x.2 with ⟨h, _⟩ | ⟨h, _⟩ | ⟨h, _⟩ <;> rw [h] <;> simp <;> omega
theorem cmpO_swap : ∀ l, cmpO (l.map fun x => (x.2, x.1)) = - cmpO l
  | [] => by simp [cmpO]
  | x :: l => by
    have := cmpO_swap l
    simp only [List.map_cons, cmpO]
    rcases cmp3_cases x.1 x.2 with ⟨h, h'⟩ | ⟨h, h'⟩ | ⟨h, h'⟩ <;> rcases cmp3_cases x.2 x.1 with ⟨g, g'⟩ | ⟨g, g'⟩ | ⟨g, g'⟩ <;> first | omega | (rw [h, g]; simp; try omega)
theorem cmpO_zero : ∀ l, cmpO l = 0 ↔ ∀ x ∈ l, x.1 = x.2
  | [] => by simp [cmpO]
  | x :: l => by
    have := cmpO_zero l
    simp only [cmpO, List.mem_cons, forall_eq_or_imp]
    rcases cmp3_cases x.1 x.2 with ⟨h, h'⟩ | ⟨h, h'⟩ | ⟨h, h'⟩ <;> rw [h]
    · exact ⟨fun hh => by simp at hh, fun hh => absurd hh.1 (by omega)⟩
    · exact ⟨fun hh => ⟨h', this.1 (by simpa using hh)⟩, fun hh => by simpa using this.2 hh.2⟩
    · exact ⟨fun hh => by simp at hh, fun hh => absurd hh.1 (by omega)⟩
theorem cmpO_trans : ∀ (l : List (Int × Int × Int)), cmpO (l.map fun x => (x.1, x.2.1)) ≤ 0 → cmpO (l.map fun x => (x.2.1, x.2.2)) ≤ 0 →
    cmpO (l.map fun x => (x.1, x.2.2)) ≤ 0 ∧ (cmpO (l.map fun x => (x.1, x.2.1)) < 0 ∨ cmpO (l.map fun x => (x.2.1, x.2.2)) < 0 → cmpO (l.map fun x => (x.1, x.2.2)) < 0)
  | [] => by simp [cmpO]
  | x :: l => by
    have ih := cmpO_trans l
    simp only [List.map_cons, cmpO]
    rcases cmp3_cases x.1 x.2.1 with ⟨h, h'⟩ | ⟨h, h'⟩ | ⟨h, h'⟩ <;> rcases cmp3_cases x.2.1 x.2.2 with ⟨g, g'⟩ | ⟨g, g'⟩ | ⟨g, g'⟩ <;> rcases cmp3_cases x.1 x.2.2 with ⟨k, k'⟩ | ⟨k, k'⟩ | ⟨k, k'⟩ <;> first | omega | (rw [h, g, k]; simp; try omega)
theorem cmpI_L (no sq of no' sq' of' : Int) : cmpI no sq of no' sq' of' = cmpO [(no, no'), (sq, sq'), (of, of')] := rfl
theorem ordB_O (no sq of pr bo li no' sq' of' pr' bo' li' : Int) : ordB no sq of pr bo li no' sq' of' pr' bo' li' = cmpO [(pr', pr), (bo + li, bo' + li'), (no, no'), (sq, sq'), (of, of')] := by
  unfold ordB
  simp only [cmpI_L, orL, cmpO]
  rcases cmp3_cases pr' pr with ⟨h, _⟩ | ⟨h, _⟩ | ⟨h, _⟩ <;> rw [h] <;> simp <;>
  rcases cmp3_cases (bo + li) (bo' + li') with ⟨g, _⟩ | ⟨g, _⟩ | ⟨g, _⟩ <;> rw [g] <;> simp <;>
  (intro k; omega)
def idEq (no sq of no' sq' of' : Int) : Bool := decide (no = no' ∧ sq = sq' ∧ of = of')
theorem run_idEq (no sq of no' sq' of' : Int) (w : World) : Sem.run Tryd.prog (binOp BinOp.eql 26 (.agg #[.int .i64 no, .int .u64 sq, .int .i64 of]) (.agg #[.int .i64 no', .int .u64 sq', .int .i64 of'])) w = .ok (.bool (idEq no sq of no' sq' of')) w := by
  unfold idEq
  go_simp
  repeat' split
  all_goals simp [*]
theorem run_idNe (no sq of no' sq' of' : Int) (w : World) : Sem.run Tryd.prog (binOp BinOp.neq 26 (.agg #[.int .i64 no, .int .u64 sq, .int .i64 of]) (.agg #[.int .i64 no', .int .u64 sq', .int .i64 of'])) w = .ok (.bool (!idEq no sq of no' sq' of')) w := by
  unfold idEq
  go_simp
  repeat' split
  all_goals simp [*]
theorem id_laws (no sq of no' sq' of' no2 sq2 of2 : Int) :
    cmpI no sq of no' sq' of' = - cmpI no' sq' of' no sq of ∧ (cmpI no sq of no' sq' of' = 0 ↔ no = no' ∧ sq = sq' ∧ of = of') ∧
    (cmpI no sq of no' sq' of' < 0 → cmpI no' sq' of' no2 sq2 of2 < 0 → cmpI no sq of no2 sq2 of2 < 0) ∧ -1 ≤ cmpI no sq of no' sq' of' ∧ cmpI no sq of no' sq' of' ≤ 1 := by
  rw [cmpI_L, cmpI_L, cmpI_L, cmpI_L]
  have h1 := cmpO_swap [(no, no'), (sq, sq'), (of, of')]
  have h2 := cmpO_zero [(no, no'), (sq, sq'), (of, of')]
  have h3 := cmpO_trans [(no, no', no2), (sq, sq', sq2), (of, of', of2)]
  have h4 := cmpO_bd [(no, no'), (sq, sq'), (of, of')]
  simp only [List.map_cons, List.map_nil] at h1 h3
  simp only [List.mem_cons, List.not_mem_nil, or_false, forall_eq_or_imp, forall_eq] at h2
  refine ⟨by omega, h2, fun a b => (h3 (by omega) (by omega)).2 (.inl a), h4⟩
theorem less_lawsO (no sq of pr bo li no' sq' of' pr' bo' li' no2 sq2 of2 pr2 bo2 li2 : Int) :
    (lessB no sq of pr bo li no' sq' of' pr' bo' li' = true → lessB no' sq' of' pr' bo' li' no sq of pr bo li = false) ∧
    (lessB no sq of pr bo li no' sq' of' pr' bo' li' = true → lessB no' sq' of' pr' bo' li' no2 sq2 of2 pr2 bo2 li2 = true → lessB no sq of pr bo li no2 sq2 of2 pr2 bo2 li2 = true) ∧
    (lessB no sq of pr bo li no' sq' of' pr' bo' li' = false → lessB no' sq' of' pr' bo' li' no sq of pr bo li = false → no = no' ∧ sq = sq' ∧ of = of') := by
  unfold lessB
  rw [ordB_O, ordB_O, ordB_O, ordB_O]
  have h1 := cmpO_swap [(pr', pr), (bo + li, bo' + li'), (no, no'), (sq, sq'), (of, of')]
  have h2 := cmpO_zero [(pr', pr), (bo + li, bo' + li'), (no, no'), (sq, sq'), (of, of')]
  have h3 := cmpO_trans [(bo + li, bo' + li', bo2 + li2), (no, no', no2), (sq, sq', sq2), (of, of', of2)]
  simp only [List.map_cons, List.map_nil] at h1 h3
  simp only [List.mem_cons, List.not_mem_nil, or_false, forall_eq_or_imp, forall_eq] at h2
  refine ⟨fun a => ?_, fun a b => ?_, fun a b => ?_⟩
  · simp only [decide_eq_true_eq, decide_eq_false_iff_not] at a ⊢; omega
  · simp only [decide_eq_true_eq] at a b ⊢
    have e : ∀ p q : Int, ∀ l, cmpO ((p, q) :: l) = if cmp3 p q ≠ 0 then cmp3 p q else cmpO l := fun _ _ _ => rfl
    rw [e] at a b ⊢
    rcases cmp3_cases pr' pr with ⟨h, h'⟩ | ⟨h, h'⟩ | ⟨h, h'⟩ <;> rcases cmp3_cases pr2 pr' with ⟨g, g'⟩ | ⟨g, g'⟩ | ⟨g, g'⟩ <;> rcases cmp3_cases pr2 pr with ⟨k, k'⟩ | ⟨k, k'⟩ | ⟨k, k'⟩ <;> first | omega | (rw [h] at a; rw [g] at b; rw [k]; simp at a b ⊢; try exact (h3 (by omega) (by omega)).2 (.inl a))
  · simp only [decide_eq_false_iff_not] at a b
    have := h2.1 (by omega)
    exact this.2.2
theorem ltB_asymO (a b : Bn) (h : ltB a b = true) : ltB b a = false := (less_lawsO a.no a.sq a.of a.pr a.bo a.li b.no b.sq b.of b.pr b.bo b.li 0 0 0 0 0 0).1 h
theorem cmpO_nn : ∀ l : List (Int × Int × Int), ¬ cmpO (l.map fun x => (x.1, x.2.1)) < 0 → ¬ cmpO (l.map fun x => (x.2.1, x.2.2)) < 0 → ¬ cmpO (l.map fun x => (x.1, x.2.2)) < 0
  | [], _, _ => by simp [cmpO]
  | (a, b, c) :: l, h1, h2 => by
    have e : ∀ p q : Int, ∀ l, cmpO ((p, q) :: l) = if cmp3 p q ≠ 0 then cmp3 p q else cmpO l := fun _ _ _ => rfl
    simp only [List.map_cons] at h1 h2 ⊢
    rw [e] at h1 h2 ⊢
    have ih := cmpO_nn l
    rcases cmp3_cases a b with ⟨h, h'⟩ | ⟨h, h'⟩ | ⟨h, h'⟩ <;> rcases cmp3_cases b c with ⟨g, g'⟩ | ⟨g, g'⟩ | ⟨g, g'⟩ <;> rcases cmp3_cases a c with ⟨k, k'⟩ | ⟨k, k'⟩ | ⟨k, k'⟩ <;>
      first
      | omega
      | (rw [h] at h1; exact absurd h1 (by decide))
      | (rw [g] at h2; exact absurd h2 (by decide))
      | (rw [k]; decide)
      | (rw [h] at h1; rw [g] at h2; rw [k]; exact ih (by simpa using h1) (by simpa using h2))
theorem cmpO_neg (p q : Int) (l : List (Int × Int)) : cmpO ((p, q) :: l) = cmpO ((-q, -p) :: l) := by
  have e : ∀ p q : Int, ∀ l, cmpO ((p, q) :: l) = if cmp3 p q ≠ 0 then cmp3 p q else cmpO l := fun _ _ _ => rfl
  have h : cmp3 p q = cmp3 (-q) (-p) := by
    rcases cmp3_cases p q with ⟨h, h'⟩ | ⟨h, h'⟩ | ⟨h, h'⟩ <;> rcases cmp3_cases (-q) (-p) with ⟨g, g'⟩ | ⟨g, g'⟩ | ⟨g, g'⟩ <;> first | omega | rw [h, g]
  rw [e, e, h]
theorem ltB_nnO (a b c : Bn) (h1 : ltB a b = false) (h2 : ltB b c = false) : ltB a c = false := by
  unfold ltB lessB at *
  rw [ordB_O, cmpO_neg] at *
  simp only [decide_eq_false_iff_not] at *
  exact cmpO_nn [(-a.pr, -b.pr, -c.pr), (a.bo + a.li, b.bo + b.li, c.bo + c.li), (a.no, b.no, c.no), (a.sq, b.sq, c.sq), (a.of, b.of, c.of)] h1 h2
end Go.Proofs.YtahopnlibmiafaaDoor
