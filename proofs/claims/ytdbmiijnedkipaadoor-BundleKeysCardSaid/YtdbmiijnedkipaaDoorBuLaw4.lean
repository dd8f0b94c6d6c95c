/- Both orders are orders. -/
import Derived.Test.YtdbmiijnedkipaaDoorBuLaw3
namespace Go.Proofs.YtdbmiijnedkipaaDoor
set_option linter.unusedVariables false
open Go.RowKit

/-- A row of numbers compared with another one, piece by piece. -/
def cmpL : List (Int × Int) → Int
  | [] => 0
  | x :: l => if cmp3 x.1 x.2 ≠ 0 then cmp3 x.1 x.2 else cmpL l
theorem cmpL_bd : ∀ l, -1 ≤ cmpL l ∧ cmpL l ≤ 1
  | [] => by simp [cmpL]
  | x :: l => by
    have := cmpL_bd l
    unfold cmpL
    rcases cmp3_cases x.1 x.2 with ⟨h, _⟩ | ⟨h, _⟩ | ⟨h, _⟩ <;> rw [h] <;> simp <;> omega
theorem cmpL_swap : ∀ l, cmpL (l.map fun x => (x.2, x.1)) = - cmpL l
  | [] => by simp [cmpL]
  | x :: l => by
    have := cmpL_swap l
    simp only [List.map_cons, cmpL]
    rcases cmp3_cases x.1 x.2 with ⟨h, h'⟩ | ⟨h, h'⟩ | ⟨h, h'⟩ <;> rcases cmp3_cases x.2 x.1 with ⟨g, g'⟩ | ⟨g, g'⟩ | ⟨g, g'⟩ <;> first | omega | (rw [h, g]; simp; try omega)
theorem cmpL_zero : ∀ l, cmpL l = 0 ↔ ∀ x ∈ l, x.1 = x.2
  | [] => by simp [cmpL]
  | x :: l => by
    have := cmpL_zero l
    simp only [cmpL, List.mem_cons, forall_eq_or_imp]
    rcases cmp3_cases x.1 x.2 with ⟨h, h'⟩ | ⟨h, h'⟩ | ⟨h, h'⟩ <;> rw [h]
    · exact ⟨fun hh => by simp at hh, fun hh => absurd hh.1 (by omega)⟩
    · exact ⟨fun hh => ⟨h', this.1 (by simpa using hh)⟩, fun hh => by simpa using this.2 hh.2⟩
    · exact ⟨fun hh => by simp at hh, fun hh => absurd hh.1 (by omega)⟩
theorem cmpL_trans : ∀ (l : List (Int × Int × Int)), cmpL (l.map fun x => (x.1, x.2.1)) ≤ 0 → cmpL (l.map fun x => (x.2.1, x.2.2)) ≤ 0 →
    cmpL (l.map fun x => (x.1, x.2.2)) ≤ 0 ∧ (cmpL (l.map fun x => (x.1, x.2.1)) < 0 ∨ cmpL (l.map fun x => (x.2.1, x.2.2)) < 0 → cmpL (l.map fun x => (x.1, x.2.2)) < 0)
  | [] => by simp [cmpL]
  | x :: l => by
    have ih := cmpL_trans l
    simp only [List.map_cons, cmpL]
    rcases cmp3_cases x.1 x.2.1 with ⟨h, h'⟩ | ⟨h, h'⟩ | ⟨h, h'⟩ <;> rcases cmp3_cases x.2.1 x.2.2 with ⟨g, g'⟩ | ⟨g, g'⟩ | ⟨g, g'⟩ <;> rcases cmp3_cases x.1 x.2.2 with ⟨k, k'⟩ | ⟨k, k'⟩ | ⟨k, k'⟩ <;> first | omega | (rw [h, g, k]; simp; try omega)
theorem cmpI_L (no sq of no' sq' of' : Int) : cmpI no sq of no' sq' of' = cmpL [(no, no'), (sq, sq'), (of, of')] := rfl
theorem ordB_L (no sq of pr bo li no' sq' of' pr' bo' li' : Int) : ordB no sq of pr bo li no' sq' of' pr' bo' li' = cmpL [(pr', pr), (bo + li, bo' + li'), (no, no'), (sq, sq'), (of, of')] := by
  unfold ordB
  simp only [cmpI_L, orL, cmpL]
  rcases cmp3_cases pr' pr with ⟨h, _⟩ | ⟨h, _⟩ | ⟨h, _⟩ <;> rw [h] <;> simp <;>
  rcases cmp3_cases (bo + li) (bo' + li') with ⟨g, _⟩ | ⟨g, _⟩ | ⟨g, _⟩ <;> rw [g] <;> simp <;>
  (intro k; omega)

/-- Two IDs are equal. -/
def idEq (no sq of no' sq' of' : Int) : Bool := decide (no = no' ∧ sq = sq' ∧ of = of')
theorem run_idEq (no sq of no' sq' of' : Int) (w : World) : Sem.run Tryd.prog (binOp BinOp.eql 24 (.agg #[.int .i64 no, .int .u64 sq, .int .i64 of]) (.agg #[.int .i64 no', .int .u64 sq', .int .i64 of'])) w = .ok (.bool (idEq no sq of no' sq' of')) w := by
  unfold idEq
  go_simp
  repeat' split
  all_goals simp [*]
theorem run_idNe (no sq of no' sq' of' : Int) (w : World) : Sem.run Tryd.prog (binOp BinOp.neq 24 (.agg #[.int .i64 no, .int .u64 sq, .int .i64 of]) (.agg #[.int .i64 no', .int .u64 sq', .int .i64 of'])) w = .ok (.bool (!idEq no sq of no' sq' of')) w := by
  unfold idEq
  go_simp
  repeat' split
  all_goals simp [*]
/-- What the order of IDs obeys. -/
theorem id_laws (no sq of no' sq' of' no2 sq2 of2 : Int) :
    cmpI no sq of no' sq' of' = - cmpI no' sq' of' no sq of ∧ (cmpI no sq of no' sq' of' = 0 ↔ no = no' ∧ sq = sq' ∧ of = of') ∧
    (cmpI no sq of no' sq' of' < 0 → cmpI no' sq' of' no2 sq2 of2 < 0 → cmpI no sq of no2 sq2 of2 < 0) ∧ -1 ≤ cmpI no sq of no' sq' of' ∧ cmpI no sq of no' sq' of' ≤ 1 := by
  rw [cmpI_L, cmpI_L, cmpI_L, cmpI_L]
  have h1 := cmpL_swap [(no, no'), (sq, sq'), (of, of')]
  have h2 := cmpL_zero [(no, no'), (sq, sq'), (of, of')]
  have h3 := cmpL_trans [(no, no', no2), (sq, sq', sq2), (of, of', of2)]
  have h4 := cmpL_bd [(no, no'), (sq, sq'), (of, of')]
  simp only [List.map_cons, List.map_nil] at h1 h3
  simp only [List.mem_cons, List.not_mem_nil, or_false, forall_eq_or_imp, forall_eq] at h2
  refine ⟨by omega, h2, fun a b => (h3 (by omega) (by omega)).2 (.inl a), h4⟩
/-- What the order of bundles obeys. -/
theorem less_laws (no sq of pr bo li no' sq' of' pr' bo' li' no2 sq2 of2 pr2 bo2 li2 : Int) :
    (lessB no sq of pr bo li no' sq' of' pr' bo' li' = true → lessB no' sq' of' pr' bo' li' no sq of pr bo li = false) ∧
    (lessB no sq of pr bo li no' sq' of' pr' bo' li' = true → lessB no' sq' of' pr' bo' li' no2 sq2 of2 pr2 bo2 li2 = true → lessB no sq of pr bo li no2 sq2 of2 pr2 bo2 li2 = true) ∧
    (lessB no sq of pr bo li no' sq' of' pr' bo' li' = false → lessB no' sq' of' pr' bo' li' no sq of pr bo li = false → no = no' ∧ sq = sq' ∧ of = of') := by
  unfold lessB
  rw [ordB_L, ordB_L, ordB_L, ordB_L]
  have h1 := cmpL_swap [(pr', pr), (bo + li, bo' + li'), (no, no'), (sq, sq'), (of, of')]
  have h2 := cmpL_zero [(pr', pr), (bo + li, bo' + li'), (no, no'), (sq, sq'), (of, of')]
  have h3 := cmpL_trans [(bo + li, bo' + li', bo2 + li2), (no, no', no2), (sq, sq', sq2), (of, of', of2)]
  simp only [List.map_cons, List.map_nil] at h1 h3
  simp only [List.mem_cons, List.not_mem_nil, or_false, forall_eq_or_imp, forall_eq] at h2
  refine ⟨fun a => ?_, fun a b => ?_, fun a b => ?_⟩
  · simp only [decide_eq_true_eq, decide_eq_false_iff_not] at a ⊢; omega
  · simp only [decide_eq_true_eq] at a b ⊢
    have e : ∀ p q : Int, ∀ l, cmpL ((p, q) :: l) = if cmp3 p q ≠ 0 then cmp3 p q else cmpL l := fun _ _ _ => rfl
    rw [e] at a b ⊢
    rcases cmp3_cases pr' pr with ⟨h, h'⟩ | ⟨h, h'⟩ | ⟨h, h'⟩ <;> rcases cmp3_cases pr2 pr' with ⟨g, g'⟩ | ⟨g, g'⟩ | ⟨g, g'⟩ <;> rcases cmp3_cases pr2 pr with ⟨k, k'⟩ | ⟨k, k'⟩ | ⟨k, k'⟩ <;> first | omega | (rw [h] at a; rw [g] at b; rw [k]; simp at a b ⊢; try exact (h3 (by omega) (by omega)).2 (.inl a))
  · simp only [decide_eq_false_iff_not] at a b
    have := h2.1 (by omega)
    exact this.2.2

set_option maxRecDepth 100000 in
set_option maxHeartbeats 6400000 in
theorem bundleChain_walk (no sq of de pr bo li to : Int) (da : ByteArray) (no' sq' of' de' pr' bo' li' to' : Int) (da' : ByteArray) (no2 sq2 of2 de2 pr2 bo2 li2 to2 : Int) (da2 : ByteArray)
    (wb : (Lit.int .i64 bo).wf = true) (wl : (Lit.int .i64 li).wf = true) (hda : da.size ≤ maxLen) (wb' : (Lit.int .i64 bo').wf = true) (wl' : (Lit.int .i64 li').wf = true) (hda' : da'.size ≤ maxLen)
    (wb2 : (Lit.int .i64 bo2).wf = true) (wl2 : (Lit.int .i64 li2).wf = true) (hda2 : da2.size ≤ maxLen) (w : World) :
    Calls Tryd.prog 5 #[buv no sq of de pr bo li to da, buv no' sq' of' de' pr' bo' li' to' da', buv no2 sq2 of2 de2 pr2 bo2 li2 to2 da2] w fun e w' => e = .returned (.bool true) ∧ Below w.heap.size w w' := by
  have g0 := Lib.hid awake_any
  have g1 := fun w => compare_any no sq of no' sq' of' w
  have g2 := fun w => compare_any no' sq' of' no2 sq2 of2 w
  have g3 := fun w => compare_any no sq of no2 sq2 of2 w
  have g4 := fun w => compare_any no' sq' of' no sq of w
  have g5 := fun w => less_any no sq of de pr bo li to da no' sq' of' de' pr' bo' li' to' da' (i64_of wb) (i64_of wl) (i64_of wb') (i64_of wl') w
  have g6 := fun w => less_any no' sq' of' de' pr' bo' li' to' da' no2 sq2 of2 de2 pr2 bo2 li2 to2 da2 (i64_of wb') (i64_of wl') (i64_of wb2) (i64_of wl2) w
  have g7 := fun w => less_any no sq of de pr bo li to da no2 sq2 of2 de2 pr2 bo2 li2 to2 da2 (i64_of wb) (i64_of wl) (i64_of wb2) (i64_of wl2) w
  have g8 := fun w => less_any no' sq' of' de' pr' bo' li' to' da' no sq of de pr bo li to da (i64_of wb') (i64_of wl') (i64_of wb) (i64_of wl) w
  have L1 := id_laws no sq of no' sq' of' no2 sq2 of2
  have L3 := (id_laws no' sq' of' no sq of no sq of).2.2.2
  have L2 := less_laws no sq of pr bo li no' sq' of' pr' bo' li' no2 sq2 of2 pr2 bo2 li2
  obtain ⟨x, hx⟩ : ∃ r, cmpI no sq of no' sq' of' = r := ⟨_, rfl⟩
  obtain ⟨y, hy⟩ : ∃ r, cmpI no' sq' of' no2 sq2 of2 = r := ⟨_, rfl⟩
  obtain ⟨z, hz⟩ : ∃ r, cmpI no sq of no2 sq2 of2 = r := ⟨_, rfl⟩
  obtain ⟨v, hv⟩ : ∃ r, cmpI no' sq' of' no sq of = r := ⟨_, rfl⟩
  obtain ⟨p, hp⟩ : ∃ r, lessB no sq of pr bo li no' sq' of' pr' bo' li' = r := ⟨_, rfl⟩
  obtain ⟨q, hq⟩ : ∃ r, lessB no' sq' of' pr' bo' li' no2 sq2 of2 pr2 bo2 li2 = r := ⟨_, rfl⟩
  obtain ⟨t, ht⟩ : ∃ r, lessB no sq of pr bo li no2 sq2 of2 pr2 bo2 li2 = r := ⟨_, rfl⟩
  obtain ⟨u, hu⟩ : ∃ r, lessB no' sq' of' pr' bo' li' no sq of pr bo li = r := ⟨_, rfl⟩
  rw [hx] at g1 L1; rw [hy] at g2 L1; rw [hz] at g3 L1; rw [hv] at g4 L1 L3; rw [hp] at g5 L2; rw [hq] at g6 L2; rw [ht] at g7 L2; rw [hu] at g8 L2
  clear hx hy hz hv hp hq ht hu wb wl wb' wl' wb2 wl2
  replace g1 := Lib.hid g1; replace g2 := Lib.hid g2; replace g3 := Lib.hid g3; replace g4 := Lib.hid g4
  replace g5 := Lib.hid g5; replace g6 := Lib.hid g6; replace g7 := Lib.hid g7; replace g8 := Lib.hid g8
  unfold maxLen at hda hda' hda2
  by_cases h1 : 100 < da.size ∨ 100 < da'.size ∨ 100 < da2.size
  · clear L1 L2 L3
    rcases (show 100 < da.size ∨ ¬ 100 < da.size ∧ 100 < da'.size ∨ ¬ 100 < da.size ∧ ¬ 100 < da'.size ∧ 100 < da2.size by omega) with h | ⟨h, h2⟩ | ⟨h, h2, h3⟩
    all_goals
      clear h1
      go_enter Tryd.func5, Tryd.ntmps5
      go_wp2_with (go_at_call 12; (with_reducible refine (g0.out _).mono ?_); rintro e wa ⟨rfl, ha⟩)
      go_ret
      exact ⟨rfl, by (repeat (first | (with_reducible assumption) | (with_reducible exact Below.refl _ _) | (with_reducible refine beld_drew ?_) | ((with_reducible refine bset' ?_ ?_); (first | (focus (dsimp only; assumption)) | (focus (simp; done)) | (focus (dsimp only; omega)))) | (with_reducible refine belt_alloc ?_) | ((with_reducible refine zeroed_below' ?_ ?_); (first | (focus (simp; done)) | (focus (dsimp only; omega)))) | (with_reducible refine bt ?_ (by assumption))))⟩
  · have s1 : ¬ 100 < da.size := by omega
    have s2 : ¬ 100 < da'.size := by omega
    have s3 : ¬ 100 < da2.size := by omega
    clear h1 hda hda' hda2
    obtain ⟨a1, a2, a3, a4, a5⟩ := L1
    obtain ⟨v1, v2⟩ := L3
    have e1 : (x != -v) = false := by simp; omega
    have E1 := fun w => run_idEq no sq of no' sq' of' w
    have E2 := fun w => run_idNe no sq of no' sq' of' w
    have hE : (idEq no sq of no' sq' of' = true ∧ (x == 0) = true ∧ ¬ x < 0) ∨ (idEq no sq of no' sq' of' = false ∧ (x == 0) = false ∧ ((x < 0 ∧ y < 0 ∧ z < 0) ∨ (x < 0 ∧ ¬ y < 0) ∨ ¬ x < 0)) := by
      unfold idEq
      by_cases hc : no = no' ∧ sq = sq' ∧ of = of'
      · have := a2.2 hc
        exact .inl ⟨by simpa using hc, by simpa using this, by omega⟩
      · have hx0 : x ≠ 0 := fun h => hc (a2.1 h)
        refine .inr ⟨by simpa using hc, by simpa using hx0, ?_⟩
        by_cases k1 : x < 0
        · by_cases k2 : y < 0
          · exact .inl ⟨k1, k2, a3 k1 k2⟩
          · exact .inr (.inl ⟨k1, k2⟩)
        · exact .inr (.inr k1)
    have L3' : p = false → u = false → idEq no sq of no' sq' of' = true := fun a b => by unfold idEq; simpa using L2.2.2 a b
    obtain ⟨l1, l2, _⟩ := L2
    obtain ⟨eq, heq⟩ : ∃ r, idEq no sq of no' sq' of' = r := ⟨_, rfl⟩
    rw [heq] at hE L3'
    simp only [heq] at E1 E2
    clear heq a1 a2 a3
    have HL := Lib.hid (show (p = true → u = false) ∧ (p = true → q = true → t = true) ∧ (p = false → u = false → eq = true) from ⟨l1, l2, L3'⟩)
    clear l1 l2 L3'
    rcases hE with ⟨rfl, k1, k2⟩ | ⟨rfl, k1, ⟨k2, k3, k4⟩ | ⟨k2, k3⟩ | k2⟩
    all_goals
      go_enter Tryd.func5, Tryd.ntmps5
      go_wp2
      refine wp_region_in (by kernel_rfl) (by kernel_rfl) ?_
      intro W0_1 hE_1 hN_1
      have bW0_1 : Below w.heap.size w W0_1 := (by rw [hE_1.out]; (repeat (first | (with_reducible assumption) | (with_reducible exact Below.refl _ _) | (with_reducible refine beld_drew ?_) | ((with_reducible refine bset' ?_ ?_); (first | (focus (dsimp only; assumption)) | (focus (simp; done)) | (focus (dsimp only; omega)))) | (with_reducible refine belt_alloc ?_) | ((with_reducible refine zeroed_below' ?_ ?_); (first | (focus (simp; done)) | (focus (dsimp only; omega)))) | (with_reducible refine bt ?_ (by assumption)))))
      have kk2 : blk W0_1 (w.heap.size) = some #[.int .i64 no, .int .u64 sq, .int .i64 of, .int .i64 de, .int .i64 pr, .int .i64 bo, .int .i64 li, .int .i64 to, .string da] := (by rw [hE_1.out]; (apply blk_to; (focus (repeat (first | (with_reducible assumption) | (with_reducible apply blk_drew) | (with_reducible apply blk_set) | ((with_reducible apply blk_other'); (first | (focus (dsimp only; assumption)) | (focus (simp; done)) | (focus (dsimp only; omega)))) | ((with_reducible apply blk_alloc_new); (first | (with_reducible rfl) | (focus (simp; done)) | (focus (simp; omega)))) | (with_reducible apply blk_alloc) | ((with_reducible apply blk_below); (with_reducible assumption))))); rfl))
      have kn2 := calm_kn kk2
      have kk3 : blk W0_1 (w.heap.size + 1) = some #[.int .i64 no', .int .u64 sq', .int .i64 of', .int .i64 de', .int .i64 pr', .int .i64 bo', .int .i64 li', .int .i64 to', .string da'] := (by rw [hE_1.out]; (apply blk_to; (focus (repeat (first | (with_reducible assumption) | (with_reducible apply blk_drew) | (with_reducible apply blk_set) | ((with_reducible apply blk_other'); (first | (focus (dsimp only; assumption)) | (focus (simp; done)) | (focus (dsimp only; omega)))) | ((with_reducible apply blk_alloc_new); (first | (with_reducible rfl) | (focus (simp; done)) | (focus (simp; omega)))) | (with_reducible apply blk_alloc) | ((with_reducible apply blk_below); (with_reducible assumption))))); rfl))
      have kn3 := calm_kn kk3
      have kk4 : blk W0_1 (w.heap.size + 1 + 1) = some #[.int .i64 no2, .int .u64 sq2, .int .i64 of2, .int .i64 de2, .int .i64 pr2, .int .i64 bo2, .int .i64 li2, .int .i64 to2, .string da2] := (by rw [hE_1.out]; (apply blk_to; (focus (repeat (first | (with_reducible assumption) | (with_reducible apply blk_drew) | (with_reducible apply blk_set) | ((with_reducible apply blk_other'); (first | (focus (dsimp only; assumption)) | (focus (simp; done)) | (focus (dsimp only; omega)))) | ((with_reducible apply blk_alloc_new); (first | (with_reducible rfl) | (focus (simp; done)) | (focus (simp; omega)))) | (with_reducible apply blk_alloc) | ((with_reducible apply blk_below); (with_reducible assumption))))); rfl))
      have kn4 := calm_kn kk4
      clear hE_1
      repeat (go_big_quiet_step ((first | (go_at_call 23; (with_reducible refine Class.go _ (g1.out _))) | (go_at_call 23; (with_reducible refine Class.go _ (g2.out _))) | (go_at_call 23; (with_reducible refine Class.go _ (g3.out _))))))
      refine wpQuiet_nil ?_
      rintro _ ⟨x_1, rfl⟩
      have hx_1 : Calm W0_1 x_1.wd := x_1.ok
      have bwn : Below w.heap.size w x_1.wd := bt bW0_1 hx_1
      clear kn2; replace kk2 := blk_below hx_1 kk2; have kn2 := kn kk2
      clear kn3; replace kk3 := blk_below hx_1 kk3; have kn3 := kn kk3
      clear kn4; replace kk4 := blk_below hx_1 kk4; have kn4 := kn kk4
      clear hx_1 bW0_1 hN_1
      generalize x_1.wd = wn at *
      go_wp2_with (go_at_call 23; (with_reducible refine (g4.out _).mono ?_); rintro e w4 ⟨rfl, h4⟩; have kk9 : blk w4 (w.heap.size) = some #[.int .i64 no, .int .u64 sq, .int .i64 of, .int .i64 de, .int .i64 pr, .int .i64 bo, .int .i64 li, .int .i64 to, .string da] := (by (apply blk_to; (focus (repeat (first | (with_reducible assumption) | (with_reducible apply blk_drew) | (with_reducible apply blk_set) | ((with_reducible apply blk_other'); (first | (focus (dsimp only; assumption)) | (focus (simp; done)) | (focus (dsimp only; omega)))) | ((with_reducible apply blk_alloc_new); (first | (with_reducible rfl) | (focus (simp; done)) | (focus (simp; omega)))) | (with_reducible apply blk_alloc) | ((with_reducible apply blk_below); (with_reducible assumption))))); rfl)); have kn9 := kn kk9; have kk10 : blk w4 (w.heap.size + 1) = some #[.int .i64 no', .int .u64 sq', .int .i64 of', .int .i64 de', .int .i64 pr', .int .i64 bo', .int .i64 li', .int .i64 to', .string da'] := (by (apply blk_to; (focus (repeat (first | (with_reducible assumption) | (with_reducible apply blk_drew) | (with_reducible apply blk_set) | ((with_reducible apply blk_other'); (first | (focus (dsimp only; assumption)) | (focus (simp; done)) | (focus (dsimp only; omega)))) | ((with_reducible apply blk_alloc_new); (first | (with_reducible rfl) | (focus (simp; done)) | (focus (simp; omega)))) | (with_reducible apply blk_alloc) | ((with_reducible apply blk_below); (with_reducible assumption))))); rfl)); have kn10 := kn kk10; have kk11 : blk w4 (w.heap.size + 1 + 1) = some #[.int .i64 no2, .int .u64 sq2, .int .i64 of2, .int .i64 de2, .int .i64 pr2, .int .i64 bo2, .int .i64 li2, .int .i64 to2, .string da2] := (by (apply blk_to; (focus (repeat (first | (with_reducible assumption) | (with_reducible apply blk_drew) | (with_reducible apply blk_set) | ((with_reducible apply blk_other'); (first | (focus (dsimp only; assumption)) | (focus (simp; done)) | (focus (dsimp only; omega)))) | ((with_reducible apply blk_alloc_new); (first | (with_reducible rfl) | (focus (simp; done)) | (focus (simp; omega)))) | (with_reducible apply blk_alloc) | ((with_reducible apply blk_below); (with_reducible assumption))))); rfl)); have kn11 := kn kk11)
      refine wp_region_in (by kernel_rfl) (by kernel_rfl) ?_
      intro W0_5 hE_5 hN_5
      have bW0_5 : Below w.heap.size w W0_5 := (by rw [hE_5.out]; (repeat (first | (with_reducible assumption) | (with_reducible exact Below.refl _ _) | (with_reducible refine beld_drew ?_) | ((with_reducible refine bset' ?_ ?_); (first | (focus (dsimp only; assumption)) | (focus (simp; done)) | (focus (dsimp only; omega)))) | (with_reducible refine belt_alloc ?_) | ((with_reducible refine zeroed_below' ?_ ?_); (first | (focus (simp; done)) | (focus (dsimp only; omega)))) | (with_reducible refine bt ?_ (by assumption)))))
      have kk6 : blk W0_5 (w.heap.size) = some #[.int .i64 no, .int .u64 sq, .int .i64 of, .int .i64 de, .int .i64 pr, .int .i64 bo, .int .i64 li, .int .i64 to, .string da] := (by rw [hE_5.out]; (apply blk_to; (focus (repeat (first | (with_reducible assumption) | (with_reducible apply blk_drew) | (with_reducible apply blk_set) | ((with_reducible apply blk_other'); (first | (focus (dsimp only; assumption)) | (focus (simp; done)) | (focus (dsimp only; omega)))) | ((with_reducible apply blk_alloc_new); (first | (with_reducible rfl) | (focus (simp; done)) | (focus (simp; omega)))) | (with_reducible apply blk_alloc) | ((with_reducible apply blk_below); (with_reducible assumption))))); rfl))
      have kn6 := calm_kn kk6
      have kk7 : blk W0_5 (w.heap.size + 1) = some #[.int .i64 no', .int .u64 sq', .int .i64 of', .int .i64 de', .int .i64 pr', .int .i64 bo', .int .i64 li', .int .i64 to', .string da'] := (by rw [hE_5.out]; (apply blk_to; (focus (repeat (first | (with_reducible assumption) | (with_reducible apply blk_drew) | (with_reducible apply blk_set) | ((with_reducible apply blk_other'); (first | (focus (dsimp only; assumption)) | (focus (simp; done)) | (focus (dsimp only; omega)))) | ((with_reducible apply blk_alloc_new); (first | (with_reducible rfl) | (focus (simp; done)) | (focus (simp; omega)))) | (with_reducible apply blk_alloc) | ((with_reducible apply blk_below); (with_reducible assumption))))); rfl))
      have kn7 := calm_kn kk7
      have kk8 : blk W0_5 (w.heap.size + 1 + 1) = some #[.int .i64 no2, .int .u64 sq2, .int .i64 of2, .int .i64 de2, .int .i64 pr2, .int .i64 bo2, .int .i64 li2, .int .i64 to2, .string da2] := (by rw [hE_5.out]; (apply blk_to; (focus (repeat (first | (with_reducible assumption) | (with_reducible apply blk_drew) | (with_reducible apply blk_set) | ((with_reducible apply blk_other'); (first | (focus (dsimp only; assumption)) | (focus (simp; done)) | (focus (dsimp only; omega)))) | ((with_reducible apply blk_alloc_new); (first | (with_reducible rfl) | (focus (simp; done)) | (focus (simp; omega)))) | (with_reducible apply blk_alloc) | ((with_reducible apply blk_below); (with_reducible assumption))))); rfl))
      have kn8 := calm_kn kk8
      clear hE_5
      repeat (go_big_quiet_step ((first | (go_at_call 24; (with_reducible refine Class.go _ (g5.out _))) | (go_at_call 24; (with_reducible refine Class.go _ (g6.out _))))))
      refine wpQuiet_nil ?_
      rintro _ ⟨x_5, rfl⟩
      have hx_5 : Calm W0_5 x_5.wd := x_5.ok
      have bwm : Below w.heap.size w x_5.wd := bt bW0_5 hx_5
      clear kn6; replace kk6 := blk_below hx_5 kk6; have kn6 := kn kk6
      clear kn7; replace kk7 := blk_below hx_5 kk7; have kn7 := kn kk7
      clear kn8; replace kk8 := blk_below hx_5 kk8; have kn8 := kn kk8
      clear hx_5 bW0_5 hN_5
      generalize x_5.wd = wm at *
      go_wp2_with (first
        | (go_at_call 24; (with_reducible refine (g7.out _).mono ?_); rintro e w7 ⟨rfl, h7⟩; have kk12 : blk w7 (w.heap.size) = some #[.int .i64 no, .int .u64 sq, .int .i64 of, .int .i64 de, .int .i64 pr, .int .i64 bo, .int .i64 li, .int .i64 to, .string da] := (by (apply blk_to; (focus (repeat (first | (with_reducible assumption) | (with_reducible apply blk_drew) | (with_reducible apply blk_set) | ((with_reducible apply blk_other'); (first | (focus (dsimp only; assumption)) | (focus (simp; done)) | (focus (dsimp only; omega)))) | ((with_reducible apply blk_alloc_new); (first | (with_reducible rfl) | (focus (simp; done)) | (focus (simp; omega)))) | (with_reducible apply blk_alloc) | ((with_reducible apply blk_below); (with_reducible assumption))))); rfl)); have kn12 := kn kk12; have kk13 : blk w7 (w.heap.size + 1) = some #[.int .i64 no', .int .u64 sq', .int .i64 of', .int .i64 de', .int .i64 pr', .int .i64 bo', .int .i64 li', .int .i64 to', .string da'] := (by (apply blk_to; (focus (repeat (first | (with_reducible assumption) | (with_reducible apply blk_drew) | (with_reducible apply blk_set) | ((with_reducible apply blk_other'); (first | (focus (dsimp only; assumption)) | (focus (simp; done)) | (focus (dsimp only; omega)))) | ((with_reducible apply blk_alloc_new); (first | (with_reducible rfl) | (focus (simp; done)) | (focus (simp; omega)))) | (with_reducible apply blk_alloc) | ((with_reducible apply blk_below); (with_reducible assumption))))); rfl)); have kn13 := kn kk13; have kk14 : blk w7 (w.heap.size + 1 + 1) = some #[.int .i64 no2, .int .u64 sq2, .int .i64 of2, .int .i64 de2, .int .i64 pr2, .int .i64 bo2, .int .i64 li2, .int .i64 to2, .string da2] := (by (apply blk_to; (focus (repeat (first | (with_reducible assumption) | (with_reducible apply blk_drew) | (with_reducible apply blk_set) | ((with_reducible apply blk_other'); (first | (focus (dsimp only; assumption)) | (focus (simp; done)) | (focus (dsimp only; omega)))) | ((with_reducible apply blk_alloc_new); (first | (with_reducible rfl) | (focus (simp; done)) | (focus (simp; omega)))) | (with_reducible apply blk_alloc) | ((with_reducible apply blk_below); (with_reducible assumption))))); rfl)); have kn14 := kn kk14)
        | (go_at_call 24; (with_reducible refine (g8.out _).mono ?_); rintro e w8 ⟨rfl, h8⟩; have kk15 : blk w8 (w.heap.size) = some #[.int .i64 no, .int .u64 sq, .int .i64 of, .int .i64 de, .int .i64 pr, .int .i64 bo, .int .i64 li, .int .i64 to, .string da] := (by (apply blk_to; (focus (repeat (first | (with_reducible assumption) | (with_reducible apply blk_drew) | (with_reducible apply blk_set) | ((with_reducible apply blk_other'); (first | (focus (dsimp only; assumption)) | (focus (simp; done)) | (focus (dsimp only; omega)))) | ((with_reducible apply blk_alloc_new); (first | (with_reducible rfl) | (focus (simp; done)) | (focus (simp; omega)))) | (with_reducible apply blk_alloc) | ((with_reducible apply blk_below); (with_reducible assumption))))); rfl)); have kn15 := kn kk15; have kk16 : blk w8 (w.heap.size + 1) = some #[.int .i64 no', .int .u64 sq', .int .i64 of', .int .i64 de', .int .i64 pr', .int .i64 bo', .int .i64 li', .int .i64 to', .string da'] := (by (apply blk_to; (focus (repeat (first | (with_reducible assumption) | (with_reducible apply blk_drew) | (with_reducible apply blk_set) | ((with_reducible apply blk_other'); (first | (focus (dsimp only; assumption)) | (focus (simp; done)) | (focus (dsimp only; omega)))) | ((with_reducible apply blk_alloc_new); (first | (with_reducible rfl) | (focus (simp; done)) | (focus (simp; omega)))) | (with_reducible apply blk_alloc) | ((with_reducible apply blk_below); (with_reducible assumption))))); rfl)); have kn16 := kn kk16; have kk17 : blk w8 (w.heap.size + 1 + 1) = some #[.int .i64 no2, .int .u64 sq2, .int .i64 of2, .int .i64 de2, .int .i64 pr2, .int .i64 bo2, .int .i64 li2, .int .i64 to2, .string da2] := (by (apply blk_to; (focus (repeat (first | (with_reducible assumption) | (with_reducible apply blk_drew) | (with_reducible apply blk_set) | ((with_reducible apply blk_other'); (first | (focus (dsimp only; assumption)) | (focus (simp; done)) | (focus (dsimp only; omega)))) | ((with_reducible apply blk_alloc_new); (first | (with_reducible rfl) | (focus (simp; done)) | (focus (simp; omega)))) | (with_reducible apply blk_alloc) | ((with_reducible apply blk_below); (with_reducible assumption))))); rfl)); have kn17 := kn kk17)
        | (go_at_call 12; (with_reducible refine (g0.out _).mono ?_); rintro e wa ⟨rfl, ha⟩))
      all_goals first
        | (go_ret; exact ⟨rfl, by (repeat (first | (with_reducible assumption) | (with_reducible exact Below.refl _ _) | (with_reducible refine beld_drew ?_) | ((with_reducible refine bset' ?_ ?_); (first | (focus (dsimp only; assumption)) | (focus (simp; done)) | (focus (dsimp only; omega)))) | (with_reducible refine belt_alloc ?_) | ((with_reducible refine zeroed_below' ?_ ?_); (first | (focus (simp; done)) | (focus (dsimp only; omega)))) | (with_reducible refine bt ?_ (by assumption))))⟩)
        | (exfalso; have hl := HL.out; simp_all; done)
        | (go_ways; sorry)
end Go.Proofs.YtdbmiijnedkipaaDoor
