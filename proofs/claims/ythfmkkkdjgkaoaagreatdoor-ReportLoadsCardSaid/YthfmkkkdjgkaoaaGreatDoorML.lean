/- Parts of a proof, printed by a program of mine out of my texts: RpROn, RpRO2, RpRTr, RpFnd, RpRCk, RpRHa. -/
import Derived.Deep.RegionHeld3
import Derived.Test.YthfmkkkdjgkaoaaGreatDoorMF
import Derived.Test.YthfmkkkdjgkaoaaGreatDoorMG
import Derived.Test.YthfmkkkdjgkaoaaGreatDoorMK
import Derived.Test.YthfmkkkdjgkaoaaGreatDoorMM
import Derived.Test.YthfmkkkdjgkaoaaGreatDoorMX10
set_option linter.unusedSimpArgs false
set_option linter.unusedVariables false
namespace Go.Proofs.YthfmkkkdjgkaoaaGreatDoor
open Go.RowKit
set_option maxRecDepth 100000 in
set_option maxHeartbeats 1600000 in
theorem usesOther_any (k : Int) (w : World) : Calls Tryz.prog 120 #[.int .i64 k] w fun e w' => e = .returned (.bool (useO k)) ∧ w = w' := by
  have hc : k = 6 ∨ k = 7 ∨ k = 10 ∨ k = 11 ∨ k = 12 ∨ k = 13 ∨ (k ≠ 6 ∧ k ≠ 7 ∧ k ≠ 10 ∧ k ≠ 11 ∧ k ≠ 12 ∧ k ≠ 13) := by omega
  rcases hc with rfl | rfl | rfl | rfl | rfl | rfl | ⟨h1, h2, h3, h4, h5, h6⟩
  all_goals first
    | (go_enter Tryz.func120, Tryz.ntmps120
       go_wp2
       go_ret
       exact ⟨rfl, rfl⟩)
    | (have e : useO k = false := by simp [useO, h1, h2, h3, h4, h5, h6]
       rw [e]
       have t1 : (k == 6) = false := by simp [h1]
       have t2 : (k == 7) = false := by simp [h2]
       have t3 : (k == 10) = false := by simp [h3]
       have t4 : (k == 11) = false := by simp [h4]
       have t5 : (k == 12) = false := by simp [h5]
       have t6 : (k == 13) = false := by simp [h6]
       clear e h1 h2 h3 h4 h5 h6
       go_enter Tryz.func120, Tryz.ntmps120
       go_wp2
       go_ret
       exact ⟨rfl, rfl⟩)
set_option maxRecDepth 100000 in
set_option maxHeartbeats 1600000 in
theorem usesI_any (k : Int) (w : World) : Calls Tryz.prog 61 #[.int .i64 k] w fun e w' => e = .returned (.bool (useI k)) ∧ w = w' := by
  by_cases h1 : 1 ≤ k
  · have t1 : decide (1 ≤ k) = true := decide_eq_true h1
    by_cases h2 : k ≤ 10
    · have t2 : decide (k ≤ 10) = true := decide_eq_true h2
      have e : useI k = (k != 5) := by
        unfold useI; rw [t1, t2]; simp [bne]; rfl
      rw [e]
      clear e h1 h2
      go_enter Tryz.func61, Tryz.ntmps61
      go_wp2
      go_ret
      exact ⟨rfl, rfl⟩
    · have t2 : decide (k ≤ 10) = false := decide_eq_false h2
      have e : useI k = false := by unfold useI; rw [t1, t2]; rfl
      rw [e]
      clear e h1 h2
      go_enter Tryz.func61, Tryz.ntmps61
      go_wp2
      go_ret
      exact ⟨rfl, rfl⟩
  · have t1 : decide (1 ≤ k) = false := decide_eq_false h1
    have e : useI k = false := by unfold useI; rw [t1]; rfl
    rw [e]
    clear e h1
    go_enter Tryz.func61, Tryz.ntmps61
    go_wp2
    go_ret
    exact ⟨rfl, rfl⟩
theorem othB_cases (ti no ki ino isq iof ot : Int) : (useO ki = false ∧ othB ⟨ti, no, ki, ino, isq, iof, ot⟩ = (ot == 0)) ∨ (useO ki = true ∧ ki = 12 ∧ ot = 0 ∧ othB ⟨ti, no, ki, ino, isq, iof, ot⟩ = true) ∨
    (useO ki = true ∧ (ki ≠ 12 ∨ (ki = 12 ∧ ot ≠ 0)) ∧ ((ot < 1 ∧ othB ⟨ti, no, ki, ino, isq, iof, ot⟩ = false) ∨ (1 ≤ ot ∧ 16 < ot ∧ othB ⟨ti, no, ki, ino, isq, iof, ot⟩ = false) ∨ (1 ≤ ot ∧ ot ≤ 16 ∧ othB ⟨ti, no, ki, ino, isq, iof, ot⟩ = (ot != no)))) := by
  unfold othB
  simp only
  cases hO : useO ki
  · exact .inl ⟨rfl, by by_cases h : ot = 0 <;> simp [h]⟩
  · right
    by_cases hg : ki = 12 ∧ ot = 0
    · obtain ⟨h1, h2⟩ := hg
      subst h1; subst h2
      exact .inl ⟨rfl, rfl, rfl, by simp⟩
    · right
      refine ⟨rfl, by by_cases h : ki = 12 <;> simp_all, ?_⟩
      have e : (true && !(decide (ki = 12) && decide (ot = 0))) = true := by
        by_cases h : ki = 12 <;> by_cases h2 : ot = 0 <;> simp_all
      rw [e, if_pos rfl]
      by_cases a : 1 ≤ ot
      · by_cases b : ot ≤ 16
        · refine .inr (.inr ⟨a, b, ?_⟩)
          by_cases c : ot = no <;> simp [a, b, c]
        · exact .inr (.inl ⟨a, by omega, decide_eq_false (by omega)⟩)
      · exact .inl ⟨by omega, decide_eq_false (by omega)⟩
set_option maxRecDepth 100000 in
set_option maxHeartbeats 3200000 in
theorem other_any (ti no ki ino isq iof ot : Int) (w : World) : Calls Tryz.prog 103 #[.agg #[.int .i64 ti, .int .i64 no, .int .i64 ki, .int .i64 ino, .int .u64 isq, .int .i64 iof, .int .i64 ot]] w fun e w' => e = .returned (.bool (othB ⟨ti, no, ki, ino, isq, iof, ot⟩)) ∧ Below w.heap.size w w' := by
  have gu : ∀ W, Calls Tryz.prog 120 #[.int .i64 ki] W fun e w' => e = .returned (.bool (useO ki)) ∧ W = w' := fun W => usesOther_any ki W
  have hc := othB_cases ti no ki ino isq iof ot
  obtain ⟨v, hv⟩ : ∃ v, othB ⟨ti, no, ki, ino, isq, iof, ot⟩ = v := ⟨_, rfl⟩
  obtain ⟨q, hq⟩ : ∃ q, useO ki = q := ⟨_, rfl⟩
  rw [hv] at hc ⊢
  rw [hq] at hc gu
  have GU := Lib.hid gu
  clear hv hq gu
  rcases hc with ⟨rfl, rfl⟩ | ⟨rfl, rfl, rfl, rfl⟩ | ⟨rfl, hk, hc⟩
  · go_enter Tryz.func103, Tryz.ntmps103
    go_wp2_with (go_at_call 120; (with_reducible refine (GU.out _).mono ?_); rintro e w2 ⟨rfl, rfl⟩)
    go_ret
    exact ⟨rfl, by (repeat (first | (with_reducible assumption) | (with_reducible exact Below.refl _ _) | (with_reducible refine beld_drew ?_) | ((with_reducible refine bset' ?_ ?_); (first | (focus (dsimp only; assumption)) | (focus (simp; done)) | (focus (dsimp only; omega)))) | (with_reducible refine belt_alloc ?_) | ((with_reducible refine zeroed_below' ?_ ?_); (first | (focus (simp; done)) | (focus (dsimp only; omega)))) | (with_reducible refine bt ?_ (by assumption))))⟩
  · go_enter Tryz.func103, Tryz.ntmps103
    go_wp2_with (go_at_call 120; (with_reducible refine (GU.out _).mono ?_); rintro e w2 ⟨rfl, rfl⟩)
    go_ret
    exact ⟨rfl, by (repeat (first | (with_reducible assumption) | (with_reducible exact Below.refl _ _) | (with_reducible refine beld_drew ?_) | ((with_reducible refine bset' ?_ ?_); (first | (focus (dsimp only; assumption)) | (focus (simp; done)) | (focus (dsimp only; omega)))) | (with_reducible refine belt_alloc ?_) | ((with_reducible refine zeroed_below' ?_ ?_); (first | (focus (simp; done)) | (focus (dsimp only; omega)))) | (with_reducible refine bt ?_ (by assumption))))⟩
  · rcases hk with h | ⟨rfl, h⟩
    · have t0 : (ki == 12) = false := by simp [h]
      clear h
      rcases hc with ⟨h1, rfl⟩ | ⟨h1, h2, rfl⟩ | ⟨h1, h2, rfl⟩
      · have t1 : decide (1 ≤ ot) = false := decide_eq_false (by omega)
        go_enter Tryz.func103, Tryz.ntmps103
        go_wp2_with (go_at_call 120; (with_reducible refine (GU.out _).mono ?_); rintro e w2 ⟨rfl, rfl⟩)
        go_ret
        exact ⟨rfl, by (repeat (first | (with_reducible assumption) | (with_reducible exact Below.refl _ _) | (with_reducible refine beld_drew ?_) | ((with_reducible refine bset' ?_ ?_); (first | (focus (dsimp only; assumption)) | (focus (simp; done)) | (focus (dsimp only; omega)))) | (with_reducible refine belt_alloc ?_) | ((with_reducible refine zeroed_below' ?_ ?_); (first | (focus (simp; done)) | (focus (dsimp only; omega)))) | (with_reducible refine bt ?_ (by assumption))))⟩
      all_goals
        have t1 : decide (1 ≤ ot) = true := decide_eq_true h1
        first | (have t2 : decide (ot ≤ 16) = false := decide_eq_false (by omega)) | (have t2 : decide (ot ≤ 16) = true := decide_eq_true h2)
        go_enter Tryz.func103, Tryz.ntmps103
        go_wp2_with (go_at_call 120; (with_reducible refine (GU.out _).mono ?_); rintro e w2 ⟨rfl, rfl⟩)
        go_ret
        exact ⟨rfl, by (repeat (first | (with_reducible assumption) | (with_reducible exact Below.refl _ _) | (with_reducible refine beld_drew ?_) | ((with_reducible refine bset' ?_ ?_); (first | (focus (dsimp only; assumption)) | (focus (simp; done)) | (focus (dsimp only; omega)))) | (with_reducible refine belt_alloc ?_) | ((with_reducible refine zeroed_below' ?_ ?_); (first | (focus (simp; done)) | (focus (dsimp only; omega)))) | (with_reducible refine bt ?_ (by assumption))))⟩
    · have t0 : (ot == 0) = false := by simp [h]
      clear h
      rcases hc with ⟨h1, rfl⟩ | ⟨h1, h2, rfl⟩ | ⟨h1, h2, rfl⟩
      · have t1 : decide (1 ≤ ot) = false := decide_eq_false (by omega)
        go_enter Tryz.func103, Tryz.ntmps103
        go_wp2_with (go_at_call 120; (with_reducible refine (GU.out _).mono ?_); rintro e w2 ⟨rfl, rfl⟩)
        go_ret
        exact ⟨rfl, by (repeat (first | (with_reducible assumption) | (with_reducible exact Below.refl _ _) | (with_reducible refine beld_drew ?_) | ((with_reducible refine bset' ?_ ?_); (first | (focus (dsimp only; assumption)) | (focus (simp; done)) | (focus (dsimp only; omega)))) | (with_reducible refine belt_alloc ?_) | ((with_reducible refine zeroed_below' ?_ ?_); (first | (focus (simp; done)) | (focus (dsimp only; omega)))) | (with_reducible refine bt ?_ (by assumption))))⟩
      all_goals
        have t1 : decide (1 ≤ ot) = true := decide_eq_true h1
        first | (have t2 : decide (ot ≤ 16) = false := decide_eq_false (by omega)) | (have t2 : decide (ot ≤ 16) = true := decide_eq_true h2)
        go_enter Tryz.func103, Tryz.ntmps103
        go_wp2_with (go_at_call 120; (with_reducible refine (GU.out _).mono ?_); rintro e w2 ⟨rfl, rfl⟩)
        go_ret
        exact ⟨rfl, by (repeat (first | (with_reducible assumption) | (with_reducible exact Below.refl _ _) | (with_reducible refine beld_drew ?_) | ((with_reducible refine bset' ?_ ?_); (first | (focus (dsimp only; assumption)) | (focus (simp; done)) | (focus (dsimp only; omega)))) | (with_reducible refine belt_alloc ?_) | ((with_reducible refine zeroed_below' ?_ ?_); (first | (focus (simp; done)) | (focus (dsimp only; omega)))) | (with_reducible refine bt ?_ (by assumption))))⟩
end Go.Proofs.YthfmkkkdjgkaoaaGreatDoor
namespace Go.Proofs.YthfmkkkdjgkaoaaGreatDoor
open Go.RowKit
theorem oneC_cases (o : Oc) : (o.ki < 1 ∧ oneC o = 7) ∨ (1 ≤ o.ki ∧ 15 < o.ki ∧ oneC o = 7) ∨ (1 ≤ o.ki ∧ o.ki ≤ 15 ∧ ((o.ti < 0 ∧ oneC o = 2) ∨ (0 ≤ o.ti ∧ ((1099511627776 < o.ti ∧ oneC o = 2) ∨ (o.ti ≤ 1099511627776 ∧ ((o.no < 1 ∧ oneC o = 2) ∨ (1 ≤ o.no ∧ ((16 < o.no ∧ oneC o = 2) ∨ (o.no ≤ 16 ∧ ((othB o = false ∧ oneC o = 2) ∨ (othB o = true ∧ ((useI o.ki = true ∧ oneC o = idC o.ino o.isq o.iof) ∨ (useI o.ki = false ∧ oneC o = if (!decide (oid o = (0, 0, 0))) then 2 else 0))))))))))))) := by
  unfold oneC
  by_cases h1 : o.ki < 1
  · exact .inl ⟨h1, if_pos (.inl h1)⟩
  by_cases h2 : 15 < o.ki
  · exact .inr (.inl ⟨by omega, h2, if_pos (.inr h2)⟩)
  rw [if_neg (by omega)]
  refine .inr (.inr ⟨by omega, by omega, ?_⟩)
  by_cases h3 : o.ti < 0
  · exact .inl ⟨h3, if_pos (.inl h3)⟩
  refine .inr ⟨by omega, ?_⟩
  by_cases h4 : 1099511627776 < o.ti
  · exact .inl ⟨h4, if_pos (.inr (.inl h4))⟩
  refine .inr ⟨by omega, ?_⟩
  by_cases h5 : o.no < 1
  · exact .inl ⟨h5, if_pos (.inr (.inr (.inl h5)))⟩
  refine .inr ⟨by omega, ?_⟩
  by_cases h6 : 16 < o.no
  · exact .inl ⟨h6, if_pos (.inr (.inr (.inr (.inl h6))))⟩
  refine .inr ⟨by omega, ?_⟩
  cases h7 : othB o
  · exact .inl ⟨rfl, by simp⟩
  · refine .inr ⟨rfl, ?_⟩
    rw [if_neg (by simp; omega)]
    cases h8 : useI o.ki
    · exact .inr ⟨rfl, by by_cases h9 : oid o = (0, 0, 0) <;> simp [h9]⟩
    · exact .inl ⟨rfl, by simp⟩
set_option maxRecDepth 100000 in
set_option maxHeartbeats 3200000 in
theorem rone_any (o : Oc) (w : World) : Calls Tryz.prog 85 #[.agg (oc o).toArray] w fun e w' => e = .returned (.int .i64 (oneC o)) ∧ Below w.heap.size w w' := by
  have hc := oneC_cases o
  obtain ⟨ti, no, ki, ino, isq, iof, ot⟩ := o
  show Calls Tryz.prog 85 #[.agg #[.int .i64 ti, .int .i64 no, .int .i64 ki, .int .i64 ino, .int .u64 isq, .int .i64 iof, .int .i64 ot]] w _
  have E := fun W => run_idKNe (ino, isq, iof) (0, 0, 0) W
  have E : ∀ W, Sem.run Tryz.prog (binOp BinOp.neq 52 (.agg #[.int .i64 ino, .int .u64 isq, .int .i64 iof]) (.agg #[.int .i64 0, .int .u64 0, .int .i64 0])) W = .ok (.bool (!decide (oid ⟨ti, no, ki, ino, isq, iof, ot⟩ = (0, 0, 0)))) W := E
  have go_ : ∀ W, Calls Tryz.prog 103 #[.agg #[.int .i64 ti, .int .i64 no, .int .i64 ki, .int .i64 ino, .int .u64 isq, .int .i64 iof, .int .i64 ot]] W fun e w' => e = .returned (.bool (othB ⟨ti, no, ki, ino, isq, iof, ot⟩)) ∧ Below W.heap.size W w' := fun W => other_any ti no ki ino isq iof ot W
  have gu : ∀ W, Calls Tryz.prog 61 #[.int .i64 ki] W fun e w' => e = .returned (.bool (useI ki)) ∧ W = w' := fun W => usesI_any ki W
  have gi : ∀ W, Calls Tryz.prog 84 #[.agg #[.int .i64 ino, .int .u64 isq, .int .i64 iof]] W fun e w' => e = .returned (.int .i64 (idC ino isq iof)) ∧ Below W.heap.size W w' := fun W => refCheckID_any ino isq iof W
  obtain ⟨z, hz⟩ : ∃ z, (!decide (oid ⟨ti, no, ki, ino, isq, iof, ot⟩ = (0, 0, 0))) = z := ⟨_, rfl⟩
  obtain ⟨v, hv⟩ : ∃ v, oneC ⟨ti, no, ki, ino, isq, iof, ot⟩ = v := ⟨_, rfl⟩
  obtain ⟨q, hq⟩ : ∃ v, othB ⟨ti, no, ki, ino, isq, iof, ot⟩ = v := ⟨_, rfl⟩
  dsimp only at hc
  obtain ⟨ui, hui⟩ : ∃ v, useI ki = v := ⟨_, rfl⟩
  obtain ⟨c, hcc⟩ : ∃ v, idC ino isq iof = v := ⟨_, rfl⟩
  rw [hz] at hc E
  rw [hv] at hc ⊢
  rw [hq] at hc go_
  rw [hui] at hc gu
  rw [hcc] at hc gi
  have GO := Lib.hid go_; have GU := Lib.hid gu; have GI := Lib.hid gi
  clear hz hv hq hui hcc go_ gu gi
  rcases hc with ⟨h1, rfl⟩ | ⟨h1, h2, rfl⟩ | ⟨h1, h2, hc⟩
  · have t1 : decide (ki < 1) = true := decide_eq_true h1
    go_enter Tryz.func85, Tryz.ntmps85
    go_wp2
    go_ret
    exact ⟨rfl, by (repeat (first | (with_reducible assumption) | (with_reducible exact Below.refl _ _) | (with_reducible refine beld_drew ?_) | ((with_reducible refine bset' ?_ ?_); (first | (focus (dsimp only; assumption)) | (focus (simp; done)) | (focus (dsimp only; omega)))) | (with_reducible refine belt_alloc ?_) | ((with_reducible refine zeroed_below' ?_ ?_); (first | (focus (simp; done)) | (focus (dsimp only; omega)))) | (with_reducible refine bt ?_ (by assumption))))⟩
  · have t1 : decide (ki < 1) = false := decide_eq_false (by omega)
    have t2 : decide (15 < ki) = true := decide_eq_true h2
    go_enter Tryz.func85, Tryz.ntmps85
    go_wp2
    go_ret
    exact ⟨rfl, by (repeat (first | (with_reducible assumption) | (with_reducible exact Below.refl _ _) | (with_reducible refine beld_drew ?_) | ((with_reducible refine bset' ?_ ?_); (first | (focus (dsimp only; assumption)) | (focus (simp; done)) | (focus (dsimp only; omega)))) | (with_reducible refine belt_alloc ?_) | ((with_reducible refine zeroed_below' ?_ ?_); (first | (focus (simp; done)) | (focus (dsimp only; omega)))) | (with_reducible refine bt ?_ (by assumption))))⟩
  have t1 : decide (ki < 1) = false := decide_eq_false (by omega)
  have t2 : decide (15 < ki) = false := decide_eq_false (by omega)
  clear h1 h2
  rcases hc with ⟨h3, rfl⟩ | ⟨h3, hc⟩
  · have t3 : decide (ti < 0) = true := decide_eq_true h3
    go_enter Tryz.func85, Tryz.ntmps85
    go_wp2
    go_ret
    exact ⟨rfl, by (repeat (first | (with_reducible assumption) | (with_reducible exact Below.refl _ _) | (with_reducible refine beld_drew ?_) | ((with_reducible refine bset' ?_ ?_); (first | (focus (dsimp only; assumption)) | (focus (simp; done)) | (focus (dsimp only; omega)))) | (with_reducible refine belt_alloc ?_) | ((with_reducible refine zeroed_below' ?_ ?_); (first | (focus (simp; done)) | (focus (dsimp only; omega)))) | (with_reducible refine bt ?_ (by assumption))))⟩
  have t3 : decide (ti < 0) = false := decide_eq_false (by omega)
  clear h3
  rcases hc with ⟨h4, rfl⟩ | ⟨h4, hc⟩
  · have t4 : decide (1099511627776 < ti) = true := decide_eq_true h4
    go_enter Tryz.func85, Tryz.ntmps85
    go_wp2
    go_ret
    exact ⟨rfl, by (repeat (first | (with_reducible assumption) | (with_reducible exact Below.refl _ _) | (with_reducible refine beld_drew ?_) | ((with_reducible refine bset' ?_ ?_); (first | (focus (dsimp only; assumption)) | (focus (simp; done)) | (focus (dsimp only; omega)))) | (with_reducible refine belt_alloc ?_) | ((with_reducible refine zeroed_below' ?_ ?_); (first | (focus (simp; done)) | (focus (dsimp only; omega)))) | (with_reducible refine bt ?_ (by assumption))))⟩
  have t4 : decide (1099511627776 < ti) = false := decide_eq_false (by omega)
  clear h4
  rcases hc with ⟨h5, rfl⟩ | ⟨h5, hc⟩
  · have t5 : decide (no < 1) = true := decide_eq_true h5
    go_enter Tryz.func85, Tryz.ntmps85
    go_wp2
    go_ret
    exact ⟨rfl, by (repeat (first | (with_reducible assumption) | (with_reducible exact Below.refl _ _) | (with_reducible refine beld_drew ?_) | ((with_reducible refine bset' ?_ ?_); (first | (focus (dsimp only; assumption)) | (focus (simp; done)) | (focus (dsimp only; omega)))) | (with_reducible refine belt_alloc ?_) | ((with_reducible refine zeroed_below' ?_ ?_); (first | (focus (simp; done)) | (focus (dsimp only; omega)))) | (with_reducible refine bt ?_ (by assumption))))⟩
  have t5 : decide (no < 1) = false := decide_eq_false (by omega)
  clear h5
  rcases hc with ⟨h6, rfl⟩ | ⟨h6, hc⟩
  · have t6 : decide (16 < no) = true := decide_eq_true h6
    go_enter Tryz.func85, Tryz.ntmps85
    go_wp2
    go_ret
    exact ⟨rfl, by (repeat (first | (with_reducible assumption) | (with_reducible exact Below.refl _ _) | (with_reducible refine beld_drew ?_) | ((with_reducible refine bset' ?_ ?_); (first | (focus (dsimp only; assumption)) | (focus (simp; done)) | (focus (dsimp only; omega)))) | (with_reducible refine belt_alloc ?_) | ((with_reducible refine zeroed_below' ?_ ?_); (first | (focus (simp; done)) | (focus (dsimp only; omega)))) | (with_reducible refine bt ?_ (by assumption))))⟩
  have t6 : decide (16 < no) = false := decide_eq_false (by omega)
  clear h6
  rcases hc with ⟨rfl, rfl⟩ | ⟨rfl, ⟨rfl, rfl⟩ | ⟨rfl, rfl⟩⟩
  · go_enter Tryz.func85, Tryz.ntmps85
    go_wp2_with (go_at_call 103; (with_reducible refine (GO.out _).mono ?_); rintro e w2 ⟨rfl, h2⟩)
    go_ret
    exact ⟨rfl, by (repeat (first | (with_reducible assumption) | (with_reducible exact Below.refl _ _) | (with_reducible refine beld_drew ?_) | ((with_reducible refine bset' ?_ ?_); (first | (focus (dsimp only; assumption)) | (focus (simp; done)) | (focus (dsimp only; omega)))) | (with_reducible refine belt_alloc ?_) | ((with_reducible refine zeroed_below' ?_ ?_); (first | (focus (simp; done)) | (focus (dsimp only; omega)))) | (with_reducible refine bt ?_ (by assumption))))⟩
  · go_enter Tryz.func85, Tryz.ntmps85
    go_wp2_with (first | (go_at_call 103; (with_reducible refine (GO.out _).mono ?_); rintro e w2 ⟨rfl, h2⟩; (have kb : blk w2 w.heap.size = some #[.int .i64 ti, .int .i64 no, .int .i64 ki, .int .i64 ino, .int .u64 isq, .int .i64 iof, .int .i64 ot] := (by (apply blk_to; (focus (repeat (first | (with_reducible assumption) | (with_reducible apply blk_drew) | (with_reducible apply blk_set) | ((with_reducible apply blk_other'); (first | (focus (dsimp only; assumption)) | (focus (simp; done)) | (focus (dsimp only; omega)))) | ((with_reducible apply blk_alloc_new); (first | (with_reducible rfl) | (focus (simp; done)) | (focus (simp; omega)))) | (with_reducible apply blk_alloc) | ((with_reducible apply blk_below); (with_reducible assumption))))); rfl))); (have nk := kn kb); (have b2 : Below w.heap.size w w2 := (by (repeat (first | (with_reducible assumption) | (with_reducible exact Below.refl _ _) | (with_reducible refine beld_drew ?_) | ((with_reducible refine bset' ?_ ?_); (first | (focus (dsimp only; assumption)) | (focus (simp; done)) | (focus (dsimp only; omega)))) | (with_reducible refine belt_alloc ?_) | ((with_reducible refine zeroed_below' ?_ ?_); (first | (focus (simp; done)) | (focus (dsimp only; omega)))) | (with_reducible refine bt ?_ (by assumption)))))); clear h2) | (go_at_call 61; (with_reducible refine (GU.out _).mono ?_); rintro e w2 ⟨rfl, rfl⟩) | (go_at_call 84; (with_reducible refine (GI.out _).mono ?_); rintro e w3 ⟨rfl, h3⟩))
    go_ret
    exact ⟨rfl, bt b2 h3⟩
  · cases z
    all_goals
      go_enter Tryz.func85, Tryz.ntmps85
      go_wp2_with (first | (go_at_call 103; (with_reducible refine (GO.out _).mono ?_); rintro e w2 ⟨rfl, h2⟩; (have kb : blk w2 w.heap.size = some #[.int .i64 ti, .int .i64 no, .int .i64 ki, .int .i64 ino, .int .u64 isq, .int .i64 iof, .int .i64 ot] := (by (apply blk_to; (focus (repeat (first | (with_reducible assumption) | (with_reducible apply blk_drew) | (with_reducible apply blk_set) | ((with_reducible apply blk_other'); (first | (focus (dsimp only; assumption)) | (focus (simp; done)) | (focus (dsimp only; omega)))) | ((with_reducible apply blk_alloc_new); (first | (with_reducible rfl) | (focus (simp; done)) | (focus (simp; omega)))) | (with_reducible apply blk_alloc) | ((with_reducible apply blk_below); (with_reducible assumption))))); rfl))); (have nk := kn kb); (have b2 : Below w.heap.size w w2 := (by (repeat (first | (with_reducible assumption) | (with_reducible exact Below.refl _ _) | (with_reducible refine beld_drew ?_) | ((with_reducible refine bset' ?_ ?_); (first | (focus (dsimp only; assumption)) | (focus (simp; done)) | (focus (dsimp only; omega)))) | (with_reducible refine belt_alloc ?_) | ((with_reducible refine zeroed_below' ?_ ?_); (first | (focus (simp; done)) | (focus (dsimp only; omega)))) | (with_reducible refine bt ?_ (by assumption)))))); clear h2) | (go_at_call 61; (with_reducible refine (GU.out _).mono ?_); rintro e w2 ⟨rfl, rfl⟩))
      go_ret
      exact ⟨rfl, b2⟩
end Go.Proofs.YthfmkkkdjgkaoaaGreatDoor
namespace Go.Proofs.YthfmkkkdjgkaoaaGreatDoor
open Go.RowKit
set_option maxRecDepth 100000 in
set_option maxHeartbeats 3200000 in
theorem rtcheck_any (a : Option Addr) (cap : Nat) (l : List Oc) (w : World) (hrow : SRow oc 7 w a cap l) :
    Calls Tryz.prog 60 #[.slice a l.length cap] w fun e w' => e = .returned (.tuple #[.int .i64 (trcC l).1, .int .i64 (trcC l).2]) ∧ Below w.heap.size w w' := by
  have HR := Lib.hid hrow
  clear hrow
  by_cases h0 : 5000 < l.length
  · have e : trcC l = (5, 0) := by unfold trcC; rw [if_pos h0]
    rw [e]
    have t0 : decide ((5000 : Int) < (l.length : Int)) = true := decide_eq_true (by omega)
    clear e
    go_enter Tryz.func60, Tryz.ntmps60
    go_wp2
    go_ret2
    exact ⟨rfl, Below.refl _ _⟩
  · have t0 : decide ((5000 : Int) < (l.length : Int)) = false := decide_eq_false (by omega)
    have hcap := HR.out.1
    have hmax := HR.out.2.1
    unfold maxLen at hmax
    go_enter Tryz.func60, Tryz.ntmps60
    go_wp2
    go_loopw [4] (fun i wr => ∃ j : Nat, i = .int .i64 j ∧ j ≤ l.length ∧ Below w.heap.size w wr ∧ Hid (∀ k < j, trcAt l k = 0)) (fun i _ => l.length - (intOf i).toNat)
    case atStart => exact ⟨0, rfl, Nat.zero_le _, Below.refl _ _, Lib.hid (fun k hk => absurd hk (by omega))⟩
    case round =>
      obtain ⟨j, rfl, hj, hB, HM⟩ := hrel
      by_cases hlt : j < l.length
      · have hltz : (j : Int) < (l.length : Int) := by omega
        obtain ⟨b, off, hab, hbl, hcs⟩ := (HR.out.below hB).2.2.2 (by omega)
        subst hab
        obtain ⟨x, hx⟩ : ∃ x, x = l[j] := ⟨_, rfl⟩
        have hr := hcs j hlt
        rw [← hx] at hr
        have HX := Lib.hid hx
        clear hx hcs
        have g1 := rone_any x wr
        have hA : trcAt l j = if oneC x ≠ 0 then oneC x else if 0 < j ∧ x.ti < (l[j - 1]'(by omega)).ti then 19 else 0 := by rw [trcAt_eq hlt, HX.out]
        obtain ⟨v, hv⟩ : ∃ v, oneC x = v := ⟨_, rfl⟩
        obtain ⟨tv, htv⟩ : ∃ v, trcAt l j = v := ⟨_, rfl⟩
        rw [hv] at g1 hA
        rw [htv] at hA
        have G1 := Lib.hid g1
        have HTV := Lib.hid htv
        have HA := Lib.hid hA
        clear hv g1 htv hA
        have bad : tv ≠ 0 → trcC l = (tv, (j : Int)) := fun h => by
          unfold trcC
          rw [if_neg h0, firC_at hlt HM.out (by rw [HTV.out]; exact h), HTV.out]; rfl
        have BAD := Lib.hid bad
        clear bad
        go_upto_region 6 with fail
        refine wp_region_lit ?_
        refine Go.Great.wpList_readTo rfl _ rfl (.slice (some ⟨b, off, none⟩) l.length cap) rfl ?_
        refine Go.Great.wpList_readTo rfl _ rfl (.int .i64 j) rfl ?_
        refine Go.Great.wpList_readTo rfl _ rfl (.pointer (some ⟨b, off + j * 7, none⟩)) (by go_simp) ?_
        refine wpList_load_mid rfl 56 (.tmp 17) rfl b (off + j * 7) rfl (oc x) _ hr Tryz.underlying56 rfl (by kernel_rfl) ?_
        conv => arg 5; simp [Act.put]
        have RR := Lib.hid hr
        clear hr
        by_cases hv0 : v = 0
        · subst hv0
          have q0 : ((0 : Int) != 0) = false := rfl
          have stp : tv = 0 → ∀ k < j + 1, trcAt l k = 0 := fun h k hk => by
            rcases Nat.lt_or_ge k j with h5 | h5
            · exact HM.out k h5
            · obtain rfl : k = j := by omega
              rw [HTV.out]; exact h
          have STP := Lib.hid stp
          clear stp
          by_cases hj0 : j = 0
          · subst hj0
            have htv : tv = 0 := by rw [HA.out]; simp
            have HZ := Lib.hid htv
            clear htv HA
            have j0 : decide ((0 : Int) < ((0 : Nat) : Int)) = false := rfl
            go_upto_region 9 with (go_at_call 85; (with_reducible refine (G1.out).mono ?_); rintro e w2 ⟨rfl, h2⟩; (have hB3 := bt hB h2))
            refine wp_region_in (by kernel_rfl) (by kernel_rfl) ?_
            intro W0_1 hE_1 hN_1
            have bW0_1 : Below w.heap.size w W0_1 := (by rw [hE_1.out]; (repeat (first | (with_reducible assumption) | (with_reducible exact Below.refl _ _) | (with_reducible refine beld_drew ?_) | ((with_reducible refine bset' ?_ ?_); (first | (focus (dsimp only; assumption)) | (focus (simp; done)) | (focus (dsimp only; omega)))) | (with_reducible refine belt_alloc ?_) | ((with_reducible refine zeroed_below' ?_ ?_); (first | (focus (simp; done)) | (focus (dsimp only; omega)))) | (with_reducible refine bt ?_ (by assumption)))))
            clear hE_1
            repeat (go_big_quiet_step ((fail)))
            refine wpQuiet_nil ?_
            rintro _ ⟨x_1, rfl⟩
            have hx_1 : Calm W0_1 x_1.wd := x_1.ok
            have bw3 : Below w.heap.size w x_1.wd := bt bW0_1 hx_1
            clear hx_1 bW0_1 hN_1
            generalize x_1.wd = w3 at *
            go_wp2
            go_roundw
            case rel => exact ⟨0 + 1, by go_num, by omega, by assumption, Lib.hid (STP.out HZ.out)⟩
            case measure => simp [intOf]; omega
          · obtain ⟨k, hjk⟩ : ∃ k, j = k + 1 := ⟨j - 1, by omega⟩
            have j0 : decide ((0 : Int) < (j : Int)) = true := decide_eq_true (by omega)
            have j0' : decide (0 < j) = true := decide_eq_true (by omega)
            have m1 : IntKind.i64.wrap ((j : Int) - 1) = (k : Int) := (IntWalk.i64_in _ (by omega)).trans (by omega)
            have kl : (k : Int) < (l.length : Int) := by omega
            have hkl : k < l.length := by omega
            obtain ⟨p, hp⟩ : ∃ p, p = l[k] := ⟨_, rfl⟩
            have HP := Lib.hid hp
            have hA2 : tv = if x.ti < p.ti then 19 else 0 := by
              rw [HA.out, if_neg (by simp)]
              have e : l[j - 1] = p := by rw [HP.out]; congr 1; omega
              rw [e]
              by_cases h : x.ti < p.ti
              · rw [if_pos ⟨by omega, h⟩, if_pos h]
              · rw [if_neg (by simp [h]), if_neg h]
            have HJ := Lib.hid hjk
            clear HA hp hjk hj0
            obtain ⟨q, hq⟩ : ∃ q, decide (x.ti < p.ti) = q := ⟨_, rfl⟩
            have hv : (q = true ∧ tv = 19) ∨ (q = false ∧ tv = 0) := by
              rw [hA2, ← hq]
              by_cases h : x.ti < p.ti <;> simp [h]
            have hun : undef = Value.tuple #[] := rfl
            clear hA2
            go_upto_region 9 with (go_at_call 85; (with_reducible refine (G1.out).mono ?_); rintro e w2 ⟨rfl, h2⟩; (have hB3 := bt hB h2))
            refine wp_region_in (by kernel_rfl) (by kernel_rfl) ?_
            intro W0 hE hN
            have q2 : Below w.heap.size w W0 := (by rw [hE.out]; exact hB3)
            have n1 : ∀ X : Class (Calm W0), X.wd.cell? ⟨b, off + j * 7, none⟩ = some (.int .i64 x.ti) := fun X => by
              obtain ⟨b', o', e', _, hc⟩ := (HR.out.below (q2.trans (X.ok.mono q2.size))).2.2.2 (by omega)
              cases e'
              have := hc j hlt 0 _ rfl
              rw [HX.out]
              exact this
            have n2 : ∀ X : Class (Calm W0), X.wd.cell? ⟨b, off + k * 7, none⟩ = some (.int .i64 p.ti) := fun X => by
              obtain ⟨b', o', e', _, hc⟩ := (HR.out.below (q2.trans (X.ok.mono q2.size))).2.2.2 (by omega)
              cases e'
              have := hc k hkl 0 _ rfl
              rw [HP.out]
              exact this
            clear hE hB3
            repeat (go_big_quiet_step (fail))
            refine wpQuiet_nil ?_
            rintro _ ⟨x', rfl⟩
            have b3 := bt q2 x'.ok
            obtain ⟨u, hu⟩ : ∃ u, u = x'.wd := ⟨_, rfl⟩
            rw [← hu] at b3 ⊢
            (try simp only [← hun])
            clear hu x' hN q2 n1 n2 hun
            rcases hv with ⟨rfl, rfl⟩ | ⟨rfl, rfl⟩
            · have he := BAD.out (by decide)
              have HE := Lib.hid he
              clear he
              go_wp2
              go_ret2
              exact ⟨by rw [HE.out]; rfl, b3⟩
            · go_wp2
              go_roundw
              case rel => exact ⟨j + 1, by go_num, by omega, b3, Lib.hid (STP.out rfl)⟩
              case measure => simp [intOf]; omega
        · have q0 : (v != 0) = true := by simpa using hv0
          have htv : tv = v := by rw [HA.out, if_pos hv0]
          have he := BAD.out (by rw [htv]; exact hv0)
          rw [htv] at he
          have HE := Lib.hid he
          clear hv0 htv he
          go_wp2_with (go_at_call 85; (with_reducible refine (G1.out).mono ?_); rintro e w2 ⟨rfl, h2⟩)
          go_ret2
          exact ⟨by rw [HE.out]; rfl, bt hB h2⟩
      · obtain rfl : j = l.length := by omega
        have e : trcC l = (0, 0) := by unfold trcC; rw [if_neg h0, firC_none HM.out]; rfl
        have HE := Lib.hid e
        clear e
        go_wp2
        go_ret2
        exact ⟨by rw [HE.out]; rfl, hB⟩
def fndB (b : List Bn) (k : Id3) : Option Bn := b.find? fun x => decide (bid x = k)
theorem fndB_cases (b : List Bn) (k : Id3) : (fndB b k = none ∧ ∀ x ∈ b, bid x ≠ k) ∨ ∃ i, ∃ h : i < b.length, fndB b k = some b[i] ∧ bid b[i] = k ∧ ∀ j (hj : j < i), bid (b[j]'(by omega)) ≠ k := by
  unfold fndB
  cases hf : b.find? (fun x => decide (bid x = k)) with
  | none =>
    left
    refine ⟨rfl, fun x hx => ?_⟩
    have := List.find?_eq_none.1 hf x hx
    simpa using this
  | some y =>
    right
    rw [List.find?_eq_some_iff_getElem] at hf
    obtain ⟨h1, i, hi, h2, h3⟩ := hf
    refine ⟨i, hi, by rw [h2], by rw [h2]; simpa using h1, fun j hj => ?_⟩
    have := h3 j hj
    simpa using this
theorem fndB_mem (b : List Bn) (k : Id3) : (fndB b k).isSome = decide (k ∈ b.map bid) := by
  rcases fndB_cases b k with ⟨h1, h2⟩ | ⟨i, hi, h1, h2, _⟩
  · rw [h1]
    have : k ∉ b.map bid := fun h => by
      obtain ⟨x, hx, e⟩ := List.mem_map.1 h
      exact h2 x hx e
    simp [this]
  · rw [h1]
    have : k ∈ b.map bid := by rw [← h2]; exact List.mem_map_of_mem (List.getElem_mem hi)
    simp [this]
end Go.Proofs.YthfmkkkdjgkaoaaGreatDoor
namespace Go.Proofs.YthfmkkkdjgkaoaaGreatDoor
open Go.RowKit
def zBn : Bn := ⟨0, 0, 0, 0, 0, 0, 0, 0, ⟨#[]⟩⟩
def fndX (b : List Bn) (k : Id3) : Bn := (fndB b k).getD zBn
theorem calm_id {W0 : World} {g o : Nat} {x : Bn} (hg : g < W0.heap.size) (hr : W0.rangeAt g o (bn x)) : (∀ X : Class (Calm W0), X.wd.cell? ⟨g, o, none⟩ = some (.int .i64 x.no)) ∧ (∀ X : Class (Calm W0), X.wd.cell? ⟨g, o + 1, none⟩ = some (.int .u64 x.sq)) ∧ (∀ X : Class (Calm W0), X.wd.cell? ⟨g, o + 2, none⟩ = some (.int .i64 x.of)) :=
  ⟨fun X => (X.ok.cell (p := ⟨g, o, none⟩) hg).trans (by simpa using hr 0 _ rfl), fun X => (X.ok.cell (p := ⟨g, o + 1, none⟩) hg).trans (hr 1 _ rfl), fun X => (X.ok.cell (p := ⟨g, o + 2, none⟩) hg).trans (hr 2 _ rfl)⟩
theorem wpList_assignR {P : Program} {ops : Array Oper} {rest : List Oper} {o : Oper} {a : Act} {w : World} {Q : Exit → Act → World → Prop} (hg : o.guard = none) (x : Operand) (v : Value) (ho : o.op = .assign x) (hv : a.eval x = v) (h : wpList P ops Q rest (a.put o.dst v) w) : wpList P ops Q (o :: rest) a w := by
  refine wpList_plain hg fun K hK => ?_
  unfold Oper.wp
  simp [execOp, ho, hv, Result.andThen]
  exact hK _ _ h
set_option maxRecDepth 100000 in
set_option maxHeartbeats 3200000 in
theorem rfnd_any (a : Option Addr) (cap : Nat) (b : List Bn) (k : Id3) (w : World) (hrow : SRow bn 9 w a cap b) :
    Calls Tryz.prog 59 #[.slice a b.length cap, .agg (idL k).toArray] w fun e w' => e = .returned (.tuple #[.agg (bn (fndX b k)).toArray, .bool (fndB b k).isSome]) ∧ Below w.heap.size w w' := by
  have HR := Lib.hid hrow
  have hcap := hrow.1
  have hmax := hrow.2.1
  unfold maxLen at hmax
  clear hrow
  obtain ⟨k1, k2, k3⟩ := k
  show Calls Tryz.prog 59 #[.slice a b.length cap, .agg #[.int .i64 k1, .int .u64 k2, .int .i64 k3]] w _
  go_enter Tryz.func59, Tryz.ntmps59
  go_wp2
  have hm0 : blk ((w.alloc (.cells #[.int .i64 k1, .int .u64 k2, .int .i64 k3] 52)).alloc (.cells #[.int .i64 0, .int .u64 0, .int .i64 0, .int .i64 0, .int .i64 0, .int .i64 0, .int .i64 0, .int .i64 0, .string ⟨#[]⟩] 54)) w.heap.size = some #[.int .i64 k1, .int .u64 k2, .int .i64 k3] := by (apply blk_to; (focus (repeat (first | (with_reducible assumption) | (with_reducible apply blk_drew) | (with_reducible apply blk_set) | ((with_reducible apply blk_other'); (first | (focus (dsimp only; assumption)) | (focus (simp; done)) | (focus (dsimp only; omega)))) | ((with_reducible apply blk_alloc_new); (first | (with_reducible rfl) | (focus (simp; done)) | (focus (simp; omega)))) | (with_reducible apply blk_alloc) | ((with_reducible apply blk_below); (with_reducible assumption))))); rfl)
  have hm1 : blk ((w.alloc (.cells #[.int .i64 k1, .int .u64 k2, .int .i64 k3] 52)).alloc (.cells #[.int .i64 0, .int .u64 0, .int .i64 0, .int .i64 0, .int .i64 0, .int .i64 0, .int .i64 0, .int .i64 0, .string ⟨#[]⟩] 54)) (w.heap.size + 1) = some #[.int .i64 0, .int .u64 0, .int .i64 0, .int .i64 0, .int .i64 0, .int .i64 0, .int .i64 0, .int .i64 0, .string ⟨#[]⟩] := by (apply blk_to; (focus (repeat (first | (with_reducible assumption) | (with_reducible apply blk_drew) | (with_reducible apply blk_set) | ((with_reducible apply blk_other'); (first | (focus (dsimp only; assumption)) | (focus (simp; done)) | (focus (dsimp only; omega)))) | ((with_reducible apply blk_alloc_new); (first | (with_reducible rfl) | (focus (simp; done)) | (focus (simp; omega)))) | (with_reducible apply blk_alloc) | ((with_reducible apply blk_below); (with_reducible assumption))))); rfl)
  have hmB : Below w.heap.size w ((w.alloc (.cells #[.int .i64 k1, .int .u64 k2, .int .i64 k3] 52)).alloc (.cells #[.int .i64 0, .int .u64 0, .int .i64 0, .int .i64 0, .int .i64 0, .int .i64 0, .int .i64 0, .int .i64 0, .string ⟨#[]⟩] 54)) := by (repeat (first | (with_reducible assumption) | (with_reducible exact Below.refl _ _) | (with_reducible refine beld_drew ?_) | ((with_reducible refine bset' ?_ ?_); (first | (focus (dsimp only; assumption)) | (focus (simp; done)) | (focus (dsimp only; omega)))) | (with_reducible refine belt_alloc ?_) | ((with_reducible refine zeroed_below' ?_ ?_); (first | (focus (simp; done)) | (focus (dsimp only; omega)))) | (with_reducible refine bt ?_ (by assumption))))
  have HM0 := Lib.hid (And.intro hm0 hm1)
  clear hm0 hm1
  go_loopw [6] (fun i wr => ∃ j : Nat, i = .int .i64 j ∧ j ≤ b.length ∧ Below w.heap.size w wr ∧ Hid ((blk wr w.heap.size = some #[.int .i64 k1, .int .u64 k2, .int .i64 k3] ∧ blk wr (w.heap.size + 1) = some #[.int .i64 0, .int .u64 0, .int .i64 0, .int .i64 0, .int .i64 0, .int .i64 0, .int .i64 0, .int .i64 0, .string ⟨#[]⟩]) ∧ ∀ i (h : i < j) (h2 : i < b.length), bid b[i] ≠ (k1, k2, k3))) (fun i _ => b.length - (intOf i).toNat)
  case atStart => exact ⟨0, rfl, Nat.zero_le _, hmB, Lib.hid ⟨HM0.out, fun i h => absurd h (by omega)⟩⟩
  case round =>
    clear hmB HM0
    obtain ⟨j, rfl, hj, hB, HM⟩ := hrel
    by_cases hlt : j < b.length
    · have hltz : (j : Int) < (b.length : Int) := by omega
      obtain ⟨g, off, hab, hbl, hcs⟩ := (HR.out.below hB).2.2.2 (by omega)
      subst hab
      obtain ⟨x, hx⟩ : ∃ x, x = b[j] := ⟨_, rfl⟩
      have hr := hcs j hlt
      rw [← hx] at hr
      have HX := Lib.hid hx
      have E := fun W => run_idKEq (bid x) (k1, k2, k3) W
      obtain ⟨q, hq⟩ : ∃ q, decide (bid x = (k1, k2, k3)) = q := ⟨_, rfl⟩
      rw [hq] at E
      have E : ∀ W, Sem.run Tryz.prog (binOp BinOp.eql 52 (.agg #[.int .i64 x.no, .int .u64 x.sq, .int .i64 x.of]) (.agg #[.int .i64 k1, .int .u64 k2, .int .i64 k3])) W = .ok (.bool q) W := E
      have HQ := Lib.hid hq
      clear hx hcs hq
      go_upto_region 4 with fail
      refine wp_region_in (by kernel_rfl) (by kernel_rfl) ?_
      intro W0 hE hN
      have q0 : blk W0 w.heap.size = some #[.int .i64 k1, .int .u64 k2, .int .i64 k3] := (by rw [hE.out]; exact HM.out.1.1)
      have q1 : blk W0 (w.heap.size + 1) = some #[.int .i64 0, .int .u64 0, .int .i64 0, .int .i64 0, .int .i64 0, .int .i64 0, .int .i64 0, .int .i64 0, .string ⟨#[]⟩] := (by rw [hE.out]; exact HM.out.1.2)
      have q2 : Below w.heap.size w W0 := (by rw [hE.out]; exact hB)
      have q3 : g < W0.heap.size := (by rw [hE.out]; exact hbl)
      have q4 : W0.rangeAt g (off + j * 9) (bn x) := (by rw [hE.out]; exact hr)
      have n0 := calm_kn q0
      obtain ⟨n1, n2, n3⟩ := calm_id q3 q4
      have HM2 := Lib.hid HM.out.2
      clear hE hB hbl hr HM
      repeat (go_big_quiet_step (fail))
      refine wpQuiet_nil ?_
      rintro _ ⟨x', rfl⟩
      have b3 := bt q2 x'.ok
      have kk := And.intro (blk_below x'.ok q0) (blk_below x'.ok q1)
      have hr2 := range_below q3 q4 x'.ok
      obtain ⟨u, hu⟩ : ∃ u, u = x'.wd := ⟨_, rfl⟩
      rw [← hu] at b3 kk hr2 ⊢
      have KK := Lib.hid kk
      clear hu x' hN q0 q1 q2 q3 q4 n0 n1 n2 n3 E kk
      cases q
      · clear hr2
        go_wp2
        go_roundw
        case rel => exact ⟨j + 1, by go_num, by omega, b3, Lib.hid ⟨KK.out, fun i h h2 => by
          rcases Nat.lt_or_ge i j with h4 | h4
          · exact HM2.out i h4 h2
          · obtain rfl : i = j := by omega
            rw [← HX.out]; exact of_decide_eq_false HQ.out⟩⟩
        case measure => simp [intOf]; omega
      · have hf : fndB b (k1, k2, k3) = some x := by
          rcases fndB_cases b (k1, k2, k3) with ⟨_, h2⟩ | ⟨i, hi, h1, h2, h3⟩
          · exact absurd (of_decide_eq_true HQ.out) (by rw [HX.out]; exact h2 _ (List.getElem_mem _))
          · have hij : i = j := by
              rcases Nat.lt_trichotomy i j with h | h | h
              · exact absurd h2 (HM2.out i h hi)
              · exact h
              · exact absurd (of_decide_eq_true HQ.out) (by rw [HX.out]; exact h3 j h)
            subst hij
            rw [h1, HX.out]
        have hX : fndX b (k1, k2, k3) = x := by unfold fndX; rw [hf]; rfl
        have HF := Lib.hid (And.intro hf hX)
        clear hf hX
        go_upto_region 5 with fail
        refine wp_region_lit ?_
        refine Go.Great.wpList_readTo rfl _ rfl (.slice (some ⟨g, off, none⟩) b.length cap) rfl ?_
        refine Go.Great.wpList_readTo rfl _ rfl (.int .i64 j) rfl ?_
        refine Go.Great.wpList_readTo rfl _ rfl (.pointer (some ⟨g, off + j * 9, none⟩)) (by go_simp) ?_
        refine wpList_load_mid rfl 54 (.tmp 22) rfl g (off + j * 9) rfl (bn x) _ hr2 Tryz.underlying54 rfl (by kernel_rfl) ?_
        refine wpList_store_midB 54 (.tmp 4) (.tmp 23) (w.heap.size + 1) 0 #[.int .i64 0, .int .u64 0, .int .i64 0, .int .i64 0, .int .i64 0, .int .i64 0, .int .i64 0, .int .i64 0, .string ⟨#[]⟩] (bn x).toArray (bn x).toArray KK.out.2 rfl rfl rfl rfl (by simp [bn_len]) (by kernel_rfl) (all_oneCell_toArray (bn_one x)) (setMid_all (by simp [bn_len])) ?_
        intro w5 kb5 o5 B5 z5
        refine wpList_assignR rfl _ (.bool true) rfl rfl ?_
        conv => arg 5; simp [Act.put]
        have hB5 : Below w.heap.size w w5 := B5 _ _ (by omega) b3
        have kb6 : blk w5 (w.heap.size + 1) = some #[.int .i64 x.no, .int .u64 x.sq, .int .i64 x.of, .int .i64 x.de, .int .i64 x.pr, .int .i64 x.bo, .int .i64 x.li, .int .i64 x.to, .string x.da] := kb5
        clear o5 B5 z5 kb5 hr2
        go_wp2
        refine ret_blk (b := w.heap.size + 1) (c := #[.int .i64 x.no, .int .u64 x.sq, .int .i64 x.of, .int .i64 x.de, .int .i64 x.pr, .int .i64 x.bo, .int .i64 x.li, .int .i64 x.to, .string x.da]) (v := .tuple #[.agg #[.int .i64 x.no, .int .u64 x.sq, .int .i64 x.of, .int .i64 x.de, .int .i64 x.pr, .int .i64 x.bo, .int .i64 x.li, .int .i64 x.to, .string x.da], .bool true]) kb6 (fun W' hc => by simp [results, Tryz.results59, go_sem, hc]) rfl ⟨by rw [HF.out.1, HF.out.2]; rfl, hB5⟩
    · obtain rfl : j = b.length := by omega
      have hf : fndB b (k1, k2, k3) = none := by
        rcases fndB_cases b (k1, k2, k3) with ⟨h1, _⟩ | ⟨i, hi, h1, h2, h3⟩
        · exact h1
        · exact absurd h2 (HM.out.2 i hi hi)
      have hX : fndX b (k1, k2, k3) = zBn := by unfold fndX; rw [hf]; rfl
      have HF := Lib.hid (And.intro hf hX)
      have kz := HM.out.1.2
      have nz := kn kz
      clear hf hX HM
      go_wp2
      refine ret_blk (b := w.heap.size + 1) (c := #[.int .i64 0, .int .u64 0, .int .i64 0, .int .i64 0, .int .i64 0, .int .i64 0, .int .i64 0, .int .i64 0, .string ⟨#[]⟩]) (v := .tuple #[.agg #[.int .i64 0, .int .u64 0, .int .i64 0, .int .i64 0, .int .i64 0, .int .i64 0, .int .i64 0, .int .i64 0, .string ⟨#[]⟩], .bool false]) (by (apply blk_to; (focus (repeat (first | (with_reducible assumption) | (with_reducible apply blk_drew) | (with_reducible apply blk_set) | ((with_reducible apply blk_other'); (first | (focus (dsimp only; assumption)) | (focus (simp; done)) | (focus (dsimp only; omega)))) | ((with_reducible apply blk_alloc_new); (first | (with_reducible rfl) | (focus (simp; done)) | (focus (simp; omega)))) | (with_reducible apply blk_alloc) | ((with_reducible apply blk_below); (with_reducible assumption))))); rfl)) (fun W' hc => by simp [results, Tryz.results59, go_sem, hc]) rfl ⟨by rw [HF.out.1, HF.out.2]; rfl, by (repeat (first | (with_reducible assumption) | (with_reducible exact Below.refl _ _) | (with_reducible refine beld_drew ?_) | ((with_reducible refine bset' ?_ ?_); (first | (focus (dsimp only; assumption)) | (focus (simp; done)) | (focus (dsimp only; omega)))) | (with_reducible refine belt_alloc ?_) | ((with_reducible refine zeroed_below' ?_ ?_); (first | (focus (simp; done)) | (focus (dsimp only; omega)))) | (with_reducible refine bt ?_ (by assumption))))⟩
end Go.Proofs.YthfmkkkdjgkaoaaGreatDoor
namespace Go.Proofs.YthfmkkkdjgkaoaaGreatDoor
open Go.RowKit
theorem srow_take {α : Type} {enc : α → List Value} {k : Nat} {w : World} {a : Option Addr} {cap : Nat} {l : List α} (h : SRow enc k w a cap l) {i : Nat} (hi : i ≤ l.length) : (l.take i).length = i ∧ SRow enc k w a cap (l.take i) := by
  have e : (l.take i).length = i := by simp; omega
  obtain ⟨h1, h2, h3, h4⟩ := h
  refine ⟨e, by omega, h2, h3, fun h0 => ?_⟩
  obtain ⟨b, off, e1, hlt, hc⟩ := h4 (by omega)
  refine ⟨b, off, e1, hlt, fun j hj => ?_⟩
  have := hc j (by omega)
  rwa [List.getElem_take]
set_option maxRecDepth 100000 in
set_option maxHeartbeats 6400000 in
theorem rrcheck_any (ab al : Option Addr) (cb cl : Nat) (b : List Bn) (l : List Oc) (hd : ∀ x ∈ b, x.da.size ≤ maxLen) (w : World) (hb : SRow bn 9 w ab cb b) (hl : SRow oc 7 w al cl l) :
    Calls Tryz.prog 32 #[.slice ab b.length cb, .slice al l.length cl] w fun e w' => e = .returned (.tuple #[.int .i64 (runC b l).1, .int .i64 (runC b l).2]) ∧ Below w.heap.size w w' := by
  have HR := Lib.hid hb
  have HL := Lib.hid hl
  have HD := Lib.hid hd
  clear hb hl hd
  by_cases h0 : 1000 < b.length
  · have e : runC b l = (5, 0) := by unfold runC; rw [if_pos h0]
    rw [e]
    have t0 : decide ((1000 : Int) < (b.length : Int)) = true := decide_eq_true (by omega)
    clear e
    go_enter Tryz.func32, Tryz.ntmps32
    go_wp2
    go_ret2
    exact ⟨rfl, Below.refl _ _⟩
  · have t0 : decide ((1000 : Int) < (b.length : Int)) = false := decide_eq_false (by omega)
    have hcap := HR.out.1
    have hmax := HR.out.2.1
    have hcapl := HL.out.1
    have hmaxl := HL.out.2.1
    unfold maxLen at hmax hmaxl
    go_enter Tryz.func32, Tryz.ntmps32
    go_wp2
    go_loopw [6] (fun i wr => ∃ j : Nat, i = .int .i64 j ∧ j ≤ b.length ∧ Below w.heap.size w wr ∧ Hid (∀ k < j, bunAt b k = 0)) (fun i _ => b.length - (intOf i).toNat)
    case atStart => exact ⟨0, rfl, Nat.zero_le _, Below.refl _ _, Lib.hid (fun k hk => absurd hk (by omega))⟩
    case round =>
      obtain ⟨j, rfl, hj, hB, HM⟩ := hrel
      by_cases hlt : j < b.length
      · have hltz : (j : Int) < (b.length : Int) := by omega
        obtain ⟨g, off, hab, hbl, hcs⟩ := (HR.out.below hB).2.2.2 (by omega)
        subst hab
        obtain ⟨x, hx⟩ : ∃ x, x = b[j] := ⟨_, rfl⟩
        have hr := hcs j hlt
        rw [← hx] at hr
        have HX := Lib.hid hx
        clear hx hcs
        have g1 : Calls Tryz.prog 58 #[.agg (bn x).toArray] wr fun e w' => e = .returned (.int .i64 (bcode x)) ∧ Below wr.heap.size wr w' := refCheck_any x.no x.sq x.of x.de x.pr x.bo x.li x.to x.da (by rw [HX.out]; exact HD.out _ (List.getElem_mem _)) wr
        have hA : bunAt b j = if bcode x ≠ 0 then bcode x else if bid x ∈ (b.take j).map bid then 9 else 0 := by rw [bunAt_eq hlt, HX.out]
        obtain ⟨v, hv⟩ : ∃ v, bcode x = v := ⟨_, rfl⟩
        obtain ⟨tv, htv⟩ : ∃ v, bunAt b j = v := ⟨_, rfl⟩
        rw [hv] at g1 hA
        rw [htv] at hA
        have G1 := Lib.hid g1
        have HTV := Lib.hid htv
        have HA := Lib.hid hA
        have bad : tv ≠ 0 → runC b l = (tv, (j : Int)) := fun h => by
          unfold runC
          rw [if_neg h0, firC_at hlt HM.out (by rw [HTV.out]; exact h), HTV.out]; rfl
        have BAD := Lib.hid bad
        clear hv g1 htv hA bad
        go_upto_region 6 with fail
        refine wp_region_lit ?_
        refine Go.Great.wpList_readTo rfl _ rfl (.slice (some ⟨g, off, none⟩) b.length cb) rfl ?_
        refine Go.Great.wpList_readTo rfl _ rfl (.int .i64 j) rfl ?_
        refine Go.Great.wpList_readTo rfl _ rfl (.pointer (some ⟨g, off + j * 9, none⟩)) (by go_simp) ?_
        refine wpList_load_mid rfl 54 (.tmp 26) rfl g (off + j * 9) rfl (bn x) _ hr Tryz.underlying54 rfl (by kernel_rfl) ?_
        conv => arg 5; simp [Act.put]
        by_cases hv0 : v = 0
        · subst hv0
          have q0 : ((0 : Int) != 0) = false := rfl
          have gf : ∀ W, Below w.heap.size w W → Calls Tryz.prog 59 #[.slice (some ⟨g, off, none⟩) j cb, .agg #[.int .i64 x.no, .int .u64 x.sq, .int .i64 x.of]] W fun e w' => e = .returned (.tuple #[.agg (bn (fndX (b.take j) (bid x))).toArray, .bool (decide (bid x ∈ (b.take j).map bid))]) ∧ Below W.heap.size W w' := fun W hB => by
            have ht := srow_take (HR.out.below hB) (i := j) (by omega)
            have := rfnd_any (some ⟨g, off, none⟩) cb (b.take j) (bid x) W ht.2
            rw [ht.1, fndB_mem] at this
            exact this
          obtain ⟨y, hy⟩ : ∃ y, fndX (b.take j) (bid x) = y := ⟨_, rfl⟩
          rw [hy] at gf
          have gf : ∀ W, Below w.heap.size w W → Calls Tryz.prog 59 #[.slice (some ⟨g, off, none⟩) j cb, .agg #[.int .i64 x.no, .int .u64 x.sq, .int .i64 x.of]] W fun e w' => e = .returned (.tuple #[.agg #[.int .i64 y.no, .int .u64 y.sq, .int .i64 y.of, .int .i64 y.de, .int .i64 y.pr, .int .i64 y.bo, .int .i64 y.li, .int .i64 y.to, .string y.da], .bool (decide (bid x ∈ (b.take j).map bid))]) ∧ Below W.heap.size W w' := gf
          obtain ⟨q, hq⟩ : ∃ q, decide (bid x ∈ (b.take j).map bid) = q := ⟨_, rfl⟩
          rw [hq] at gf
          have GF := Lib.hid gf
          have HQ := Lib.hid hq
          have RR := Lib.hid (And.intro hbl hr)
          clear gf hy hq hbl hr
          go_upto_region 9 with (go_at_call 58; (with_reducible refine (G1.out).mono ?_); rintro e w2 ⟨rfl, h2⟩; (have hB3 := bt hB h2); (have RR2 := Lib.hid (And.intro (Nat.lt_of_lt_of_le RR.out.1 h2.size) (range_below RR.out.1 RR.out.2 h2))); clear h2)
          have s1 : (j : Int) ≤ (cb : Int) := by omega
          have lg := RR2.out.1
          have c1 : w2.cell? ⟨g, off + j * 9, none⟩ = some (.int .i64 x.no) := by simpa using RR2.out.2 0 _ rfl
          have c2 : w2.cell? ⟨g, off + j * 9 + 1, none⟩ = some (.int .u64 x.sq) := RR2.out.2 1 _ rfl
          have c3 : w2.cell? ⟨g, off + j * 9 + 2, none⟩ = some (.int .i64 x.of) := RR2.out.2 2 _ rfl
          have sB := hB3.size
          have stp : tv = 0 → ∀ k < j + 1, bunAt b k = 0 := fun h k hk => by
            rcases Nat.lt_or_ge k j with h5 | h5
            · exact HM.out k h5
            · obtain rfl : k = j := by omega
              rw [HTV.out]; exact h
          have STP := Lib.hid stp
          clear stp
          cases q
          · have hz : tv = 0 := by rw [HA.out, if_neg (by simp), if_neg (of_decide_eq_false HQ.out)]
            have HZ := Lib.hid hz
            clear hz HA
            go_region_held3 (fun W => W.cell? ⟨g, off + j * 9, none⟩ = some (.int .i64 x.no) ∧ W.cell? ⟨g, off + j * 9 + 1, none⟩ = some (.int .u64 x.sq) ∧ W.cell? ⟨g, off + j * 9 + 2, none⟩ = some (.int .i64 x.of)) (refine ⟨?_, ?_, ?_⟩ <;> (refine (Below.cell (B := w2.heap.size) (w := w2) (by (repeat (first | (with_reducible assumption) | (with_reducible exact Below.refl _ _) | (with_reducible refine beld_drew ?_) | ((with_reducible refine bset' ?_ ?_); (first | (focus (dsimp only; assumption)) | (focus (simp; done)) | (focus (dsimp only; omega)))) | (with_reducible refine belt_alloc ?_) | ((with_reducible refine zeroed_below' ?_ ?_); (first | (focus (simp; done)) | (focus (dsimp only; omega)))) | (with_reducible refine bt ?_ (by assumption))))) lg).trans (by assumption))) ((go_at_call 59; (with_reducible refine (GF.out _ (by (repeat (first | (with_reducible assumption) | (with_reducible exact Below.refl _ _) | (with_reducible refine beld_drew ?_) | ((with_reducible refine bset' ?_ ?_); (first | (focus (dsimp only; assumption)) | (focus (simp; done)) | (focus (dsimp only; omega)))) | (with_reducible refine belt_alloc ?_) | ((with_reducible refine zeroed_below' ?_ ?_); (first | (focus (simp; done)) | (focus (dsimp only; omega)))) | (with_reducible refine bt ?_ (by assumption)))))).mono ?_); rintro e w4 ⟨rfl, h4⟩; (try (have kb4 : blk w4 w2.heap.size = some #[.int .i64 0, .int .u64 0, .int .i64 0, .int .i64 0, .int .i64 0, .int .i64 0, .int .i64 0, .int .i64 0, .string ⟨#[]⟩] := (by (apply blk_to; (focus (repeat (first | (with_reducible assumption) | (with_reducible apply blk_drew) | (with_reducible apply blk_set) | ((with_reducible apply blk_other'); (first | (focus (dsimp only; assumption)) | (focus (simp; done)) | (focus (dsimp only; omega)))) | ((with_reducible apply blk_alloc_new); (first | (with_reducible rfl) | (focus (simp; done)) | (focus (simp; omega)))) | (with_reducible apply blk_alloc) | ((with_reducible apply blk_below); (with_reducible assumption))))); rfl)); have nk4 := kn kb4))))
            all_goals
              go_wp2
              go_roundw
              case rel => exact ⟨j + 1, by go_num, by omega, by (repeat (first | (with_reducible assumption) | (with_reducible exact Below.refl _ _) | (with_reducible refine beld_drew ?_) | ((with_reducible refine bset' ?_ ?_); (first | (focus (dsimp only; assumption)) | (focus (simp; done)) | (focus (dsimp only; omega)))) | (with_reducible refine belt_alloc ?_) | ((with_reducible refine zeroed_below' ?_ ?_); (first | (focus (simp; done)) | (focus (dsimp only; omega)))) | (with_reducible refine bt ?_ (by assumption)))), Lib.hid (STP.out HZ.out)⟩
              case measure => simp [intOf]; omega
          · have hz : tv = 9 := by rw [HA.out, if_neg (by simp), if_pos (of_decide_eq_true HQ.out)]
            have he := BAD.out (by rw [hz]; decide)
            rw [hz] at he
            have HE := Lib.hid he
            clear hz HA he
            go_region_held3 (fun W => W.cell? ⟨g, off + j * 9, none⟩ = some (.int .i64 x.no) ∧ W.cell? ⟨g, off + j * 9 + 1, none⟩ = some (.int .u64 x.sq) ∧ W.cell? ⟨g, off + j * 9 + 2, none⟩ = some (.int .i64 x.of)) (refine ⟨?_, ?_, ?_⟩ <;> (refine (Below.cell (B := w2.heap.size) (w := w2) (by (repeat (first | (with_reducible assumption) | (with_reducible exact Below.refl _ _) | (with_reducible refine beld_drew ?_) | ((with_reducible refine bset' ?_ ?_); (first | (focus (dsimp only; assumption)) | (focus (simp; done)) | (focus (dsimp only; omega)))) | (with_reducible refine belt_alloc ?_) | ((with_reducible refine zeroed_below' ?_ ?_); (first | (focus (simp; done)) | (focus (dsimp only; omega)))) | (with_reducible refine bt ?_ (by assumption))))) lg).trans (by assumption))) ((go_at_call 59; (with_reducible refine (GF.out _ (by (repeat (first | (with_reducible assumption) | (with_reducible exact Below.refl _ _) | (with_reducible refine beld_drew ?_) | ((with_reducible refine bset' ?_ ?_); (first | (focus (dsimp only; assumption)) | (focus (simp; done)) | (focus (dsimp only; omega)))) | (with_reducible refine belt_alloc ?_) | ((with_reducible refine zeroed_below' ?_ ?_); (first | (focus (simp; done)) | (focus (dsimp only; omega)))) | (with_reducible refine bt ?_ (by assumption)))))).mono ?_); rintro e w4 ⟨rfl, h4⟩; (try (have kb4 : blk w4 w2.heap.size = some #[.int .i64 0, .int .u64 0, .int .i64 0, .int .i64 0, .int .i64 0, .int .i64 0, .int .i64 0, .int .i64 0, .string ⟨#[]⟩] := (by (apply blk_to; (focus (repeat (first | (with_reducible assumption) | (with_reducible apply blk_drew) | (with_reducible apply blk_set) | ((with_reducible apply blk_other'); (first | (focus (dsimp only; assumption)) | (focus (simp; done)) | (focus (dsimp only; omega)))) | ((with_reducible apply blk_alloc_new); (first | (with_reducible rfl) | (focus (simp; done)) | (focus (simp; omega)))) | (with_reducible apply blk_alloc) | ((with_reducible apply blk_below); (with_reducible assumption))))); rfl)); have nk4 := kn kb4))))
            all_goals
              go_wp2
              go_ret2
              exact ⟨by rw [HE.out]; rfl, by (repeat (first | (with_reducible assumption) | (with_reducible exact Below.refl _ _) | (with_reducible refine beld_drew ?_) | ((with_reducible refine bset' ?_ ?_); (first | (focus (dsimp only; assumption)) | (focus (simp; done)) | (focus (dsimp only; omega)))) | (with_reducible refine belt_alloc ?_) | ((with_reducible refine zeroed_below' ?_ ?_); (first | (focus (simp; done)) | (focus (dsimp only; omega)))) | (with_reducible refine bt ?_ (by assumption))))⟩
        · have q0 : (v != 0) = true := by simpa using hv0
          have htv : tv = v := by rw [HA.out, if_pos hv0]
          have he := BAD.out (by rw [htv]; exact hv0)
          rw [htv] at he
          have HE := Lib.hid he
          clear hv0 htv he hr
          go_wp2_with (go_at_call 58; (with_reducible refine (G1.out).mono ?_); rintro e w2 ⟨rfl, h2⟩)
          go_ret2
          exact ⟨by rw [HE.out]; rfl, bt hB h2⟩
      · obtain rfl : j = b.length := by omega
        have hnb : firC b.length (bunAt b) = none := firC_none HM.out
        have gt : Calls Tryz.prog 60 #[.slice al l.length cl] wr fun e w' => e = .returned (.tuple #[.int .i64 (trcC l).1, .int .i64 (trcC l).2]) ∧ Below wr.heap.size wr w' := rtcheck_any al cl l wr (HL.out.below hB)
        by_cases ht : (trcC l).1 = 0
        · have hrun : runC b l = (firC l.length (misAt b l)).getD (0, 0) := by
            unfold runC
            rw [if_neg h0, hnb, Option.getD_none, if_neg (by simp [ht])]
          obtain ⟨t2, ht2⟩ : ∃ v, (trcC l).2 = v := ⟨_, rfl⟩
          rw [ht, ht2] at gt
          have GT := Lib.hid gt
          have HRUN := Lib.hid hrun
          have q0 : ((0 : Int) != 0) = false := rfl
          clear gt ht ht2 hrun hnb HM
          go_wp2_with (go_at_call 60; (with_reducible refine (GT.out).mono ?_); rintro e w2 ⟨rfl, h2⟩; (have hB2 := bt hB h2); clear h2)
          clear GT hB
          go_loopw [12] (fun i wr => ∃ j : Nat, i = .int .i64 j ∧ j ≤ l.length ∧ Below w.heap.size w wr ∧ Hid (∀ k < j, misAt b l k = 0)) (fun i _ => l.length - (intOf i).toNat)
          case atStart => exact ⟨0, rfl, Nat.zero_le _, hB2, Lib.hid (fun k hk => absurd hk (by omega))⟩
          case round =>
            clear hB2
            obtain ⟨j, rfl, hj, hB, HM⟩ := hrel
            by_cases hlt : j < l.length
            · have hltz : (j : Int) < (l.length : Int) := by omega
              obtain ⟨g, off, hab, hbl, hcs⟩ := (HL.out.below hB).2.2.2 (by omega)
              subst hab
              obtain ⟨x, hx⟩ : ∃ x, x = l[j] := ⟨_, rfl⟩
              have hr := hcs j hlt
              rw [← hx] at hr
              have HX := Lib.hid hx
              have c2 : wr.cell? ⟨g, off + j * 7 + 2, none⟩ = some (.int .i64 x.ki) := hr 2 _ rfl
              have c3 : wr.cell? ⟨g, off + j * 7 + 3, none⟩ = some (.int .i64 x.ino) := hr 3 _ rfl
              have c4 : wr.cell? ⟨g, off + j * 7 + 3 + 1, none⟩ = some (.int .u64 x.isq) := hr 4 _ rfl
              have c5 : wr.cell? ⟨g, off + j * 7 + 3 + 2, none⟩ = some (.int .i64 x.iof) := hr 5 _ rfl
              have gf : Calls Tryz.prog 59 #[.slice ab b.length cb, .agg #[.int .i64 x.ino, .int .u64 x.isq, .int .i64 x.iof]] wr fun e w' => e = .returned (.tuple #[.agg (bn (fndX b (oid x))).toArray, .bool (decide (oid x ∈ b.map bid))]) ∧ Below wr.heap.size wr w' := by
                have := rfnd_any ab cb b (oid x) wr (HR.out.below hB)
                rw [fndB_mem] at this
                exact this
              obtain ⟨y, hy⟩ : ∃ y, fndX b (oid x) = y := ⟨_, rfl⟩
              rw [hy] at gf
              have gf : Calls Tryz.prog 59 #[.slice ab b.length cb, .agg #[.int .i64 x.ino, .int .u64 x.isq, .int .i64 x.iof]] wr fun e w' => e = .returned (.tuple #[.agg #[.int .i64 y.no, .int .u64 y.sq, .int .i64 y.of, .int .i64 y.de, .int .i64 y.pr, .int .i64 y.bo, .int .i64 y.li, .int .i64 y.to, .string y.da], .bool (decide (oid x ∈ b.map bid))]) ∧ Below wr.heap.size wr w' := gf
              have hA : misAt b l j = if useI x.ki = true ∧ oid x ∉ b.map bid then 8 else 0 := by rw [misAt_eq hlt, HX.out]
              have gu := fun W => usesI_any x.ki W
              obtain ⟨q, hq⟩ : ∃ v, useI x.ki = v := ⟨_, rfl⟩
              obtain ⟨z, hz⟩ : ∃ v, decide (oid x ∈ b.map bid) = v := ⟨_, rfl⟩
              obtain ⟨tv, htv⟩ : ∃ v, misAt b l j = v := ⟨_, rfl⟩
              rw [hq] at gu hA
              rw [hz] at gf
              rw [htv] at hA
              have GU := Lib.hid gu
              have GF := Lib.hid gf
              have HZ := Lib.hid hz
              have HTV := Lib.hid htv
              have HA := Lib.hid hA
              have stp : tv = 0 → ∀ k < j + 1, misAt b l k = 0 := fun h k hk => by
                rcases Nat.lt_or_ge k j with h5 | h5
                · exact HM.out k h5
                · obtain rfl : k = j := by omega
                  rw [HTV.out]; exact h
              have STP := Lib.hid stp
              have sB := hB.size
              have RR := Lib.hid (And.intro hbl hr)
              clear hq gu hx hcs htv hA stp hy hz gf hr
              have hun : undef = Value.tuple #[] := rfl
              by_cases hbad : q = true ∧ z = false
              · obtain ⟨rfl, rfl⟩ := hbad
                have htv : tv = 8 := by rw [HA.out, if_pos ⟨rfl, of_decide_eq_false HZ.out⟩]
                have he : runC b l = (8, (j : Int)) := by
                  rw [HRUN.out, firC_at hlt HM.out (by rw [HTV.out, htv]; decide), HTV.out, htv]; rfl
                have HE := Lib.hid he
                clear htv he HA
                go_wp2_with (first | (go_at_call 59; (with_reducible refine (GF.out).mono ?_); rintro e w2 ⟨rfl, h2⟩; (have d2 := (h2.cell (p := ⟨g, off + j * 7 + 2, none⟩) RR.out.1).trans c2); (have lg2 := Nat.lt_of_lt_of_le RR.out.1 h2.size); (have B2 := bt hB h2); (have sB2 := B2.size)) | (go_at_call 61; (with_reducible refine (GU.out _).mono ?_); rintro e w3 ⟨rfl, rfl⟩))
                (try simp only [← hun])
                go_ret2
                exact ⟨by rw [HE.out]; rfl, by (repeat (first | (with_reducible assumption) | (with_reducible exact Below.refl _ _) | (with_reducible refine beld_drew ?_) | ((with_reducible refine bset' ?_ ?_); (first | (focus (dsimp only; assumption)) | (focus (simp; done)) | (focus (dsimp only; omega)))) | (with_reducible refine belt_alloc ?_) | ((with_reducible refine zeroed_below' ?_ ?_); (first | (focus (simp; done)) | (focus (dsimp only; omega)))) | (with_reducible refine bt ?_ (by assumption))))⟩
              · have htv : tv = 0 := by
                  rw [HA.out, if_neg (fun h => hbad ⟨h.1, ?_⟩)]
                  have h2 := HZ.out
                  cases z
                  · rfl
                  · exact absurd (of_decide_eq_true h2) h.2
                have HTZ := Lib.hid htv
                clear htv HA HTV HRUN
                cases q
                · go_wp2_with (first | (go_at_call 59; (with_reducible refine (GF.out).mono ?_); rintro e w2 ⟨rfl, h2⟩; (have d2 := (h2.cell (p := ⟨g, off + j * 7 + 2, none⟩) RR.out.1).trans c2); (have lg2 := Nat.lt_of_lt_of_le RR.out.1 h2.size); (have B2 := bt hB h2); (have sB2 := B2.size)) | (go_at_call 61; (with_reducible refine (GU.out _).mono ?_); rintro e w3 ⟨rfl, rfl⟩))
                  (try simp only [← hun])
                  clear hun
                  go_roundw
                  case rel => exact ⟨j + 1, by go_num, by omega, by (repeat (first | (with_reducible assumption) | (with_reducible exact Below.refl _ _) | (with_reducible refine beld_drew ?_) | ((with_reducible refine bset' ?_ ?_); (first | (focus (dsimp only; assumption)) | (focus (simp; done)) | (focus (dsimp only; omega)))) | (with_reducible refine belt_alloc ?_) | ((with_reducible refine zeroed_below' ?_ ?_); (first | (focus (simp; done)) | (focus (dsimp only; omega)))) | (with_reducible refine bt ?_ (by assumption)))), Lib.hid (STP.out HTZ.out)⟩
                  case measure => simp [intOf]; omega
                · have hz1 : z = true := by cases z; exact absurd ⟨rfl, rfl⟩ hbad; rfl
                  subst hz1
                  clear hbad
                  go_wp2_with (first | (go_at_call 59; (with_reducible refine (GF.out).mono ?_); rintro e w2 ⟨rfl, h2⟩; (have d2 := (h2.cell (p := ⟨g, off + j * 7 + 2, none⟩) RR.out.1).trans c2); (have lg2 := Nat.lt_of_lt_of_le RR.out.1 h2.size); (have B2 := bt hB h2); (have sB2 := B2.size)) | (go_at_call 61; (with_reducible refine (GU.out _).mono ?_); rintro e w3 ⟨rfl, rfl⟩))
                  (try simp only [← hun])
                  clear hun
                  go_roundw
                  case rel => exact ⟨j + 1, by go_num, by omega, by (repeat (first | (with_reducible assumption) | (with_reducible exact Below.refl _ _) | (with_reducible refine beld_drew ?_) | ((with_reducible refine bset' ?_ ?_); (first | (focus (dsimp only; assumption)) | (focus (simp; done)) | (focus (dsimp only; omega)))) | (with_reducible refine belt_alloc ?_) | ((with_reducible refine zeroed_below' ?_ ?_); (first | (focus (simp; done)) | (focus (dsimp only; omega)))) | (with_reducible refine bt ?_ (by assumption)))), Lib.hid (STP.out HTZ.out)⟩
                  case measure => simp [intOf]; omega
            · obtain rfl : j = l.length := by omega
              have he : runC b l = (0, 0) := by rw [HRUN.out, firC_none HM.out]; rfl
              have HE := Lib.hid he
              clear he
              go_wp2
              go_ret2
              exact ⟨by rw [HE.out]; rfl, hB⟩
        · have he : runC b l = trcC l := by
            unfold runC
            rw [if_neg h0, hnb, Option.getD_none, if_pos ht]
          obtain ⟨t1, t2, htt⟩ : ∃ t1 t2, trcC l = (t1, t2) := ⟨_, _, rfl⟩
          rw [htt] at gt ht he
          have q0 : (t1 != 0) = true := by simpa using ht
          have GT := Lib.hid gt
          have HE := Lib.hid he
          clear gt ht he htt hnb
          go_wp2_with (go_at_call 60; (with_reducible refine (GT.out).mono ?_); rintro e w2 ⟨rfl, h2⟩)
          go_ret2
          exact ⟨by rw [HE.out]; rfl, bt hB h2⟩
end Go.Proofs.YthfmkkkdjgkaoaaGreatDoor
namespace Go.Proofs.YthfmkkkdjgkaoaaGreatDoor
open Go.RowKit
theorem calm_oid {W0 : World} {g o : Nat} {x : Oc} (hg : g < W0.heap.size) (hr : W0.rangeAt g o (oc x)) : (∀ X : Class (Calm W0), X.wd.cell? ⟨g, o + 2, none⟩ = some (.int .i64 x.ki)) ∧ (∀ X : Class (Calm W0), X.wd.cell? ⟨g, o + 3, none⟩ = some (.int .i64 x.ino)) ∧ (∀ X : Class (Calm W0), X.wd.cell? ⟨g, o + 3 + 1, none⟩ = some (.int .u64 x.isq)) ∧ (∀ X : Class (Calm W0), X.wd.cell? ⟨g, o + 3 + 2, none⟩ = some (.int .i64 x.iof)) :=
  ⟨fun X => (X.ok.cell (p := ⟨g, o + 2, none⟩) hg).trans (hr 2 _ rfl), fun X => (X.ok.cell (p := ⟨g, o + 3, none⟩) hg).trans (hr 3 _ rfl), fun X => (X.ok.cell (p := ⟨g, o + 3 + 1, none⟩) hg).trans (hr 4 _ rfl), fun X => (X.ok.cell (p := ⟨g, o + 3 + 2, none⟩) hg).trans (hr 5 _ rfl)⟩
set_option maxRecDepth 100000 in
set_option maxHeartbeats 3200000 in
theorem has_any (a : Option Addr) (cap : Nat) (l : List Oc) (k : Int) (id : Id3) (w : World) (hrow : SRow oc 7 w a cap l) :
    Calls Tryz.prog 37 #[.slice a l.length cap, .int .i64 k, .agg (idL id).toArray] w fun e w' => e = .returned (.bool (hasO l k id)) ∧ Below w.heap.size w w' := by
  have HR := Lib.hid hrow
  have hcap := hrow.1
  have hmax := hrow.2.1
  unfold maxLen at hmax
  clear hrow
  obtain ⟨k1, k2, k3⟩ := id
  show Calls Tryz.prog 37 #[.slice a l.length cap, .int .i64 k, .agg #[.int .i64 k1, .int .u64 k2, .int .i64 k3]] w _
  go_enter Tryz.func37, Tryz.ntmps37
  go_wp2
  have hm0 : blk (w.alloc (.cells #[.int .i64 k1, .int .u64 k2, .int .i64 k3] 52)) w.heap.size = some #[.int .i64 k1, .int .u64 k2, .int .i64 k3] := by (apply blk_to; (focus (repeat (first | (with_reducible assumption) | (with_reducible apply blk_drew) | (with_reducible apply blk_set) | ((with_reducible apply blk_other'); (first | (focus (dsimp only; assumption)) | (focus (simp; done)) | (focus (dsimp only; omega)))) | ((with_reducible apply blk_alloc_new); (first | (with_reducible rfl) | (focus (simp; done)) | (focus (simp; omega)))) | (with_reducible apply blk_alloc) | ((with_reducible apply blk_below); (with_reducible assumption))))); rfl)
  have hmB : Below w.heap.size w (w.alloc (.cells #[.int .i64 k1, .int .u64 k2, .int .i64 k3] 52)) := by (repeat (first | (with_reducible assumption) | (with_reducible exact Below.refl _ _) | (with_reducible refine beld_drew ?_) | ((with_reducible refine bset' ?_ ?_); (first | (focus (dsimp only; assumption)) | (focus (simp; done)) | (focus (dsimp only; omega)))) | (with_reducible refine belt_alloc ?_) | ((with_reducible refine zeroed_below' ?_ ?_); (first | (focus (simp; done)) | (focus (dsimp only; omega)))) | (with_reducible refine bt ?_ (by assumption))))
  go_loopw [7] (fun i wr => ∃ j : Nat, i = .int .i64 j ∧ j ≤ l.length ∧ Below w.heap.size w wr ∧ Hid (blk wr w.heap.size = some #[.int .i64 k1, .int .u64 k2, .int .i64 k3] ∧ hasO (l.take j) k (k1, k2, k3) = false)) (fun i _ => l.length - (intOf i).toNat)
  case atStart => exact ⟨0, rfl, Nat.zero_le _, hmB, Lib.hid ⟨hm0, rfl⟩⟩
  case round =>
    clear hmB hm0
    obtain ⟨j, rfl, hj, hB, HM⟩ := hrel
    by_cases hlt : j < l.length
    · have hltz : (j : Int) < (l.length : Int) := by omega
      obtain ⟨g, off, hab, hbl, hcs⟩ := (HR.out.below hB).2.2.2 (by omega)
      subst hab
      obtain ⟨x, hx⟩ : ∃ x, x = l[j] := ⟨_, rfl⟩
      have hr := hcs j hlt
      rw [← hx] at hr
      have hsn : hasO (l.take (j + 1)) k (k1, k2, k3) = (decide (x.ki = k) && decide (oid x = (k1, k2, k3))) := by
        rw [List.take_succ_eq_append_getElem hlt, hasO_snoc, HM.out.2, ← hx, Bool.false_or]
      have E := fun W => run_idKEq (oid x) (k1, k2, k3) W
      obtain ⟨q, hq⟩ : ∃ q, decide (oid x = (k1, k2, k3)) = q := ⟨_, rfl⟩
      rw [hq] at E hsn
      have E : ∀ W, Sem.run Tryz.prog (binOp BinOp.eql 52 (.agg #[.int .i64 x.ino, .int .u64 x.isq, .int .i64 x.iof]) (.agg #[.int .i64 k1, .int .u64 k2, .int .i64 k3])) W = .ok (.bool q) W := E
      have HSN := Lib.hid hsn
      have hit : decide (x.ki = k) = true → q = true → hasO l k (k1, k2, k3) = true := fun h1 h2 => by
        unfold hasO
        rw [List.any_eq_true]
        refine ⟨x, by rw [hx]; exact List.getElem_mem _, ?_⟩
        rw [h1, hq, h2]; rfl
      have HIT := Lib.hid hit
      clear hx hcs hq hsn hit
      have hun : undef = Value.tuple #[] := rfl
      by_cases hki : x.ki = k
      · have t0 : (x.ki == k) = true := by simp [hki]
        have HK := Lib.hid hki
        clear hki
        go_upto_region 4 with fail
        refine wp_region_in (by kernel_rfl) (by kernel_rfl) ?_
        intro W0 hE hN
        have q0 : blk W0 w.heap.size = some #[.int .i64 k1, .int .u64 k2, .int .i64 k3] := (by rw [hE.out]; exact HM.out.1)
        have q2 : Below w.heap.size w W0 := (by rw [hE.out]; exact hB)
        have q3 : g < W0.heap.size := (by rw [hE.out]; exact hbl)
        have q4 : W0.rangeAt g (off + j * 7) (oc x) := (by rw [hE.out]; exact hr)
        have n0 := calm_kn q0
        obtain ⟨n1, n2, n3, n4⟩ := calm_oid q3 q4
        clear hE hB hbl hr HM
        repeat (go_big_quiet_step (fail))
        refine wpQuiet_nil ?_
        rintro _ ⟨x', rfl⟩
        have b3 := bt q2 x'.ok
        have k5 := blk_below x'.ok q0
        obtain ⟨u, hu⟩ : ∃ u, u = x'.wd := ⟨_, rfl⟩
        rw [← hu] at b3 k5 ⊢
        have KK := Lib.hid k5
        (try simp only [← hun])
        clear hu x' hN q0 q2 q3 q4 n0 n1 n2 n3 n4 E k5 hun
        cases q
        · go_wp2
          go_roundw
          case rel => exact ⟨j + 1, by go_num, by omega, b3, Lib.hid ⟨KK.out, by rw [HSN.out]; simp⟩⟩
          case measure => simp [intOf]; omega
        · have hh := HIT.out (by simp [HK.out]) rfl
          have HH := Lib.hid hh
          clear hh
          go_wp2
          go_ret
          exact ⟨by rw [HH.out]; rfl, b3⟩
      · have t0 : (x.ki == k) = false := by simp [hki]
        have HK := Lib.hid hki
        clear hki
        go_upto_region 4 with fail
        refine wp_region_in (by kernel_rfl) (by kernel_rfl) ?_
        intro W0 hE hN
        have q0 : blk W0 w.heap.size = some #[.int .i64 k1, .int .u64 k2, .int .i64 k3] := (by rw [hE.out]; exact HM.out.1)
        have q2 : Below w.heap.size w W0 := (by rw [hE.out]; exact hB)
        have q3 : g < W0.heap.size := (by rw [hE.out]; exact hbl)
        have q4 : W0.rangeAt g (off + j * 7) (oc x) := (by rw [hE.out]; exact hr)
        have n0 := calm_kn q0
        obtain ⟨n1, n2, n3, n4⟩ := calm_oid q3 q4
        clear hE hB hbl hr HM
        repeat (go_big_quiet_step (fail))
        refine wpQuiet_nil ?_
        rintro _ ⟨x', rfl⟩
        have b3 := bt q2 x'.ok
        have k5 := blk_below x'.ok q0
        obtain ⟨u, hu⟩ : ∃ u, u = x'.wd := ⟨_, rfl⟩
        rw [← hu] at b3 k5 ⊢
        have KK := Lib.hid k5
        (try simp only [← hun])
        clear hu x' hN q0 q2 q3 q4 n0 n1 n2 n3 n4 E k5 hun
        go_wp2
        go_roundw
        case rel => exact ⟨j + 1, by go_num, by omega, b3, Lib.hid ⟨KK.out, by rw [HSN.out, decide_eq_false HK.out]; rfl⟩⟩
        case measure => simp [intOf]; omega
    · obtain rfl : j = l.length := by omega
      have hf : hasO l k (k1, k2, k3) = false := by have := HM.out.2; rwa [List.take_length] at this
      have HF := Lib.hid hf
      clear hf
      go_wp2
      go_ret
      exact ⟨by rw [HF.out]; rfl, hB⟩
set_option maxRecDepth 100000 in
set_option maxHeartbeats 1600000 in
theorem rpchk_any (ab al : Option Addr) (cb cl : Nat) (b : List Bn) (l : List Oc) (prio : Int) (hd : ∀ x ∈ b, x.da.size ≤ maxLen) (w : World) (hb : SRow bn 9 w ab cb b) (hl : SRow oc 7 w al cl l) :
    Calls Tryz.prog 72 #[.slice ab b.length cb, .slice al l.length cl, .int .i64 prio] w fun e w' => e = .returned (.int .i64 (prioC b l prio)) ∧ Below w.heap.size w w' := by
  have g := rrcheck_any ab al cb cl b l hd w hb hl
  have hc := prioC_cases b l prio
  obtain ⟨p, hp⟩ : ∃ p, prioC b l prio = p := ⟨_, rfl⟩
  obtain ⟨r, hr⟩ : ∃ r, runC b l = r := ⟨_, rfl⟩
  obtain ⟨r1, r2⟩ := r
  rw [hp] at hc ⊢
  rw [hr] at hc g
  dsimp only at hc g
  have G := Lib.hid g
  clear g hp hr hd hb hl
  have hun : undef = Value.tuple #[] := rfl
  rcases hc with ⟨h1, rfl⟩ | ⟨rfl, h2, rfl⟩ | ⟨rfl, h2, h3, rfl⟩ | ⟨rfl, h2, h3, rfl⟩
  · have q0 : (p == 0) = false := by simpa using h1
    clear h1
    go_enter Tryz.func72, Tryz.ntmps72
    go_wp2_with (go_at_call 32; (with_reducible refine (G.out).mono ?_); rintro e w2 ⟨rfl, h2⟩)
    go_ret
    exact ⟨rfl, h2⟩
  · have q1 : decide (prio < -1) = true := decide_eq_true h2
    go_enter Tryz.func72, Tryz.ntmps72
    go_wp2_with (go_at_call 32; (with_reducible refine (G.out).mono ?_); rintro e w2 ⟨rfl, h2⟩)
    go_ret
    exact ⟨rfl, by assumption⟩
  · have q1 : decide (prio < -1) = false := decide_eq_false h2
    have q2 : decide (2 < prio) = true := decide_eq_true h3
    go_enter Tryz.func72, Tryz.ntmps72
    go_wp2_with (go_at_call 32; (with_reducible refine (G.out).mono ?_); rintro e w2 ⟨rfl, h2⟩)
    go_ret
    exact ⟨rfl, by assumption⟩
  · have q1 : decide (prio < -1) = false := decide_eq_false h2
    have q2 : decide (2 < prio) = false := decide_eq_false h3
    go_enter Tryz.func72, Tryz.ntmps72
    go_wp2_with (go_at_call 32; (with_reducible refine (G.out).mono ?_); rintro e w2 ⟨rfl, h2⟩)
    go_ret
    exact ⟨rfl, by assumption⟩
end Go.Proofs.YthfmkkkdjgkaoaaGreatDoor
