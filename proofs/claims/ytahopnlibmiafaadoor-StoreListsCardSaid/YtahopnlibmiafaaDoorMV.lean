/- Parts of a proof, printed by a program of mine out of my texts: StOne, StChk, StCheck. -/
import Derived.Great.Walk
import Derived.Test.YtahopnlibmiafaaDoorMB
import Derived.Test.YtahopnlibmiafaaDoorMU
set_option linter.unusedSimpArgs false
set_option linter.unusedVariables false
namespace Go.Proofs.YtahopnlibmiafaaDoor
open Go.RowKit
def itmv (x : Itm) : Value := .agg (itm x).toArray
def BadIt (x : Itm) : Prop :=
  (x.st ≠ 1 ∧ x.st ≠ 2 ∧ itE x = 12) ∨ (x.st = 2 ∧ x.to < 1 ∧ itE x = 2) ∨ (x.st = 2 ∧ ¬ x.to < 1 ∧ 16 < x.to ∧ itE x = 2) ∨ (x.st = 1 ∧ x.to ≠ 0 ∧ itE x = 12) ∨ (x.st = 1 ∧ x.to = 0 ∧ x.off ≠ 0 ∧ itE x = 12)
def OkSt (x : Itm) : Prop := (x.st = 2 ∧ ¬ x.to < 1 ∧ ¬ 16 < x.to) ∨ (x.st = 1 ∧ x.to = 0 ∧ x.off = 0)
theorem itE_cases (x : Itm) : (bcode x.b ≠ 0 ∧ itE x = bcode x.b) ∨ (bcode x.b = 0 ∧ (BadIt x ∨ (OkSt x ∧ ((x.od < 0 ∧ itE x = 2) ∨ (¬ x.od < 0 ∧ 1099511627776 < x.od ∧ itE x = 2) ∨ (¬ x.od < 0 ∧ ¬ 1099511627776 < x.od ∧ itE x = 0))))) := by
  obtain ⟨b, st, to, off, od⟩ := x
  unfold itE BadIt OkSt itE
  dsimp only
  by_cases h : bcode b = 0
  · right
    refine ⟨h, ?_⟩
    simp only [h, ne_eq, not_true_eq_false, if_false]
    by_cases h1 : st = 1
    · subst h1
      simp only [ne_eq, not_true_eq_false, false_and, if_false, show ¬ (1 : Int) = 2 by decide, true_and]
      by_cases h2 : to = 0
      · by_cases h3 : off = 0
        · subst h2; subst h3
          by_cases h4 : od < 0
          · simp [h4]
          · by_cases h5 : 1099511627776 < od <;> simp [h4, h5]
        · simp [h2, h3]
      · simp [h2]
    · by_cases h2 : st = 2
      · subst h2
        simp only [ne_eq, not_true_eq_false, and_false, if_false, true_and, show ¬ (2 : Int) = 1 by decide, false_and, not_false_eq_true]
        by_cases h3 : to < 1
        · simp [h3]
        · by_cases h4 : 16 < to
          · simp [h3, h4]
          · by_cases h5 : od < 0
            · simp [h3, h4, h5]
            · by_cases h6 : 1099511627776 < od <;> simp [h3, h4, h5, h6]
      · simp [h1, h2]
  · exact .inl ⟨h, by simp [h]⟩
theorem rchk_any (b : Bn) (hda : b.da.size ≤ maxLen) (w : World) : Calls Tryd.prog 57 #[.agg (bn b).toArray] w fun e w' => e = .returned (.int .i64 (bcode b)) ∧ Below w.heap.size w w' :=
  refCheck_any b.no b.sq b.of b.de b.pr b.bo b.li b.to b.da hda w
theorem pchk_any (b : Bn) (hda : b.da.size ≤ maxLen) (w : World) : Calls Tryd.prog 54 #[.agg (bn b).toArray] w fun e w' => e = .returned (.int .i64 (bcode b)) ∧ Below w.heap.size w w' :=
  check_any b.no b.sq b.of b.de b.pr b.bo b.li b.to b.da hda w
set_option maxRecDepth 100000 in
set_option maxHeartbeats 3200000 in
theorem one_any (x : Itm) (hda : x.b.da.size ≤ maxLen) (w : World) : Calls Tryd.prog 71 #[itmv x] w fun e w' => e = .returned (.int .i64 (itE x)) ∧ Below w.heap.size w w' := by
  have hc := itE_cases x
  obtain ⟨v, hv⟩ : ∃ v, itE x = v := ⟨_, rfl⟩
  unfold BadIt OkSt at hc
  rw [hv] at hc ⊢
  clear hv
  obtain ⟨b, st, to, off, od⟩ := x
  have gr : ∀ w, Calls Tryd.prog 57 #[.agg #[.int .i64 b.no, .int .u64 b.sq, .int .i64 b.of, .int .i64 b.de, .int .i64 b.pr, .int .i64 b.bo, .int .i64 b.li, .int .i64 b.to, .string b.da]] w fun e w' => e = .returned (.int .i64 (bcode b)) ∧ Below w.heap.size w w' := fun w => rchk_any b hda w
  dsimp only at hc
  obtain ⟨c, hcc⟩ : ∃ c, bcode b = c := ⟨_, rfl⟩
  rw [hcc] at hc gr
  replace gr := Lib.hid gr
  clear hcc
  clear hda
  show Calls Tryd.prog 71 #[.agg #[.int .i64 b.no, .int .u64 b.sq, .int .i64 b.of, .int .i64 b.de, .int .i64 b.pr, .int .i64 b.bo, .int .i64 b.li, .int .i64 b.to, .string b.da, .int .i64 st, .int .i64 to, .int .u64 off, .int .i64 od]] w _
  rcases hc with ⟨h0, rfl⟩ | ⟨rfl, hc⟩
  · have t1 : (v != 0) = true := by simpa using h0
    clear h0
    go_enter Tryd.func71, Tryd.ntmps71
    go_wp2_with (go_at_call 57; (with_reducible refine (gr.out _).mono ?_); rintro e w2 ⟨rfl, h2⟩; (have kb : blk w2 w.heap.size = some #[.int .i64 b.no, .int .u64 b.sq, .int .i64 b.of, .int .i64 b.de, .int .i64 b.pr, .int .i64 b.bo, .int .i64 b.li, .int .i64 b.to, .string b.da, .int .i64 st, .int .i64 to, .int .u64 off, .int .i64 od] := (by (apply blk_to; (focus (repeat (first | (with_reducible assumption) | (with_reducible apply blk_drew) | (with_reducible apply blk_set) | ((with_reducible apply blk_other'); (first | (focus (dsimp only; assumption)) | (focus (simp; done)) | (focus (dsimp only; omega)))) | ((with_reducible apply blk_alloc_new); (first | (with_reducible rfl) | (focus (simp; done)) | (focus (simp; omega)))) | (with_reducible apply blk_alloc) | ((with_reducible apply blk_below); (with_reducible assumption))))); rfl))); (have nk := kn kb); (have b2 : Below w.heap.size w w2 := (by (repeat (first | (with_reducible assumption) | (with_reducible exact Below.refl _ _) | (with_reducible refine beld_drew ?_) | ((with_reducible refine bset' ?_ ?_); (first | (focus (dsimp only; assumption)) | (focus (simp; done)) | (focus (dsimp only; omega)))) | (with_reducible refine belt_alloc ?_) | ((with_reducible refine zeroed_below' ?_ ?_); (first | (focus (simp; done)) | (focus (dsimp only; omega)))) | (with_reducible refine bt ?_ (by assumption)))))); clear h2 kb)
    go_ret
    exact ⟨rfl, b2⟩
  · have t0 : ((0 : Int) != 0) = false := rfl
    rcases hc with (⟨h1, h2, rfl⟩ | ⟨rfl, h2, rfl⟩ | ⟨rfl, h1, h2, rfl⟩ | ⟨rfl, h1, rfl⟩ | ⟨rfl, rfl, h1, rfl⟩) | ⟨⟨rfl, h1, h2⟩ | ⟨rfl, rfl, rfl⟩, ⟨h3, rfl⟩ | ⟨h3, h4, rfl⟩ | ⟨h3, h4, rfl⟩⟩
    · have n1 : (st != 1) = true := by simp; omega
      have n2 : (st != 2) = true := by simp; omega
      go_enter Tryd.func71, Tryd.ntmps71
      go_wp2_with (go_at_call 57; (with_reducible refine (gr.out _).mono ?_); rintro e w2 ⟨rfl, h2⟩; (have kb : blk w2 w.heap.size = some #[.int .i64 b.no, .int .u64 b.sq, .int .i64 b.of, .int .i64 b.de, .int .i64 b.pr, .int .i64 b.bo, .int .i64 b.li, .int .i64 b.to, .string b.da, .int .i64 st, .int .i64 to, .int .u64 off, .int .i64 od] := (by (apply blk_to; (focus (repeat (first | (with_reducible assumption) | (with_reducible apply blk_drew) | (with_reducible apply blk_set) | ((with_reducible apply blk_other'); (first | (focus (dsimp only; assumption)) | (focus (simp; done)) | (focus (dsimp only; omega)))) | ((with_reducible apply blk_alloc_new); (first | (with_reducible rfl) | (focus (simp; done)) | (focus (simp; omega)))) | (with_reducible apply blk_alloc) | ((with_reducible apply blk_below); (with_reducible assumption))))); rfl))); (have nk := kn kb); (have b2 : Below w.heap.size w w2 := (by (repeat (first | (with_reducible assumption) | (with_reducible exact Below.refl _ _) | (with_reducible refine beld_drew ?_) | ((with_reducible refine bset' ?_ ?_); (first | (focus (dsimp only; assumption)) | (focus (simp; done)) | (focus (dsimp only; omega)))) | (with_reducible refine belt_alloc ?_) | ((with_reducible refine zeroed_below' ?_ ?_); (first | (focus (simp; done)) | (focus (dsimp only; omega)))) | (with_reducible refine bt ?_ (by assumption)))))); clear h2 kb)
      go_ret
      exact ⟨rfl, b2⟩
    · have n1 : decide (to < 1) = true := decide_eq_true (by omega)
      go_enter Tryd.func71, Tryd.ntmps71
      go_wp2_with (go_at_call 57; (with_reducible refine (gr.out _).mono ?_); rintro e w2 ⟨rfl, h2⟩; (have kb : blk w2 w.heap.size = some #[.int .i64 b.no, .int .u64 b.sq, .int .i64 b.of, .int .i64 b.de, .int .i64 b.pr, .int .i64 b.bo, .int .i64 b.li, .int .i64 b.to, .string b.da, .int .i64 2, .int .i64 to, .int .u64 off, .int .i64 od] := (by (apply blk_to; (focus (repeat (first | (with_reducible assumption) | (with_reducible apply blk_drew) | (with_reducible apply blk_set) | ((with_reducible apply blk_other'); (first | (focus (dsimp only; assumption)) | (focus (simp; done)) | (focus (dsimp only; omega)))) | ((with_reducible apply blk_alloc_new); (first | (with_reducible rfl) | (focus (simp; done)) | (focus (simp; omega)))) | (with_reducible apply blk_alloc) | ((with_reducible apply blk_below); (with_reducible assumption))))); rfl))); (have nk := kn kb); (have b2 : Below w.heap.size w w2 := (by (repeat (first | (with_reducible assumption) | (with_reducible exact Below.refl _ _) | (with_reducible refine beld_drew ?_) | ((with_reducible refine bset' ?_ ?_); (first | (focus (dsimp only; assumption)) | (focus (simp; done)) | (focus (dsimp only; omega)))) | (with_reducible refine belt_alloc ?_) | ((with_reducible refine zeroed_below' ?_ ?_); (first | (focus (simp; done)) | (focus (dsimp only; omega)))) | (with_reducible refine bt ?_ (by assumption)))))); clear h2 kb)
      go_ret
      exact ⟨rfl, b2⟩
    · have n1 : decide (to < 1) = false := decide_eq_false (by omega)
      have n2 : decide (16 < to) = true := decide_eq_true (by omega)
      go_enter Tryd.func71, Tryd.ntmps71
      go_wp2_with (go_at_call 57; (with_reducible refine (gr.out _).mono ?_); rintro e w2 ⟨rfl, h2⟩; (have kb : blk w2 w.heap.size = some #[.int .i64 b.no, .int .u64 b.sq, .int .i64 b.of, .int .i64 b.de, .int .i64 b.pr, .int .i64 b.bo, .int .i64 b.li, .int .i64 b.to, .string b.da, .int .i64 2, .int .i64 to, .int .u64 off, .int .i64 od] := (by (apply blk_to; (focus (repeat (first | (with_reducible assumption) | (with_reducible apply blk_drew) | (with_reducible apply blk_set) | ((with_reducible apply blk_other'); (first | (focus (dsimp only; assumption)) | (focus (simp; done)) | (focus (dsimp only; omega)))) | ((with_reducible apply blk_alloc_new); (first | (with_reducible rfl) | (focus (simp; done)) | (focus (simp; omega)))) | (with_reducible apply blk_alloc) | ((with_reducible apply blk_below); (with_reducible assumption))))); rfl))); (have nk := kn kb); (have b2 : Below w.heap.size w w2 := (by (repeat (first | (with_reducible assumption) | (with_reducible exact Below.refl _ _) | (with_reducible refine beld_drew ?_) | ((with_reducible refine bset' ?_ ?_); (first | (focus (dsimp only; assumption)) | (focus (simp; done)) | (focus (dsimp only; omega)))) | (with_reducible refine belt_alloc ?_) | ((with_reducible refine zeroed_below' ?_ ?_); (first | (focus (simp; done)) | (focus (dsimp only; omega)))) | (with_reducible refine bt ?_ (by assumption)))))); clear h2 kb)
      go_ret
      exact ⟨rfl, b2⟩
    · have n1 : (to != 0) = true := by simp; omega
      go_enter Tryd.func71, Tryd.ntmps71
      go_wp2_with (go_at_call 57; (with_reducible refine (gr.out _).mono ?_); rintro e w2 ⟨rfl, h2⟩; (have kb : blk w2 w.heap.size = some #[.int .i64 b.no, .int .u64 b.sq, .int .i64 b.of, .int .i64 b.de, .int .i64 b.pr, .int .i64 b.bo, .int .i64 b.li, .int .i64 b.to, .string b.da, .int .i64 1, .int .i64 to, .int .u64 off, .int .i64 od] := (by (apply blk_to; (focus (repeat (first | (with_reducible assumption) | (with_reducible apply blk_drew) | (with_reducible apply blk_set) | ((with_reducible apply blk_other'); (first | (focus (dsimp only; assumption)) | (focus (simp; done)) | (focus (dsimp only; omega)))) | ((with_reducible apply blk_alloc_new); (first | (with_reducible rfl) | (focus (simp; done)) | (focus (simp; omega)))) | (with_reducible apply blk_alloc) | ((with_reducible apply blk_below); (with_reducible assumption))))); rfl))); (have nk := kn kb); (have b2 : Below w.heap.size w w2 := (by (repeat (first | (with_reducible assumption) | (with_reducible exact Below.refl _ _) | (with_reducible refine beld_drew ?_) | ((with_reducible refine bset' ?_ ?_); (first | (focus (dsimp only; assumption)) | (focus (simp; done)) | (focus (dsimp only; omega)))) | (with_reducible refine belt_alloc ?_) | ((with_reducible refine zeroed_below' ?_ ?_); (first | (focus (simp; done)) | (focus (dsimp only; omega)))) | (with_reducible refine bt ?_ (by assumption)))))); clear h2 kb)
      go_ret
      exact ⟨rfl, b2⟩
    · have n1 : (off != 0) = true := by simp; omega
      go_enter Tryd.func71, Tryd.ntmps71
      go_wp2_with (go_at_call 57; (with_reducible refine (gr.out _).mono ?_); rintro e w2 ⟨rfl, h2⟩; (have kb : blk w2 w.heap.size = some #[.int .i64 b.no, .int .u64 b.sq, .int .i64 b.of, .int .i64 b.de, .int .i64 b.pr, .int .i64 b.bo, .int .i64 b.li, .int .i64 b.to, .string b.da, .int .i64 1, .int .i64 0, .int .u64 off, .int .i64 od] := (by (apply blk_to; (focus (repeat (first | (with_reducible assumption) | (with_reducible apply blk_drew) | (with_reducible apply blk_set) | ((with_reducible apply blk_other'); (first | (focus (dsimp only; assumption)) | (focus (simp; done)) | (focus (dsimp only; omega)))) | ((with_reducible apply blk_alloc_new); (first | (with_reducible rfl) | (focus (simp; done)) | (focus (simp; omega)))) | (with_reducible apply blk_alloc) | ((with_reducible apply blk_below); (with_reducible assumption))))); rfl))); (have nk := kn kb); (have b2 : Below w.heap.size w w2 := (by (repeat (first | (with_reducible assumption) | (with_reducible exact Below.refl _ _) | (with_reducible refine beld_drew ?_) | ((with_reducible refine bset' ?_ ?_); (first | (focus (dsimp only; assumption)) | (focus (simp; done)) | (focus (dsimp only; omega)))) | (with_reducible refine belt_alloc ?_) | ((with_reducible refine zeroed_below' ?_ ?_); (first | (focus (simp; done)) | (focus (dsimp only; omega)))) | (with_reducible refine bt ?_ (by assumption)))))); clear h2 kb)
      go_ret
      exact ⟨rfl, b2⟩
    · have n1 : decide (to < 1) = false := decide_eq_false (by omega)
      have n2 : decide (16 < to) = false := decide_eq_false (by omega)
      have n3 : decide (od < 0) = true := decide_eq_true (by omega)
      go_enter Tryd.func71, Tryd.ntmps71
      go_wp2_with (go_at_call 57; (with_reducible refine (gr.out _).mono ?_); rintro e w2 ⟨rfl, h2⟩; (have kb : blk w2 w.heap.size = some #[.int .i64 b.no, .int .u64 b.sq, .int .i64 b.of, .int .i64 b.de, .int .i64 b.pr, .int .i64 b.bo, .int .i64 b.li, .int .i64 b.to, .string b.da, .int .i64 2, .int .i64 to, .int .u64 off, .int .i64 od] := (by (apply blk_to; (focus (repeat (first | (with_reducible assumption) | (with_reducible apply blk_drew) | (with_reducible apply blk_set) | ((with_reducible apply blk_other'); (first | (focus (dsimp only; assumption)) | (focus (simp; done)) | (focus (dsimp only; omega)))) | ((with_reducible apply blk_alloc_new); (first | (with_reducible rfl) | (focus (simp; done)) | (focus (simp; omega)))) | (with_reducible apply blk_alloc) | ((with_reducible apply blk_below); (with_reducible assumption))))); rfl))); (have nk := kn kb); (have b2 : Below w.heap.size w w2 := (by (repeat (first | (with_reducible assumption) | (with_reducible exact Below.refl _ _) | (with_reducible refine beld_drew ?_) | ((with_reducible refine bset' ?_ ?_); (first | (focus (dsimp only; assumption)) | (focus (simp; done)) | (focus (dsimp only; omega)))) | (with_reducible refine belt_alloc ?_) | ((with_reducible refine zeroed_below' ?_ ?_); (first | (focus (simp; done)) | (focus (dsimp only; omega)))) | (with_reducible refine bt ?_ (by assumption)))))); clear h2 kb)
      go_ret
      exact ⟨rfl, b2⟩
    · have n1 : decide (to < 1) = false := decide_eq_false (by omega)
      have n2 : decide (16 < to) = false := decide_eq_false (by omega)
      have n3 : decide (od < 0) = false := decide_eq_false (by omega)
      have n4 : decide (1099511627776 < od) = true := decide_eq_true (by omega)
      go_enter Tryd.func71, Tryd.ntmps71
      go_wp2_with (go_at_call 57; (with_reducible refine (gr.out _).mono ?_); rintro e w2 ⟨rfl, h2⟩; (have kb : blk w2 w.heap.size = some #[.int .i64 b.no, .int .u64 b.sq, .int .i64 b.of, .int .i64 b.de, .int .i64 b.pr, .int .i64 b.bo, .int .i64 b.li, .int .i64 b.to, .string b.da, .int .i64 2, .int .i64 to, .int .u64 off, .int .i64 od] := (by (apply blk_to; (focus (repeat (first | (with_reducible assumption) | (with_reducible apply blk_drew) | (with_reducible apply blk_set) | ((with_reducible apply blk_other'); (first | (focus (dsimp only; assumption)) | (focus (simp; done)) | (focus (dsimp only; omega)))) | ((with_reducible apply blk_alloc_new); (first | (with_reducible rfl) | (focus (simp; done)) | (focus (simp; omega)))) | (with_reducible apply blk_alloc) | ((with_reducible apply blk_below); (with_reducible assumption))))); rfl))); (have nk := kn kb); (have b2 : Below w.heap.size w w2 := (by (repeat (first | (with_reducible assumption) | (with_reducible exact Below.refl _ _) | (with_reducible refine beld_drew ?_) | ((with_reducible refine bset' ?_ ?_); (first | (focus (dsimp only; assumption)) | (focus (simp; done)) | (focus (dsimp only; omega)))) | (with_reducible refine belt_alloc ?_) | ((with_reducible refine zeroed_below' ?_ ?_); (first | (focus (simp; done)) | (focus (dsimp only; omega)))) | (with_reducible refine bt ?_ (by assumption)))))); clear h2 kb)
      go_ret
      exact ⟨rfl, b2⟩
    · have n1 : decide (to < 1) = false := decide_eq_false (by omega)
      have n2 : decide (16 < to) = false := decide_eq_false (by omega)
      have n3 : decide (od < 0) = false := decide_eq_false (by omega)
      have n4 : decide (1099511627776 < od) = false := decide_eq_false (by omega)
      go_enter Tryd.func71, Tryd.ntmps71
      go_wp2_with (go_at_call 57; (with_reducible refine (gr.out _).mono ?_); rintro e w2 ⟨rfl, h2⟩; (have kb : blk w2 w.heap.size = some #[.int .i64 b.no, .int .u64 b.sq, .int .i64 b.of, .int .i64 b.de, .int .i64 b.pr, .int .i64 b.bo, .int .i64 b.li, .int .i64 b.to, .string b.da, .int .i64 2, .int .i64 to, .int .u64 off, .int .i64 od] := (by (apply blk_to; (focus (repeat (first | (with_reducible assumption) | (with_reducible apply blk_drew) | (with_reducible apply blk_set) | ((with_reducible apply blk_other'); (first | (focus (dsimp only; assumption)) | (focus (simp; done)) | (focus (dsimp only; omega)))) | ((with_reducible apply blk_alloc_new); (first | (with_reducible rfl) | (focus (simp; done)) | (focus (simp; omega)))) | (with_reducible apply blk_alloc) | ((with_reducible apply blk_below); (with_reducible assumption))))); rfl))); (have nk := kn kb); (have b2 : Below w.heap.size w w2 := (by (repeat (first | (with_reducible assumption) | (with_reducible exact Below.refl _ _) | (with_reducible refine beld_drew ?_) | ((with_reducible refine bset' ?_ ?_); (first | (focus (dsimp only; assumption)) | (focus (simp; done)) | (focus (dsimp only; omega)))) | (with_reducible refine belt_alloc ?_) | ((with_reducible refine zeroed_below' ?_ ?_); (first | (focus (simp; done)) | (focus (dsimp only; omega)))) | (with_reducible refine bt ?_ (by assumption)))))); clear h2 kb)
      go_ret
      exact ⟨rfl, b2⟩
    · have n3 : decide (od < 0) = true := decide_eq_true (by omega)
      go_enter Tryd.func71, Tryd.ntmps71
      go_wp2_with (go_at_call 57; (with_reducible refine (gr.out _).mono ?_); rintro e w2 ⟨rfl, h2⟩; (have kb : blk w2 w.heap.size = some #[.int .i64 b.no, .int .u64 b.sq, .int .i64 b.of, .int .i64 b.de, .int .i64 b.pr, .int .i64 b.bo, .int .i64 b.li, .int .i64 b.to, .string b.da, .int .i64 1, .int .i64 0, .int .u64 0, .int .i64 od] := (by (apply blk_to; (focus (repeat (first | (with_reducible assumption) | (with_reducible apply blk_drew) | (with_reducible apply blk_set) | ((with_reducible apply blk_other'); (first | (focus (dsimp only; assumption)) | (focus (simp; done)) | (focus (dsimp only; omega)))) | ((with_reducible apply blk_alloc_new); (first | (with_reducible rfl) | (focus (simp; done)) | (focus (simp; omega)))) | (with_reducible apply blk_alloc) | ((with_reducible apply blk_below); (with_reducible assumption))))); rfl))); (have nk := kn kb); (have b2 : Below w.heap.size w w2 := (by (repeat (first | (with_reducible assumption) | (with_reducible exact Below.refl _ _) | (with_reducible refine beld_drew ?_) | ((with_reducible refine bset' ?_ ?_); (first | (focus (dsimp only; assumption)) | (focus (simp; done)) | (focus (dsimp only; omega)))) | (with_reducible refine belt_alloc ?_) | ((with_reducible refine zeroed_below' ?_ ?_); (first | (focus (simp; done)) | (focus (dsimp only; omega)))) | (with_reducible refine bt ?_ (by assumption)))))); clear h2 kb)
      go_ret
      exact ⟨rfl, b2⟩
    · have n3 : decide (od < 0) = false := decide_eq_false (by omega)
      have n4 : decide (1099511627776 < od) = true := decide_eq_true (by omega)
      go_enter Tryd.func71, Tryd.ntmps71
      go_wp2_with (go_at_call 57; (with_reducible refine (gr.out _).mono ?_); rintro e w2 ⟨rfl, h2⟩; (have kb : blk w2 w.heap.size = some #[.int .i64 b.no, .int .u64 b.sq, .int .i64 b.of, .int .i64 b.de, .int .i64 b.pr, .int .i64 b.bo, .int .i64 b.li, .int .i64 b.to, .string b.da, .int .i64 1, .int .i64 0, .int .u64 0, .int .i64 od] := (by (apply blk_to; (focus (repeat (first | (with_reducible assumption) | (with_reducible apply blk_drew) | (with_reducible apply blk_set) | ((with_reducible apply blk_other'); (first | (focus (dsimp only; assumption)) | (focus (simp; done)) | (focus (dsimp only; omega)))) | ((with_reducible apply blk_alloc_new); (first | (with_reducible rfl) | (focus (simp; done)) | (focus (simp; omega)))) | (with_reducible apply blk_alloc) | ((with_reducible apply blk_below); (with_reducible assumption))))); rfl))); (have nk := kn kb); (have b2 : Below w.heap.size w w2 := (by (repeat (first | (with_reducible assumption) | (with_reducible exact Below.refl _ _) | (with_reducible refine beld_drew ?_) | ((with_reducible refine bset' ?_ ?_); (first | (focus (dsimp only; assumption)) | (focus (simp; done)) | (focus (dsimp only; omega)))) | (with_reducible refine belt_alloc ?_) | ((with_reducible refine zeroed_below' ?_ ?_); (first | (focus (simp; done)) | (focus (dsimp only; omega)))) | (with_reducible refine bt ?_ (by assumption)))))); clear h2 kb)
      go_ret
      exact ⟨rfl, b2⟩
    · have n3 : decide (od < 0) = false := decide_eq_false (by omega)
      have n4 : decide (1099511627776 < od) = false := decide_eq_false (by omega)
      go_enter Tryd.func71, Tryd.ntmps71
      go_wp2_with (go_at_call 57; (with_reducible refine (gr.out _).mono ?_); rintro e w2 ⟨rfl, h2⟩; (have kb : blk w2 w.heap.size = some #[.int .i64 b.no, .int .u64 b.sq, .int .i64 b.of, .int .i64 b.de, .int .i64 b.pr, .int .i64 b.bo, .int .i64 b.li, .int .i64 b.to, .string b.da, .int .i64 1, .int .i64 0, .int .u64 0, .int .i64 od] := (by (apply blk_to; (focus (repeat (first | (with_reducible assumption) | (with_reducible apply blk_drew) | (with_reducible apply blk_set) | ((with_reducible apply blk_other'); (first | (focus (dsimp only; assumption)) | (focus (simp; done)) | (focus (dsimp only; omega)))) | ((with_reducible apply blk_alloc_new); (first | (with_reducible rfl) | (focus (simp; done)) | (focus (simp; omega)))) | (with_reducible apply blk_alloc) | ((with_reducible apply blk_below); (with_reducible assumption))))); rfl))); (have nk := kn kb); (have b2 : Below w.heap.size w w2 := (by (repeat (first | (with_reducible assumption) | (with_reducible exact Below.refl _ _) | (with_reducible refine beld_drew ?_) | ((with_reducible refine bset' ?_ ?_); (first | (focus (dsimp only; assumption)) | (focus (simp; done)) | (focus (dsimp only; omega)))) | (with_reducible refine belt_alloc ?_) | ((with_reducible refine zeroed_below' ?_ ?_); (first | (focus (simp; done)) | (focus (dsimp only; omega)))) | (with_reducible refine bt ?_ (by assumption)))))); clear h2 kb)
      go_ret
      exact ⟨rfl, b2⟩
end Go.Proofs.YtahopnlibmiafaaDoor
namespace Go.Proofs.YtahopnlibmiafaaDoor
open Go.RowKit
theorem itF_bad {x : Itm} {p : List Itm} (h : itE x ≠ 0) : itF x p = itE x := by unfold itF; rw [if_pos h]
theorem itF_ok {x : Itm} {p : List Itm} (h : itE x = 0) : (p = [] ∧ itF x p = 0) ∨ ∃ y, p.getLast? = some y ∧ ((x.od ≤ y.od ∧ itF x p = 19) ∨ (¬ x.od ≤ y.od ∧ ((bid x.b ∈ p.map (bid ·.b) ∧ itF x p = 9) ∨ (bid x.b ∉ p.map (bid ·.b) ∧ itF x p = 0)))) := by
  unfold itF
  rw [if_neg (by simp [h])]
  cases hp : p.getLast? with
  | none =>
    rw [List.getLast?_eq_none_iff] at hp
    subst hp
    exact .inl ⟨rfl, by simp⟩
  | some y =>
    refine .inr ⟨y, rfl, ?_⟩
    by_cases h1 : x.od ≤ y.od
    · exact .inl ⟨h1, by simp [h1]⟩
    · refine .inr ⟨h1, ?_⟩
      by_cases h2 : bid x.b ∈ p.map (bid ·.b)
      · exact .inl ⟨h2, by rw [if_neg (by simpa using h1), if_pos h2]⟩
      · exact .inr ⟨h2, by rw [if_neg (by simpa using h1), if_neg h2]⟩
theorem getLast_pos {p : List Itm} {y : Itm} (h : p.getLast? = some y) : 0 < p.length := by
  cases p with
  | nil => simp at h
  | cons x p => simp
theorem srow_last {w : World} {a : Option Addr} {cap : Nat} {p : List Itm} (h : SRow itm 13 w a cap p) {y : Itm} (hy : p.getLast? = some y) {k : Nat} (hk : k + 1 = p.length) : ∃ b o, a = some ⟨b, o, none⟩ ∧ b < w.heap.size ∧ w.cell? ⟨b, o + k * 13 + 12, none⟩ = some (.int .i64 y.od) := by
  obtain ⟨b, o, e, hlt, hc⟩ := h.2.2.2 (by omega)
  refine ⟨b, o, e, hlt, ?_⟩
  have h1 := hc k (by omega)
  have h2 : p[k]'(by omega) = y := by
    rw [List.getLast?_eq_getElem?, show p.length - 1 = k by omega, List.getElem?_eq_getElem (by omega)] at hy
    exact Option.some.inj hy
  rw [h2] at h1
  exact h1 12 _ rfl
set_option maxRecDepth 100000 in
set_option maxHeartbeats 6400000 in
theorem scheck_any (x : Itm) (p : List Itm) (a : Option Addr) (cap m : Nat) (hda : x.b.da.size ≤ maxLen) (hp : p.length ≤ 1000) (w : World) (hrow : SRow itm 13 w a cap p) (hm : mapAt w m (idsM p)) :
    Calls Tryd.prog 70 #[itmv x, .slice a p.length cap, .map (some m)] w fun e w' => e = .returned (.int .i64 (itF x p)) ∧ Below w.heap.size w w' := by
  have HR := Lib.hid hrow; have HM := Lib.hid hm
  clear hrow hm
  have hc := itE_cases x
  have hb := itF_bad (x := x) (p := p)
  have hF := itF_ok (x := x) (p := p)
  obtain ⟨f, hf⟩ : ∃ v, itF x p = v := ⟨_, rfl⟩
  rw [hf] at hb hF ⊢
  clear hf
  obtain ⟨n, hn⟩ : ∃ n, n = p.length := ⟨_, rfl⟩
  rw [← hn] at hp ⊢
  have HN := Lib.hid hn; have HK := Lib.hid hp
  clear hn hp
  obtain ⟨b, st, to, off, od⟩ := x
  obtain ⟨v, hv⟩ : ∃ v, itE ⟨b, st, to, off, od⟩ = v := ⟨_, rfl⟩
  unfold BadIt OkSt at hc
  rw [hv] at hc hb hF
  clear hv
  have gr : ∀ w, Calls Tryd.prog 54 #[.agg #[.int .i64 b.no, .int .u64 b.sq, .int .i64 b.of, .int .i64 b.de, .int .i64 b.pr, .int .i64 b.bo, .int .i64 b.li, .int .i64 b.to, .string b.da]] w fun e w' => e = .returned (.int .i64 (bcode b)) ∧ Below w.heap.size w w' := fun w => pchk_any b hda w
  dsimp only at hc hF
  obtain ⟨c, hcc⟩ : ∃ c, bcode b = c := ⟨_, rfl⟩
  rw [hcc] at hc gr
  replace gr := Lib.hid gr
  clear hcc
  clear hda
  have HF := Lib.hid hF
  clear hF
  show Calls Tryd.prog 70 #[.agg #[.int .i64 b.no, .int .u64 b.sq, .int .i64 b.of, .int .i64 b.de, .int .i64 b.pr, .int .i64 b.bo, .int .i64 b.li, .int .i64 b.to, .string b.da, .int .i64 st, .int .i64 to, .int .u64 off, .int .i64 od], _, _] w _
  rcases hc with ⟨h0, rfl⟩ | ⟨rfl, hc⟩
  · have t1 : (v != 0) = true := by simpa using h0
    obtain rfl := hb h0
    clear h0
    go_enter Tryd.func70, Tryd.ntmps70
    go_wp2_with (go_at_call 54; (with_reducible refine (gr.out _).mono ?_); rintro e w2 ⟨rfl, h2⟩; (have kb : blk w2 w.heap.size = some #[.int .i64 b.no, .int .u64 b.sq, .int .i64 b.of, .int .i64 b.de, .int .i64 b.pr, .int .i64 b.bo, .int .i64 b.li, .int .i64 b.to, .string b.da, .int .i64 st, .int .i64 to, .int .u64 off, .int .i64 od] := (by (apply blk_to; (focus (repeat (first | (with_reducible assumption) | (with_reducible apply blk_drew) | (with_reducible apply blk_set) | ((with_reducible apply blk_other'); (first | (focus (dsimp only; assumption)) | (focus (simp; done)) | (focus (dsimp only; omega)))) | ((with_reducible apply blk_alloc_new); (first | (with_reducible rfl) | (focus (simp; done)) | (focus (simp; omega)))) | (with_reducible apply blk_alloc) | ((with_reducible apply blk_below); (with_reducible assumption))))); rfl))); (have nk := kn kb); (have b2 : Below w.heap.size w w2 := (by (repeat (first | (with_reducible assumption) | (with_reducible exact Below.refl _ _) | (with_reducible refine beld_drew ?_) | ((with_reducible refine bset' ?_ ?_); (first | (focus (dsimp only; assumption)) | (focus (simp; done)) | (focus (dsimp only; omega)))) | (with_reducible refine belt_alloc ?_) | ((with_reducible refine zeroed_below' ?_ ?_); (first | (focus (simp; done)) | (focus (dsimp only; omega)))) | (with_reducible refine bt ?_ (by assumption)))))); clear h2 kb)
    go_ret
    exact ⟨rfl, b2⟩
  · have t0 : ((0 : Int) != 0) = false := rfl
    rcases hc with (⟨h1, h2, rfl⟩ | ⟨rfl, h2, rfl⟩ | ⟨rfl, h1, h2, rfl⟩ | ⟨rfl, h1, rfl⟩ | ⟨rfl, rfl, h1, rfl⟩) | ⟨⟨rfl, h1, h2⟩ | ⟨rfl, rfl, rfl⟩, ⟨h3, rfl⟩ | ⟨h3, h4, rfl⟩ | ⟨h3, h4, rfl⟩⟩
    · obtain rfl := hb (by decide)
      have n1 : (st != 1) = true := by simp; omega
      have n2 : (st != 2) = true := by simp; omega
      go_enter Tryd.func70, Tryd.ntmps70
      go_wp2_with (go_at_call 54; (with_reducible refine (gr.out _).mono ?_); rintro e w2 ⟨rfl, h2⟩; (have kb : blk w2 w.heap.size = some #[.int .i64 b.no, .int .u64 b.sq, .int .i64 b.of, .int .i64 b.de, .int .i64 b.pr, .int .i64 b.bo, .int .i64 b.li, .int .i64 b.to, .string b.da, .int .i64 st, .int .i64 to, .int .u64 off, .int .i64 od] := (by (apply blk_to; (focus (repeat (first | (with_reducible assumption) | (with_reducible apply blk_drew) | (with_reducible apply blk_set) | ((with_reducible apply blk_other'); (first | (focus (dsimp only; assumption)) | (focus (simp; done)) | (focus (dsimp only; omega)))) | ((with_reducible apply blk_alloc_new); (first | (with_reducible rfl) | (focus (simp; done)) | (focus (simp; omega)))) | (with_reducible apply blk_alloc) | ((with_reducible apply blk_below); (with_reducible assumption))))); rfl))); (have nk := kn kb); (have b2 : Below w.heap.size w w2 := (by (repeat (first | (with_reducible assumption) | (with_reducible exact Below.refl _ _) | (with_reducible refine beld_drew ?_) | ((with_reducible refine bset' ?_ ?_); (first | (focus (dsimp only; assumption)) | (focus (simp; done)) | (focus (dsimp only; omega)))) | (with_reducible refine belt_alloc ?_) | ((with_reducible refine zeroed_below' ?_ ?_); (first | (focus (simp; done)) | (focus (dsimp only; omega)))) | (with_reducible refine bt ?_ (by assumption)))))); clear h2 kb)
      go_ret
      exact ⟨rfl, b2⟩
    · obtain rfl := hb (by decide)
      have n1 : decide (to < 1) = true := decide_eq_true (by omega)
      go_enter Tryd.func70, Tryd.ntmps70
      go_wp2_with (go_at_call 54; (with_reducible refine (gr.out _).mono ?_); rintro e w2 ⟨rfl, h2⟩; (have kb : blk w2 w.heap.size = some #[.int .i64 b.no, .int .u64 b.sq, .int .i64 b.of, .int .i64 b.de, .int .i64 b.pr, .int .i64 b.bo, .int .i64 b.li, .int .i64 b.to, .string b.da, .int .i64 2, .int .i64 to, .int .u64 off, .int .i64 od] := (by (apply blk_to; (focus (repeat (first | (with_reducible assumption) | (with_reducible apply blk_drew) | (with_reducible apply blk_set) | ((with_reducible apply blk_other'); (first | (focus (dsimp only; assumption)) | (focus (simp; done)) | (focus (dsimp only; omega)))) | ((with_reducible apply blk_alloc_new); (first | (with_reducible rfl) | (focus (simp; done)) | (focus (simp; omega)))) | (with_reducible apply blk_alloc) | ((with_reducible apply blk_below); (with_reducible assumption))))); rfl))); (have nk := kn kb); (have b2 : Below w.heap.size w w2 := (by (repeat (first | (with_reducible assumption) | (with_reducible exact Below.refl _ _) | (with_reducible refine beld_drew ?_) | ((with_reducible refine bset' ?_ ?_); (first | (focus (dsimp only; assumption)) | (focus (simp; done)) | (focus (dsimp only; omega)))) | (with_reducible refine belt_alloc ?_) | ((with_reducible refine zeroed_below' ?_ ?_); (first | (focus (simp; done)) | (focus (dsimp only; omega)))) | (with_reducible refine bt ?_ (by assumption)))))); clear h2 kb)
      go_ret
      exact ⟨rfl, b2⟩
    · obtain rfl := hb (by decide)
      have n1 : decide (to < 1) = false := decide_eq_false (by omega)
      have n2 : decide (16 < to) = true := decide_eq_true (by omega)
      go_enter Tryd.func70, Tryd.ntmps70
      go_wp2_with (go_at_call 54; (with_reducible refine (gr.out _).mono ?_); rintro e w2 ⟨rfl, h2⟩; (have kb : blk w2 w.heap.size = some #[.int .i64 b.no, .int .u64 b.sq, .int .i64 b.of, .int .i64 b.de, .int .i64 b.pr, .int .i64 b.bo, .int .i64 b.li, .int .i64 b.to, .string b.da, .int .i64 2, .int .i64 to, .int .u64 off, .int .i64 od] := (by (apply blk_to; (focus (repeat (first | (with_reducible assumption) | (with_reducible apply blk_drew) | (with_reducible apply blk_set) | ((with_reducible apply blk_other'); (first | (focus (dsimp only; assumption)) | (focus (simp; done)) | (focus (dsimp only; omega)))) | ((with_reducible apply blk_alloc_new); (first | (with_reducible rfl) | (focus (simp; done)) | (focus (simp; omega)))) | (with_reducible apply blk_alloc) | ((with_reducible apply blk_below); (with_reducible assumption))))); rfl))); (have nk := kn kb); (have b2 : Below w.heap.size w w2 := (by (repeat (first | (with_reducible assumption) | (with_reducible exact Below.refl _ _) | (with_reducible refine beld_drew ?_) | ((with_reducible refine bset' ?_ ?_); (first | (focus (dsimp only; assumption)) | (focus (simp; done)) | (focus (dsimp only; omega)))) | (with_reducible refine belt_alloc ?_) | ((with_reducible refine zeroed_below' ?_ ?_); (first | (focus (simp; done)) | (focus (dsimp only; omega)))) | (with_reducible refine bt ?_ (by assumption)))))); clear h2 kb)
      go_ret
      exact ⟨rfl, b2⟩
    · obtain rfl := hb (by decide)
      have n1 : (to != 0) = true := by simp; omega
      go_enter Tryd.func70, Tryd.ntmps70
      go_wp2_with (go_at_call 54; (with_reducible refine (gr.out _).mono ?_); rintro e w2 ⟨rfl, h2⟩; (have kb : blk w2 w.heap.size = some #[.int .i64 b.no, .int .u64 b.sq, .int .i64 b.of, .int .i64 b.de, .int .i64 b.pr, .int .i64 b.bo, .int .i64 b.li, .int .i64 b.to, .string b.da, .int .i64 1, .int .i64 to, .int .u64 off, .int .i64 od] := (by (apply blk_to; (focus (repeat (first | (with_reducible assumption) | (with_reducible apply blk_drew) | (with_reducible apply blk_set) | ((with_reducible apply blk_other'); (first | (focus (dsimp only; assumption)) | (focus (simp; done)) | (focus (dsimp only; omega)))) | ((with_reducible apply blk_alloc_new); (first | (with_reducible rfl) | (focus (simp; done)) | (focus (simp; omega)))) | (with_reducible apply blk_alloc) | ((with_reducible apply blk_below); (with_reducible assumption))))); rfl))); (have nk := kn kb); (have b2 : Below w.heap.size w w2 := (by (repeat (first | (with_reducible assumption) | (with_reducible exact Below.refl _ _) | (with_reducible refine beld_drew ?_) | ((with_reducible refine bset' ?_ ?_); (first | (focus (dsimp only; assumption)) | (focus (simp; done)) | (focus (dsimp only; omega)))) | (with_reducible refine belt_alloc ?_) | ((with_reducible refine zeroed_below' ?_ ?_); (first | (focus (simp; done)) | (focus (dsimp only; omega)))) | (with_reducible refine bt ?_ (by assumption)))))); clear h2 kb)
      go_ret
      exact ⟨rfl, b2⟩
    · obtain rfl := hb (by decide)
      have n1 : (off != 0) = true := by simp; omega
      go_enter Tryd.func70, Tryd.ntmps70
      go_wp2_with (go_at_call 54; (with_reducible refine (gr.out _).mono ?_); rintro e w2 ⟨rfl, h2⟩; (have kb : blk w2 w.heap.size = some #[.int .i64 b.no, .int .u64 b.sq, .int .i64 b.of, .int .i64 b.de, .int .i64 b.pr, .int .i64 b.bo, .int .i64 b.li, .int .i64 b.to, .string b.da, .int .i64 1, .int .i64 0, .int .u64 off, .int .i64 od] := (by (apply blk_to; (focus (repeat (first | (with_reducible assumption) | (with_reducible apply blk_drew) | (with_reducible apply blk_set) | ((with_reducible apply blk_other'); (first | (focus (dsimp only; assumption)) | (focus (simp; done)) | (focus (dsimp only; omega)))) | ((with_reducible apply blk_alloc_new); (first | (with_reducible rfl) | (focus (simp; done)) | (focus (simp; omega)))) | (with_reducible apply blk_alloc) | ((with_reducible apply blk_below); (with_reducible assumption))))); rfl))); (have nk := kn kb); (have b2 : Below w.heap.size w w2 := (by (repeat (first | (with_reducible assumption) | (with_reducible exact Below.refl _ _) | (with_reducible refine beld_drew ?_) | ((with_reducible refine bset' ?_ ?_); (first | (focus (dsimp only; assumption)) | (focus (simp; done)) | (focus (dsimp only; omega)))) | (with_reducible refine belt_alloc ?_) | ((with_reducible refine zeroed_below' ?_ ?_); (first | (focus (simp; done)) | (focus (dsimp only; omega)))) | (with_reducible refine bt ?_ (by assumption)))))); clear h2 kb)
      go_ret
      exact ⟨rfl, b2⟩
    · obtain rfl := hb (by decide)
      have n1 : decide (to < 1) = false := decide_eq_false (by omega)
      have n2 : decide (16 < to) = false := decide_eq_false (by omega)
      have n3 : decide (od < 0) = true := decide_eq_true (by omega)
      go_enter Tryd.func70, Tryd.ntmps70
      go_wp2_with (go_at_call 54; (with_reducible refine (gr.out _).mono ?_); rintro e w2 ⟨rfl, h2⟩; (have kb : blk w2 w.heap.size = some #[.int .i64 b.no, .int .u64 b.sq, .int .i64 b.of, .int .i64 b.de, .int .i64 b.pr, .int .i64 b.bo, .int .i64 b.li, .int .i64 b.to, .string b.da, .int .i64 2, .int .i64 to, .int .u64 off, .int .i64 od] := (by (apply blk_to; (focus (repeat (first | (with_reducible assumption) | (with_reducible apply blk_drew) | (with_reducible apply blk_set) | ((with_reducible apply blk_other'); (first | (focus (dsimp only; assumption)) | (focus (simp; done)) | (focus (dsimp only; omega)))) | ((with_reducible apply blk_alloc_new); (first | (with_reducible rfl) | (focus (simp; done)) | (focus (simp; omega)))) | (with_reducible apply blk_alloc) | ((with_reducible apply blk_below); (with_reducible assumption))))); rfl))); (have nk := kn kb); (have b2 : Below w.heap.size w w2 := (by (repeat (first | (with_reducible assumption) | (with_reducible exact Below.refl _ _) | (with_reducible refine beld_drew ?_) | ((with_reducible refine bset' ?_ ?_); (first | (focus (dsimp only; assumption)) | (focus (simp; done)) | (focus (dsimp only; omega)))) | (with_reducible refine belt_alloc ?_) | ((with_reducible refine zeroed_below' ?_ ?_); (first | (focus (simp; done)) | (focus (dsimp only; omega)))) | (with_reducible refine bt ?_ (by assumption)))))); clear h2 kb)
      go_ret
      exact ⟨rfl, b2⟩
    · obtain rfl := hb (by decide)
      have n1 : decide (to < 1) = false := decide_eq_false (by omega)
      have n2 : decide (16 < to) = false := decide_eq_false (by omega)
      have n3 : decide (od < 0) = false := decide_eq_false (by omega)
      have n4 : decide (1099511627776 < od) = true := decide_eq_true (by omega)
      go_enter Tryd.func70, Tryd.ntmps70
      go_wp2_with (go_at_call 54; (with_reducible refine (gr.out _).mono ?_); rintro e w2 ⟨rfl, h2⟩; (have kb : blk w2 w.heap.size = some #[.int .i64 b.no, .int .u64 b.sq, .int .i64 b.of, .int .i64 b.de, .int .i64 b.pr, .int .i64 b.bo, .int .i64 b.li, .int .i64 b.to, .string b.da, .int .i64 2, .int .i64 to, .int .u64 off, .int .i64 od] := (by (apply blk_to; (focus (repeat (first | (with_reducible assumption) | (with_reducible apply blk_drew) | (with_reducible apply blk_set) | ((with_reducible apply blk_other'); (first | (focus (dsimp only; assumption)) | (focus (simp; done)) | (focus (dsimp only; omega)))) | ((with_reducible apply blk_alloc_new); (first | (with_reducible rfl) | (focus (simp; done)) | (focus (simp; omega)))) | (with_reducible apply blk_alloc) | ((with_reducible apply blk_below); (with_reducible assumption))))); rfl))); (have nk := kn kb); (have b2 : Below w.heap.size w w2 := (by (repeat (first | (with_reducible assumption) | (with_reducible exact Below.refl _ _) | (with_reducible refine beld_drew ?_) | ((with_reducible refine bset' ?_ ?_); (first | (focus (dsimp only; assumption)) | (focus (simp; done)) | (focus (dsimp only; omega)))) | (with_reducible refine belt_alloc ?_) | ((with_reducible refine zeroed_below' ?_ ?_); (first | (focus (simp; done)) | (focus (dsimp only; omega)))) | (with_reducible refine bt ?_ (by assumption)))))); clear h2 kb)
      go_ret
      exact ⟨rfl, b2⟩
    · have n1 : decide (to < 1) = false := decide_eq_false (by omega)
      have n2 : decide (16 < to) = false := decide_eq_false (by omega)
      have n3 : decide (od < 0) = false := decide_eq_false (by omega)
      have n4 : decide (1099511627776 < od) = false := decide_eq_false (by omega)
      go_enter Tryd.func70, Tryd.ntmps70
      go_wp2_with (go_at_call 54; (with_reducible refine (gr.out _).mono ?_); rintro e w2 ⟨rfl, h2⟩; (have kb : blk w2 w.heap.size = some #[.int .i64 b.no, .int .u64 b.sq, .int .i64 b.of, .int .i64 b.de, .int .i64 b.pr, .int .i64 b.bo, .int .i64 b.li, .int .i64 b.to, .string b.da, .int .i64 2, .int .i64 to, .int .u64 off, .int .i64 od] := (by (apply blk_to; (focus (repeat (first | (with_reducible assumption) | (with_reducible apply blk_drew) | (with_reducible apply blk_set) | ((with_reducible apply blk_other'); (first | (focus (dsimp only; assumption)) | (focus (simp; done)) | (focus (dsimp only; omega)))) | ((with_reducible apply blk_alloc_new); (first | (with_reducible rfl) | (focus (simp; done)) | (focus (simp; omega)))) | (with_reducible apply blk_alloc) | ((with_reducible apply blk_below); (with_reducible assumption))))); rfl))); (have nk := kn kb); (have b2 : Below w.heap.size w w2 := (by (repeat (first | (with_reducible assumption) | (with_reducible exact Below.refl _ _) | (with_reducible refine beld_drew ?_) | ((with_reducible refine bset' ?_ ?_); (first | (focus (dsimp only; assumption)) | (focus (simp; done)) | (focus (dsimp only; omega)))) | (with_reducible refine belt_alloc ?_) | ((with_reducible refine zeroed_below' ?_ ?_); (first | (focus (simp; done)) | (focus (dsimp only; omega)))) | (with_reducible refine bt ?_ (by assumption)))))); clear h2)
      have hF := HF.out (by first | rfl | trivial)
      clear hb HF
      rcases hF with ⟨hp, rfl⟩ | ⟨y, hy, hF⟩
      · obtain rfl : n = 0 := by rw [HN.out, hp]; rfl
        have hun : undef = Value.tuple #[] := rfl
        refine wp_region_in (by kernel_rfl) (by kernel_rfl) ?_
        intro W0 hE hN
        have q1 : blk W0 w.heap.size = some #[.int .i64 b.no, .int .u64 b.sq, .int .i64 b.of, .int .i64 b.de, .int .i64 b.pr, .int .i64 b.bo, .int .i64 b.li, .int .i64 b.to, .string b.da, .int .i64 2, .int .i64 to, .int .u64 off, .int .i64 od] := (by rw [hE.out]; exact kb)
        have q2 : Below w.heap.size w W0 := (by rw [hE.out]; exact b2)
        have n1 := calm_kn q1
        clear hE b2 nk kb
        repeat (go_big_quiet_step (fail))
        refine wpQuiet_nil ?_
        rintro _ ⟨x', rfl⟩
        have kb := blk_below x'.ok q1
        have b3 := bt q2 x'.ok
        obtain ⟨u, hu⟩ : ∃ u, u = x'.wd := ⟨_, rfl⟩
        rw [← hu] at kb b3 ⊢
        have nk := kn kb
        clear hu x' hN q1 q2 n1
        have hgm : getM (idsM p) (b.no, b.sq, b.of) (.bool false) = .bool false := (by rw [hp]; rfl)
        have hmp := HM.out.below b3
        go_wp2_with (at_lookup; go_loud (refine wpList_lookId rfl _ _ 95 rfl 4 Tryd.underlying95 (.bool false) (by kernel_rfl) m (idsM p) hmp (b.no, b.sq, b.of) rfl rfl ?_; rw [hgm]))
        go_ret
        exact ⟨rfl, b3⟩
      · obtain ⟨k, rfl⟩ : ∃ k, n = k + 1 := ⟨n - 1, by have := HN.out; have h0 := getLast_pos hy; omega⟩
        have hn := HN.out
        have g1 := srow_last HR.out hy hn
        obtain ⟨b1, o1, rfl, gb1, gc1⟩ := g1
        have hk := HK.out
        have l0 : decide ((0 : Int) < ((k + 1 : Nat) : Int)) = true := decide_eq_true (by omega)
        have l1 : decide (0 < k + 1) = true := decide_eq_true (by omega)
        have l2 : (k : Int) < ((k + 1 : Nat) : Int) := by omega
        have m1 : IntKind.i64.wrap (((k + 1 : Nat) : Int) - 1) = k := (IntWalk.i64_in _ (by omega)).trans (by omega)
        obtain ⟨n, hn1⟩ : ∃ n, n = k + 1 := ⟨_, rfl⟩
        rw [← hn1] at l0 l1 l2 m1 ⊢
        clear hn hn1 hk
        have hun : undef = Value.tuple #[] := rfl
        rcases hF with ⟨h5, rfl⟩ | ⟨h5, hF⟩
        · have l5 : decide (od ≤ y.od) = true := decide_eq_true (by omega)
          refine wp_region_in (by kernel_rfl) (by kernel_rfl) ?_
          intro W0 hE hN
          have q1 : blk W0 w.heap.size = some #[.int .i64 b.no, .int .u64 b.sq, .int .i64 b.of, .int .i64 b.de, .int .i64 b.pr, .int .i64 b.bo, .int .i64 b.li, .int .i64 b.to, .string b.da, .int .i64 2, .int .i64 to, .int .u64 off, .int .i64 od] := (by rw [hE.out]; exact kb)
          have q2 : Below w.heap.size w W0 := (by rw [hE.out]; exact b2)
          have n1 := calm_kn q1
          clear hE b2 nk kb
          have n2 : ∀ x : Class (Calm W0), x.wd.cell? ⟨b1, o1 + k * 13 + 12, none⟩ = some (.int .i64 y.od) := fun x => ((q2.trans (x.ok.mono q2.size)).cell (p := ⟨b1, o1 + k * 13 + 12, none⟩) gb1).trans gc1
          repeat (go_big_quiet_step (fail))
          refine wpQuiet_nil ?_
          rintro _ ⟨x', rfl⟩
          have kb := blk_below x'.ok q1
          have b3 := bt q2 x'.ok
          obtain ⟨u, hu⟩ : ∃ u, u = x'.wd := ⟨_, rfl⟩
          rw [← hu] at kb b3 ⊢
          have nk := kn kb
          clear hu x' hN q1 q2 n1 n2
          go_wp2
          go_ret
          exact ⟨rfl, b3⟩
        · have l5 : decide (od ≤ y.od) = false := decide_eq_false (by omega)
          refine wp_region_in (by kernel_rfl) (by kernel_rfl) ?_
          intro W0 hE hN
          have q1 : blk W0 w.heap.size = some #[.int .i64 b.no, .int .u64 b.sq, .int .i64 b.of, .int .i64 b.de, .int .i64 b.pr, .int .i64 b.bo, .int .i64 b.li, .int .i64 b.to, .string b.da, .int .i64 2, .int .i64 to, .int .u64 off, .int .i64 od] := (by rw [hE.out]; exact kb)
          have q2 : Below w.heap.size w W0 := (by rw [hE.out]; exact b2)
          have n1 := calm_kn q1
          clear hE b2 nk kb
          have n2 : ∀ x : Class (Calm W0), x.wd.cell? ⟨b1, o1 + k * 13 + 12, none⟩ = some (.int .i64 y.od) := fun x => ((q2.trans (x.ok.mono q2.size)).cell (p := ⟨b1, o1 + k * 13 + 12, none⟩) gb1).trans gc1
          repeat (go_big_quiet_step (fail))
          refine wpQuiet_nil ?_
          rintro _ ⟨x', rfl⟩
          have kb := blk_below x'.ok q1
          have b3 := bt q2 x'.ok
          obtain ⟨u, hu⟩ : ∃ u, u = x'.wd := ⟨_, rfl⟩
          rw [← hu] at kb b3 ⊢
          have nk := kn kb
          clear hu x' hN q1 q2 n1 n2
          rcases hF with ⟨h6, rfl⟩ | ⟨h6, rfl⟩
          · have hgm : getM (idsM p) (b.no, b.sq, b.of) (.bool false) = .bool true := ((getM_ids _ p).trans (congrArg Value.bool (decide_eq_true h6)))
            have hmp := HM.out.below b3
            go_wp2_with (at_lookup; go_loud (refine wpList_lookId rfl _ _ 95 rfl 4 Tryd.underlying95 (.bool false) (by kernel_rfl) m (idsM p) hmp (b.no, b.sq, b.of) rfl rfl ?_; rw [hgm]))
            go_ret
            exact ⟨rfl, b3⟩
          · have hgm : getM (idsM p) (b.no, b.sq, b.of) (.bool false) = .bool false := ((getM_ids _ p).trans (congrArg Value.bool (decide_eq_false h6)))
            have hmp := HM.out.below b3
            go_wp2_with (at_lookup; go_loud (refine wpList_lookId rfl _ _ 95 rfl 4 Tryd.underlying95 (.bool false) (by kernel_rfl) m (idsM p) hmp (b.no, b.sq, b.of) rfl rfl ?_; rw [hgm]))
            go_ret
            exact ⟨rfl, b3⟩
    · obtain rfl := hb (by decide)
      have n3 : decide (od < 0) = true := decide_eq_true (by omega)
      go_enter Tryd.func70, Tryd.ntmps70
      go_wp2_with (go_at_call 54; (with_reducible refine (gr.out _).mono ?_); rintro e w2 ⟨rfl, h2⟩; (have kb : blk w2 w.heap.size = some #[.int .i64 b.no, .int .u64 b.sq, .int .i64 b.of, .int .i64 b.de, .int .i64 b.pr, .int .i64 b.bo, .int .i64 b.li, .int .i64 b.to, .string b.da, .int .i64 1, .int .i64 0, .int .u64 0, .int .i64 od] := (by (apply blk_to; (focus (repeat (first | (with_reducible assumption) | (with_reducible apply blk_drew) | (with_reducible apply blk_set) | ((with_reducible apply blk_other'); (first | (focus (dsimp only; assumption)) | (focus (simp; done)) | (focus (dsimp only; omega)))) | ((with_reducible apply blk_alloc_new); (first | (with_reducible rfl) | (focus (simp; done)) | (focus (simp; omega)))) | (with_reducible apply blk_alloc) | ((with_reducible apply blk_below); (with_reducible assumption))))); rfl))); (have nk := kn kb); (have b2 : Below w.heap.size w w2 := (by (repeat (first | (with_reducible assumption) | (with_reducible exact Below.refl _ _) | (with_reducible refine beld_drew ?_) | ((with_reducible refine bset' ?_ ?_); (first | (focus (dsimp only; assumption)) | (focus (simp; done)) | (focus (dsimp only; omega)))) | (with_reducible refine belt_alloc ?_) | ((with_reducible refine zeroed_below' ?_ ?_); (first | (focus (simp; done)) | (focus (dsimp only; omega)))) | (with_reducible refine bt ?_ (by assumption)))))); clear h2 kb)
      go_ret
      exact ⟨rfl, b2⟩
    · obtain rfl := hb (by decide)
      have n3 : decide (od < 0) = false := decide_eq_false (by omega)
      have n4 : decide (1099511627776 < od) = true := decide_eq_true (by omega)
      go_enter Tryd.func70, Tryd.ntmps70
      go_wp2_with (go_at_call 54; (with_reducible refine (gr.out _).mono ?_); rintro e w2 ⟨rfl, h2⟩; (have kb : blk w2 w.heap.size = some #[.int .i64 b.no, .int .u64 b.sq, .int .i64 b.of, .int .i64 b.de, .int .i64 b.pr, .int .i64 b.bo, .int .i64 b.li, .int .i64 b.to, .string b.da, .int .i64 1, .int .i64 0, .int .u64 0, .int .i64 od] := (by (apply blk_to; (focus (repeat (first | (with_reducible assumption) | (with_reducible apply blk_drew) | (with_reducible apply blk_set) | ((with_reducible apply blk_other'); (first | (focus (dsimp only; assumption)) | (focus (simp; done)) | (focus (dsimp only; omega)))) | ((with_reducible apply blk_alloc_new); (first | (with_reducible rfl) | (focus (simp; done)) | (focus (simp; omega)))) | (with_reducible apply blk_alloc) | ((with_reducible apply blk_below); (with_reducible assumption))))); rfl))); (have nk := kn kb); (have b2 : Below w.heap.size w w2 := (by (repeat (first | (with_reducible assumption) | (with_reducible exact Below.refl _ _) | (with_reducible refine beld_drew ?_) | ((with_reducible refine bset' ?_ ?_); (first | (focus (dsimp only; assumption)) | (focus (simp; done)) | (focus (dsimp only; omega)))) | (with_reducible refine belt_alloc ?_) | ((with_reducible refine zeroed_below' ?_ ?_); (first | (focus (simp; done)) | (focus (dsimp only; omega)))) | (with_reducible refine bt ?_ (by assumption)))))); clear h2 kb)
      go_ret
      exact ⟨rfl, b2⟩
    · have n3 : decide (od < 0) = false := decide_eq_false (by omega)
      have n4 : decide (1099511627776 < od) = false := decide_eq_false (by omega)
      go_enter Tryd.func70, Tryd.ntmps70
      go_wp2_with (go_at_call 54; (with_reducible refine (gr.out _).mono ?_); rintro e w2 ⟨rfl, h2⟩; (have kb : blk w2 w.heap.size = some #[.int .i64 b.no, .int .u64 b.sq, .int .i64 b.of, .int .i64 b.de, .int .i64 b.pr, .int .i64 b.bo, .int .i64 b.li, .int .i64 b.to, .string b.da, .int .i64 1, .int .i64 0, .int .u64 0, .int .i64 od] := (by (apply blk_to; (focus (repeat (first | (with_reducible assumption) | (with_reducible apply blk_drew) | (with_reducible apply blk_set) | ((with_reducible apply blk_other'); (first | (focus (dsimp only; assumption)) | (focus (simp; done)) | (focus (dsimp only; omega)))) | ((with_reducible apply blk_alloc_new); (first | (with_reducible rfl) | (focus (simp; done)) | (focus (simp; omega)))) | (with_reducible apply blk_alloc) | ((with_reducible apply blk_below); (with_reducible assumption))))); rfl))); (have nk := kn kb); (have b2 : Below w.heap.size w w2 := (by (repeat (first | (with_reducible assumption) | (with_reducible exact Below.refl _ _) | (with_reducible refine beld_drew ?_) | ((with_reducible refine bset' ?_ ?_); (first | (focus (dsimp only; assumption)) | (focus (simp; done)) | (focus (dsimp only; omega)))) | (with_reducible refine belt_alloc ?_) | ((with_reducible refine zeroed_below' ?_ ?_); (first | (focus (simp; done)) | (focus (dsimp only; omega)))) | (with_reducible refine bt ?_ (by assumption)))))); clear h2)
      have hF := HF.out (by first | rfl | trivial)
      clear hb HF
      rcases hF with ⟨hp, rfl⟩ | ⟨y, hy, hF⟩
      · obtain rfl : n = 0 := by rw [HN.out, hp]; rfl
        have hun : undef = Value.tuple #[] := rfl
        refine wp_region_in (by kernel_rfl) (by kernel_rfl) ?_
        intro W0 hE hN
        have q1 : blk W0 w.heap.size = some #[.int .i64 b.no, .int .u64 b.sq, .int .i64 b.of, .int .i64 b.de, .int .i64 b.pr, .int .i64 b.bo, .int .i64 b.li, .int .i64 b.to, .string b.da, .int .i64 1, .int .i64 0, .int .u64 0, .int .i64 od] := (by rw [hE.out]; exact kb)
        have q2 : Below w.heap.size w W0 := (by rw [hE.out]; exact b2)
        have n1 := calm_kn q1
        clear hE b2 nk kb
        repeat (go_big_quiet_step (fail))
        refine wpQuiet_nil ?_
        rintro _ ⟨x', rfl⟩
        have kb := blk_below x'.ok q1
        have b3 := bt q2 x'.ok
        obtain ⟨u, hu⟩ : ∃ u, u = x'.wd := ⟨_, rfl⟩
        rw [← hu] at kb b3 ⊢
        have nk := kn kb
        clear hu x' hN q1 q2 n1
        have hgm : getM (idsM p) (b.no, b.sq, b.of) (.bool false) = .bool false := (by rw [hp]; rfl)
        have hmp := HM.out.below b3
        go_wp2_with (at_lookup; go_loud (refine wpList_lookId rfl _ _ 95 rfl 4 Tryd.underlying95 (.bool false) (by kernel_rfl) m (idsM p) hmp (b.no, b.sq, b.of) rfl rfl ?_; rw [hgm]))
        go_ret
        exact ⟨rfl, b3⟩
      · obtain ⟨k, rfl⟩ : ∃ k, n = k + 1 := ⟨n - 1, by have := HN.out; have h0 := getLast_pos hy; omega⟩
        have hn := HN.out
        have g1 := srow_last HR.out hy hn
        obtain ⟨b1, o1, rfl, gb1, gc1⟩ := g1
        have hk := HK.out
        have l0 : decide ((0 : Int) < ((k + 1 : Nat) : Int)) = true := decide_eq_true (by omega)
        have l1 : decide (0 < k + 1) = true := decide_eq_true (by omega)
        have l2 : (k : Int) < ((k + 1 : Nat) : Int) := by omega
        have m1 : IntKind.i64.wrap (((k + 1 : Nat) : Int) - 1) = k := (IntWalk.i64_in _ (by omega)).trans (by omega)
        obtain ⟨n, hn1⟩ : ∃ n, n = k + 1 := ⟨_, rfl⟩
        rw [← hn1] at l0 l1 l2 m1 ⊢
        clear hn hn1 hk
        have hun : undef = Value.tuple #[] := rfl
        rcases hF with ⟨h5, rfl⟩ | ⟨h5, hF⟩
        · have l5 : decide (od ≤ y.od) = true := decide_eq_true (by omega)
          refine wp_region_in (by kernel_rfl) (by kernel_rfl) ?_
          intro W0 hE hN
          have q1 : blk W0 w.heap.size = some #[.int .i64 b.no, .int .u64 b.sq, .int .i64 b.of, .int .i64 b.de, .int .i64 b.pr, .int .i64 b.bo, .int .i64 b.li, .int .i64 b.to, .string b.da, .int .i64 1, .int .i64 0, .int .u64 0, .int .i64 od] := (by rw [hE.out]; exact kb)
          have q2 : Below w.heap.size w W0 := (by rw [hE.out]; exact b2)
          have n1 := calm_kn q1
          clear hE b2 nk kb
          have n2 : ∀ x : Class (Calm W0), x.wd.cell? ⟨b1, o1 + k * 13 + 12, none⟩ = some (.int .i64 y.od) := fun x => ((q2.trans (x.ok.mono q2.size)).cell (p := ⟨b1, o1 + k * 13 + 12, none⟩) gb1).trans gc1
          repeat (go_big_quiet_step (fail))
          refine wpQuiet_nil ?_
          rintro _ ⟨x', rfl⟩
          have kb := blk_below x'.ok q1
          have b3 := bt q2 x'.ok
          obtain ⟨u, hu⟩ : ∃ u, u = x'.wd := ⟨_, rfl⟩
          rw [← hu] at kb b3 ⊢
          have nk := kn kb
          clear hu x' hN q1 q2 n1 n2
          go_wp2
          go_ret
          exact ⟨rfl, b3⟩
        · have l5 : decide (od ≤ y.od) = false := decide_eq_false (by omega)
          refine wp_region_in (by kernel_rfl) (by kernel_rfl) ?_
          intro W0 hE hN
          have q1 : blk W0 w.heap.size = some #[.int .i64 b.no, .int .u64 b.sq, .int .i64 b.of, .int .i64 b.de, .int .i64 b.pr, .int .i64 b.bo, .int .i64 b.li, .int .i64 b.to, .string b.da, .int .i64 1, .int .i64 0, .int .u64 0, .int .i64 od] := (by rw [hE.out]; exact kb)
          have q2 : Below w.heap.size w W0 := (by rw [hE.out]; exact b2)
          have n1 := calm_kn q1
          clear hE b2 nk kb
          have n2 : ∀ x : Class (Calm W0), x.wd.cell? ⟨b1, o1 + k * 13 + 12, none⟩ = some (.int .i64 y.od) := fun x => ((q2.trans (x.ok.mono q2.size)).cell (p := ⟨b1, o1 + k * 13 + 12, none⟩) gb1).trans gc1
          repeat (go_big_quiet_step (fail))
          refine wpQuiet_nil ?_
          rintro _ ⟨x', rfl⟩
          have kb := blk_below x'.ok q1
          have b3 := bt q2 x'.ok
          obtain ⟨u, hu⟩ : ∃ u, u = x'.wd := ⟨_, rfl⟩
          rw [← hu] at kb b3 ⊢
          have nk := kn kb
          clear hu x' hN q1 q2 n1 n2
          rcases hF with ⟨h6, rfl⟩ | ⟨h6, rfl⟩
          · have hgm : getM (idsM p) (b.no, b.sq, b.of) (.bool false) = .bool true := ((getM_ids _ p).trans (congrArg Value.bool (decide_eq_true h6)))
            have hmp := HM.out.below b3
            go_wp2_with (at_lookup; go_loud (refine wpList_lookId rfl _ _ 95 rfl 4 Tryd.underlying95 (.bool false) (by kernel_rfl) m (idsM p) hmp (b.no, b.sq, b.of) rfl rfl ?_; rw [hgm]))
            go_ret
            exact ⟨rfl, b3⟩
          · have hgm : getM (idsM p) (b.no, b.sq, b.of) (.bool false) = .bool false := ((getM_ids _ p).trans (congrArg Value.bool (decide_eq_false h6)))
            have hmp := HM.out.below b3
            go_wp2_with (at_lookup; go_loud (refine wpList_lookId rfl _ _ 95 rfl 4 Tryd.underlying95 (.bool false) (by kernel_rfl) m (idsM p) hmp (b.no, b.sq, b.of) rfl rfl ?_; rw [hgm]))
            go_ret
            exact ⟨rfl, b3⟩
end Go.Proofs.YtahopnlibmiafaaDoor
namespace Go.Proofs.YtahopnlibmiafaaDoor
open Go.RowKit
theorem SRow.take {α : Type} {enc : α → List Value} {k : Nat} {w : World} {a : Option Addr} {cap : Nat} {l : List α} (h : SRow enc k w a cap l) {i : Nat} (hi : i ≤ l.length) : (l.take i).length = i ∧ SRow enc k w a cap (l.take i) := by
  have e : (l.take i).length = i := by simp; omega
  obtain ⟨h1, h2, h3, h4⟩ := h
  refine ⟨e, by omega, h2, h3, fun h0 => ?_⟩
  obtain ⟨b, off, e1, hlt, hc⟩ := h4 (by omega)
  refine ⟨b, off, e1, hlt, fun j hj => ?_⟩
  have := hc j (by omega)
  rwa [List.getElem_take]
theorem wpList_assign {P : Program} {ops : Array Oper} {rest : List Oper} {o : Oper} {a : Act} {w : World} {Q : Exit → Act → World → Prop} (hg : o.guard = none) (x : Operand) (v : Value) (ho : o.op = .assign x) (hv : a.eval x = v) (h : wpList P ops Q rest (a.put o.dst v) w) : wpList P ops Q (o :: rest) a w := by
  refine wpList_plain hg fun K hK => ?_
  unfold Oper.wp
  simp [execOp, ho, hv, Result.andThen]
  exact hK _ _ h
set_option maxRecDepth 100000 in
set_option maxHeartbeats 3200000 in
theorem sCheck_any (a : Option Addr) (cap : Nat) (l : List Itm) (hd : ∀ x ∈ l, x.b.da.size ≤ maxLen) (w : World) (hrow : SRow itm 13 w a cap l) :
    Calls Tryd.prog 28 #[.slice a l.length cap] w fun e w' => e = .returned (.tuple #[.int .i64 (chkS l).1, .int .i64 (chkS l).2]) ∧ Below w.heap.size w w' := by
  have HR := Lib.hid hrow
  have HD := Lib.hid hd
  clear hrow hd
  by_cases h0 : 1000 < l.length
  · rw [chkS_full h0]
    have t0 : decide ((1000 : Int) < (l.length : Int)) = true := decide_eq_true (by omega)
    go_enter Tryd.func28, Tryd.ntmps28
    go_wp2
    go_ret2
    exact ⟨rfl, Below.refl _ _⟩
  · have t0 : decide ((1000 : Int) < (l.length : Int)) = false := decide_eq_false (by omega)
    have hcap := HR.out.1
    have hmax := HR.out.2.1
    unfold maxLen at hmax
    go_enter Tryd.func28, Tryd.ntmps28
    have hmm := @run_makeMap Tryd.prog
    go_wp2
    have bm : Below w.heap.size w (w.alloc (.map #[] 0)) := (Below.refl _ _).alloc (Nat.le_refl _) _
    go_loopw [14] (fun i wr => ∃ j : Nat, i = .int .i64 j ∧ j ≤ l.length ∧ Below w.heap.size w wr ∧ Hid (mapAt wr w.heap.size (idsM (l.take j)) ∧ ∀ k < j, fltS l k = 0)) (fun i _ => l.length - (intOf i).toNat)
    case atStart => exact ⟨0, rfl, Nat.zero_le _, bm, Lib.hid ⟨mapAt_made w, fun k hk => absurd hk (by omega)⟩⟩
    case round =>
      obtain ⟨j, rfl, hj, hB, HM⟩ := hrel
      by_cases hlt : j < l.length
      · have hltz : (j : Int) < (l.length : Int) := by omega
        obtain ⟨b, off, hab, hbl, hcs⟩ := HR.out.2.2.2 (by omega)
        subst hab
        obtain ⟨x, hx⟩ : ∃ x, x = l[j] := ⟨_, rfl⟩
        have hr := hcs j hlt
        rw [← hx] at hr
        have hrw := range_below hbl hr hB
        have HX := Lib.hid hx
        clear hx hr hcs
        have bwr : b < wr.heap.size := Nat.lt_of_lt_of_le hbl hB.size
        go_upto_region 6 with fail
        refine wp_region_tail0 2 ?_
        intro W0 hE hN
        have hrW : W0.rangeAt b (off + j * 13) (itm x) := (by rw [hE.out]; exact hrw)
        have hBW : Below w.heap.size w W0 := (by rw [hE.out]; exact hB)
        have hM := HM
        rw [← hE.out] at hM
        have bW : b < W0.heap.size := (by rw [hE.out]; exact bwr)
        clear hE hrw hB HM bwr
        simp only [List.take_succ_cons, List.take_zero, List.drop_succ_cons, List.drop_zero]
        repeat (go_big_quiet_step (fail))
        refine wpQuiet_nil ?_
        rintro _ ⟨x', rfl⟩
        have hr1 := range_below bW hrW x'.ok
        have hB1 := bt hBW x'.ok
        have hm1 := Lib.hid (hM.out.1.below x'.ok)
        have hf1 := Lib.hid hM.out.2
        obtain ⟨u, hu⟩ : ∃ u, u = x'.wd := ⟨_, rfl⟩
        rw [← hu] at hr1 hB1 hm1 ⊢
        clear hu x' hN hrW hBW hM bW
        refine wpList_load_mid rfl 67 (.tmp 17) rfl b (off + j * 13) rfl (itm x) _ hr1 Tryd.underlying67 rfl (by kernel_rfl) ?_
        conv => arg 5; simp [Act.put]
        refine Go.Great.wpList_allocTo rfl (some 6) rfl (.pointer (some ⟨u.heap.size, 0, none⟩)) (.cells #[.int .i64 0, .int .u64 0, .int .i64 0, .int .i64 0, .int .i64 0, .int .i64 0, .int .i64 0, .int .i64 0, .string ⟨#[]⟩, .int .i64 0, .int .i64 0, .int .u64 0, .int .i64 0] 67) (by kernel_rfl) ?_
        conv => arg 5; simp [Act.put]
        refine wpList_assign rfl (.tmp 16) (.int .i64 j) rfl rfl ?_
        conv => arg 5; simp [Act.put]
        refine wpList_store_midB 67 (.tmp 6) (.tmp 18) u.heap.size 0 #[.int .i64 0, .int .u64 0, .int .i64 0, .int .i64 0, .int .i64 0, .int .i64 0, .int .i64 0, .int .i64 0, .string ⟨#[]⟩, .int .i64 0, .int .i64 0, .int .u64 0, .int .i64 0] #[.int .i64 x.b.no, .int .u64 x.b.sq, .int .i64 x.b.of, .int .i64 x.b.de, .int .i64 x.b.pr, .int .i64 x.b.bo, .int .i64 x.b.li, .int .i64 x.b.to, .string x.b.da, .int .i64 x.st, .int .i64 x.to, .int .u64 x.off, .int .i64 x.od] #[.int .i64 x.b.no, .int .u64 x.b.sq, .int .i64 x.b.of, .int .i64 x.b.de, .int .i64 x.b.pr, .int .i64 x.b.bo, .int .i64 x.b.li, .int .i64 x.b.to, .string x.b.da, .int .i64 x.st, .int .i64 x.to, .int .u64 x.off, .int .i64 x.od] (blk_alloc_new _ _ _ rfl) rfl rfl rfl rfl (by simp) (by kernel_rfl) (by kernel_rfl) (by kernel_rfl) ?_
        intro w1 kb1 o1 B1 z1
        conv => arg 5; simp [Act.put]
        have hb1 : Below w.heap.size w w1 := B1 _ _ hB1.size (hB1.alloc hB1.size _)
        have hBu : Below u.heap.size u w1 := B1 _ _ (Nat.le_refl _) ((Below.refl _ _).alloc (Nat.le_refl _) _)
        have hm2 := Lib.hid (hm1.out.below hBu)
        obtain ⟨c0, hc0⟩ : ∃ c, c = u.heap.size := ⟨_, rfl⟩
        rw [← hc0] at kb1 ⊢
        clear o1 B1 z1 hm1 hBu hr1 hB1 hc0 u
        go_wp2_with fail
        refine wp_region_in (by kernel_rfl) (by kernel_rfl) ?_
        intro W0 hE hN
        have q1 : blk W0 c0 = some #[.int .i64 x.b.no, .int .u64 x.b.sq, .int .i64 x.b.of, .int .i64 x.b.de, .int .i64 x.b.pr, .int .i64 x.b.bo, .int .i64 x.b.li, .int .i64 x.b.to, .string x.b.da, .int .i64 x.st, .int .i64 x.to, .int .u64 x.off, .int .i64 x.od] := (by rw [hE.out]; exact kb1)
        have qB : Below w.heap.size w W0 := (by rw [hE.out]; exact hb1)
        have qm : mapAt W0 w.heap.size (idsM (l.take j)) := (by rw [hE.out]; exact hm2.out)
        clear hE kb1 hb1 hm2
        have r1 : W0.rangeAt c0 0 (itm x) := range_of_blk q1 0 (itm x) rfl
        have gl := blk_lt q1
        have g : ∀ X : Class (Calm W0), Calls Tryd.prog 70 #[.agg (itm x).toArray, .slice (some ⟨b, off, none⟩) j cap, .map (some w.heap.size)] X.wd fun e w' => e = .returned (.int .i64 (itF x (l.take j))) ∧ Below X.wd.heap.size X.wd w' := fun X => by
          have ht := (HR.out.below (qB.trans (X.ok.mono qB.size))).take (i := j) (by omega)
          have := scheck_any x (l.take j) (some ⟨b, off, none⟩) cap w.heap.size (by rw [HX.out]; exact HD.out _ (List.getElem_mem _)) (by rw [ht.1]; omega) X.wd ht.2 (qm.below X.ok)
          rw [ht.1] at this
          exact this
        have hF : itF x (l.take j) = fltS l j := by rw [fltS_at hlt, HX.out]
        have HF := Lib.hid hF
        obtain ⟨v, hv⟩ : ∃ v, itF x (l.take j) = v := ⟨_, rfl⟩
        rw [hv] at g
        have HV := Lib.hid hv
        have G := Lib.hid g
        have s1 : j ≤ cap := by omega
        clear hF hv g
        refine wpQuiet_load_range 67 (.tmp 6) c0 0 (itm x) (fun W hW => by obtain ⟨x', rfl⟩ := hW; exact range_below gl r1 x'.ok) _ (by kernel_rfl) rfl (by kernel_rfl) Tryd.underlying67 rfl (by kernel_rfl) ?_
        conv => arg 6; simp [Act.put]
        repeat (go_big_quiet_step ((go_at_call 70; (with_reducible refine Class.go _ (G.out _)))))
        refine wpQuiet_nil ?_
        rintro _ ⟨x', rfl⟩
        have hB2 := bt qB x'.ok
        have kb2 := blk_below x'.ok q1
        have hm2 := Lib.hid (qm.below x'.ok)
        obtain ⟨u, hu⟩ : ∃ u, u = x'.wd := ⟨_, rfl⟩
        rw [← hu] at hB2 kb2 hm2 ⊢
        have nk := kn kb2
        clear hu x' hN q1 qB qm r1 gl G s1 hmm
        by_cases hv0 : v = 0
        · subst hv0
          have q0 : ((0 : Int) != 0) = false := rfl
          go_wp2_with (at_mapUpdate; go_loud (refine wpList_putId rfl _ _ _ 95 rfl 4 Tryd.underlying95 w.heap.size (idsM (l.take j)) hm2.out (bid x.b) (.bool true) rfl rfl rfl ?_); intro w5 hm5 hg5)
          have hB5 : Below w.heap.size w w5 := hB2.grown hg5 hB2.size (fun k e => by cases e; exact Nat.le_refl _)
          have hf2 : Hid (mapAt w5 w.heap.size (idsM (l.take (j + 1))) ∧ ∀ k < j + 1, fltS l k = 0) := Lib.hid (by
            have e : l.take (j + 1) = l.take j ++ [x] := (by rw [List.take_succ_eq_append_getElem hlt, ← HX.out])
            refine ⟨?_, fun k hk => ?_⟩
            · rw [e, ← putM_ids (itF_id HV.out)]; exact hm5
            · rcases Nat.lt_or_ge k j with h | h
              · exact hf1.out k h
              · obtain rfl : k = j := by omega
                rw [← HF.out, HV.out])
          clear hm5 hg5
          go_wp2
          go_roundw
          case rel => exact ⟨j + 1, by go_num, by omega, hB5, hf2⟩
          case measure => simp [intOf]; omega
        · have q0 : (v != 0) = true := by simpa using hv0
          have hr : chkS l = (v, j) := by rw [chkS_bad (by omega) hlt hf1.out (by rw [← HF.out, HV.out]; exact hv0), ← HF.out, HV.out]
          go_wp2
          go_ret2
          exact ⟨by rw [hr]; rfl, hB2⟩
      · obtain rfl : j = l.length := by omega
        have hr : chkS l = (0, 0) := chkS_ok (by omega) HM.out.2
        go_wp2
        go_ret2
        exact ⟨by rw [hr]; rfl, hB⟩
end Go.Proofs.YtahopnlibmiafaaDoor
