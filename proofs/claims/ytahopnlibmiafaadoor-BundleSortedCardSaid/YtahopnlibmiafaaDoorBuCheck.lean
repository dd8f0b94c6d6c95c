/- The walks of the checks of IDs and bundles, of the program and of the reference. -/
import Derived.Test.YtahopnlibmiafaaDoorBlk
import Derived.Test.YtahopnlibmiafaaDoorBuMath
namespace Go.Proofs.YtahopnlibmiafaaDoor
set_option linter.unusedVariables false
open Go.RowKit

abbrev idv (no sq of : Int) : Value := .agg #[.int .i64 no, .int .u64 sq, .int .i64 of]
abbrev buv (no sq of de pr bo li to : Int) (da : ByteArray) : Value := .agg #[.int .i64 no, .int .u64 sq, .int .i64 of, .int .i64 de, .int .i64 pr, .int .i64 bo, .int .i64 li, .int .i64 to, .string da]

set_option maxRecDepth 100000 in
set_option maxHeartbeats 800000 in
theorem refCheckID_any (no sq of : Int) (w : World) :
    Calls Tryd.prog 96 #[idv no sq of] w fun e w' => e = .returned (.int .i64 (idC no sq of)) ∧ Below w.heap.size w w' := by
  have fin : Below w.heap.size w (w.alloc (.cells #[.int .i64 no, .int .u64 sq, .int .i64 of] 26)) := (Below.refl _ _).alloc (Nat.le_refl _) _
  rcases idC_cases no sq of with ⟨h0, h⟩ | ⟨h0, h⟩ <;> rw [h0] <;> clear h0 <;> (have H := Lib.hid h; clear h)
  · go_enter Tryd.func96, Tryd.ntmps96
    go_wp2
    all_goals first
      | (go_ret; exact ⟨rfl, fin⟩)
      | (exfalso; have := H.out; unfold okI at this; omega)
  · go_enter Tryd.func96, Tryd.ntmps96
    go_wp2
    all_goals first
      | (exfalso; have := H.out; unfold okI at this; omega)
      | (go_ret; exact ⟨rfl, fin⟩)

set_option maxRecDepth 100000 in
set_option maxHeartbeats 1600000 in
theorem refCheck_any (no sq of de pr bo li to : Int) (da : ByteArray) (hda : da.size ≤ maxLen) (w : World) :
    Calls Tryd.prog 57 #[buv no sq of de pr bo li to da] w fun e w' => e = .returned (.int .i64 (buC no sq of de pr bo li to da.size)) ∧ Below w.heap.size w w' := by
  unfold maxLen at hda
  rcases idC_cases no sq of with ⟨h0, h⟩ | ⟨h0, h⟩
  · have hc := fun w => refCheckID_any no sq of w
    rw [h0] at hc
    have Hc := Lib.hid hc; clear hc h0
    have h' := h
    obtain ⟨i1, i2, i3, i4, i5⟩ := h'
    obtain ⟨r, hr⟩ : ∃ r, r = buC no sq of de pr bo li to da.size := ⟨_, rfl⟩
    have HR := Lib.hid hr
    rw [← hr]; clear hr
    have cs := buC_cases no sq of de pr bo li to da.size
    rw [← HR.out] at cs
    have CS := Lib.hid cs; clear cs h HR
    go_enter Tryd.func57, Tryd.ntmps57
    go_wp2_with (go_at_call 96; (with_reducible refine (Hc.out _).mono ?_); rintro e wb ⟨rfl, hb⟩; obtain ⟨hc, hf⟩ := bcell hb)
    all_goals
      try have q := beq0_t (show ((da.size : Int) == 0) = true by assumption)
      try have q := beq0_f (show ((da.size : Int) == 0) = false by assumption)
      first
        | (go_ret; refine ⟨ret_int ?_, bta hb⟩; rcases CS.out with ⟨_, h⟩ | ⟨h0, _, h⟩ | ⟨h0, _, h, hn⟩ | ⟨h0, _, h, hn, hm⟩ | ⟨h0, _, h, hn, hm, hs⟩ | ⟨h0, _, h, hn, hm, hs⟩ <;> first | (rw [h0]; done) | (exfalso; unfold okN at *; omega))
        | (exfalso; unfold okN at *; omega)
  · have hr : buC no sq of de pr bo li to da.size = 2 := by unfold buC; rw [if_pos h]
    rw [hr]
    have hc := fun w => refCheckID_any no sq of w
    rw [h0] at hc
    have Hc := Lib.hid hc; clear hc h0 hr h
    go_enter Tryd.func57, Tryd.ntmps57
    go_wp2_with (go_at_call 96; (with_reducible refine (Hc.out _).mono ?_); rintro e wb ⟨rfl, hb⟩; obtain ⟨hc, hf⟩ := bcell hb)
    go_ret
    exact ⟨rfl, bta hb⟩
end Go.Proofs.YtahopnlibmiafaaDoor
