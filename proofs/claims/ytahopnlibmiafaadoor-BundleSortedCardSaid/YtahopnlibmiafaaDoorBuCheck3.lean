/- The walks of the program's Check, left, Left, Expired. -/
import Derived.Test.YtahopnlibmiafaaDoorBuCheck2
namespace Go.Proofs.YtahopnlibmiafaaDoor
set_option linter.unusedVariables false
open Go.RowKit

theorem ret_tt {a b : Value} (h : a = b) : Ending.returned a = .returned b := by rw [h]

set_option maxRecDepth 100000 in
set_option maxHeartbeats 1600000 in
theorem check_any (no sq of de pr bo li to : Int) (da : ByteArray) (hda : da.size ≤ maxLen) (w : World) :
    Calls Tryd.prog 54 #[buv no sq of de pr bo li to da] w fun e w' => e = .returned (.int .i64 (buC no sq of de pr bo li to da.size)) ∧ Below w.heap.size w w' := by
  unfold maxLen at hda
  rcases idC_cases no sq of with ⟨h0, h⟩ | ⟨h0, h⟩
  · have hc := fun w => checkID_any no sq of w
    rw [h0] at hc
    have Hc := Lib.hid hc; clear hc h0
    have h' := h
    obtain ⟨i1, i2, i3, i4, i5⟩ := h'
    by_cases h1 : okN de pr bo li to
    · have Hw := Lib.hid (within5 de pr bo li to true (allIn5 de pr bo li to h1))
      obtain ⟨r, hr⟩ : ∃ r, r = buC no sq of de pr bo li to da.size := ⟨_, rfl⟩
      have HR := Lib.hid hr
      rw [← hr]; clear hr
      have cs := buC_cases no sq of de pr bo li to da.size
      rw [← HR.out] at cs
      have CS := Lib.hid cs; clear cs h HR
      obtain ⟨n1, n2, n3, n4, n5, n6, n7, n8, n9, n10⟩ := h1
      go_enter Tryd.func54, Tryd.ntmps54
      go_wp2_with (first
        | (go_at_call 87; (with_reducible refine (Hc.out _).mono ?_); rintro e wb ⟨rfl, hb⟩; have kk1 : blk wb (w.heap.size) = some #[.int .i64 no, .int .u64 sq, .int .i64 of, .int .i64 de, .int .i64 pr, .int .i64 bo, .int .i64 li, .int .i64 to, .string da] := (by (apply blk_to; (focus (repeat (first | (with_reducible assumption) | (with_reducible apply blk_drew) | (with_reducible apply blk_set) | ((with_reducible apply blk_other'); (first | (focus (dsimp only; assumption)) | (focus (simp; done)) | (focus (dsimp only; omega)))) | ((with_reducible apply blk_alloc_new); (first | (with_reducible rfl) | (focus (simp; done)) | (focus (simp; omega)))) | (with_reducible apply blk_alloc) | ((with_reducible apply blk_below); (with_reducible assumption))))); rfl)); have kn1 := kn kk1)
        | (go_at_call 93; (with_reducible refine (Hw.out _ _ _ rfl (blk_alloc_new _ _ _ (by simp))).mono ?_); rintro e wd ⟨rfl, hd⟩; have kk2 : blk wd (w.heap.size) = some #[.int .i64 no, .int .u64 sq, .int .i64 of, .int .i64 de, .int .i64 pr, .int .i64 bo, .int .i64 li, .int .i64 to, .string da] := (by (apply blk_to; (focus (repeat (first | (with_reducible assumption) | (with_reducible apply blk_drew) | (with_reducible apply blk_set) | ((with_reducible apply blk_other'); (first | (focus (dsimp only; assumption)) | (focus (simp; done)) | (focus (dsimp only; omega)))) | ((with_reducible apply blk_alloc_new); (first | (with_reducible rfl) | (focus (simp; done)) | (focus (simp; omega)))) | (with_reducible apply blk_alloc) | ((with_reducible apply blk_below); (with_reducible assumption))))); rfl)); have kn2 := kn kk2))
      all_goals
        try have q := beq0_t (show ((da.size : Int) == 0) = true by assumption)
        try have q := beq0_f (show ((da.size : Int) == 0) = false by assumption)
        (go_ret; refine ⟨ret_int ?_, bt (bta hb) (bta hd)⟩; rcases CS.out with ⟨_, h⟩ | ⟨h0, _, h⟩ | ⟨h0, _, h, hn⟩ | ⟨h0, _, h, hn, hm⟩ | ⟨h0, _, h, hn, hm, hs⟩ | ⟨h0, _, h, hn, hm, hs⟩ <;> first | (rw [h0]; done) | (exfalso; unfold okN at *; omega) | (exfalso; unfold okI at *; omega))
    · have hr : buC no sq of de pr bo li to da.size = 2 := by unfold buC; rw [if_neg (not_not_intro h), if_pos h1]
      have Hw := Lib.hid (within5 de pr bo li to false (allIn5' de pr bo li to h1))
      rw [hr]
      clear hr h h1
      go_enter Tryd.func54, Tryd.ntmps54
      go_wp2_with (first
        | (go_at_call 87; (with_reducible refine (Hc.out _).mono ?_); rintro e wb ⟨rfl, hb⟩; have kk3 : blk wb (w.heap.size) = some #[.int .i64 no, .int .u64 sq, .int .i64 of, .int .i64 de, .int .i64 pr, .int .i64 bo, .int .i64 li, .int .i64 to, .string da] := (by (apply blk_to; (focus (repeat (first | (with_reducible assumption) | (with_reducible apply blk_drew) | (with_reducible apply blk_set) | ((with_reducible apply blk_other'); (first | (focus (dsimp only; assumption)) | (focus (simp; done)) | (focus (dsimp only; omega)))) | ((with_reducible apply blk_alloc_new); (first | (with_reducible rfl) | (focus (simp; done)) | (focus (simp; omega)))) | (with_reducible apply blk_alloc) | ((with_reducible apply blk_below); (with_reducible assumption))))); rfl)); have kn3 := kn kk3)
        | (go_at_call 93; (with_reducible refine (Hw.out _ _ _ rfl (blk_alloc_new _ _ _ (by simp))).mono ?_); rintro e wd ⟨rfl, hd⟩))
      go_ret
      exact ⟨rfl, bt ((bta hb)) (bta hd)⟩
  · have hr : buC no sq of de pr bo li to da.size = 2 := by unfold buC; rw [if_pos h]
    rw [hr]
    have hc := fun w => checkID_any no sq of w
    rw [h0] at hc
    have Hc := Lib.hid hc; clear hc h0 hr h
    go_enter Tryd.func54, Tryd.ntmps54
    go_wp2_with (go_at_call 87; (with_reducible refine (Hc.out _).mono ?_); rintro e wb ⟨rfl, hb⟩; obtain ⟨hc, hf⟩ := bcell hb)
    go_ret
    exact ⟨rfl, bta hb⟩
end Go.Proofs.YtahopnlibmiafaaDoor
