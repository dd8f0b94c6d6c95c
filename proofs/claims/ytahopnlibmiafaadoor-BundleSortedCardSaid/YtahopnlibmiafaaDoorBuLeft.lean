/- The walks of left, Left and Expired, of the program and of the reference. -/
import Derived.Test.YtahopnlibmiafaaDoorBuCheck3
namespace Go.Proofs.YtahopnlibmiafaaDoor
set_option linter.unusedVariables false
open Go.RowKit

theorem leftC_cases (no sq of de pr bo li to n now : Int) :
    (∃ c, buC no sq of de pr bo li to n = c ∧ c ≠ 0 ∧ leftC no sq of de pr bo li to n now = (0, c)) ∨
    (buC no sq of de pr bo li to n = 0 ∧ (now < 0 ∨ 1099511627776 < now) ∧ leftC no sq of de pr bo li to n now = (0, 2)) ∨
    (buC no sq of de pr bo li to n = 0 ∧ 0 ≤ now ∧ now ≤ 1099511627776 ∧ okN de pr bo li to ∧ leftC no sq of de pr bo li to n now = (bo + li - now, 0)) := by
  unfold leftC
  by_cases h : buC no sq of de pr bo li to n = 0
  · rw [if_neg (not_not_intro h)]
    by_cases h2 : now < 0 ∨ 1099511627776 < now
    · exact .inr (.inl ⟨h, h2, if_pos h2⟩)
    · exact .inr (.inr ⟨h, by omega, by omega, (buC_ok h).2.1, if_neg h2⟩)
  · exact .inl ⟨_, rfl, h, if_pos h⟩

set_option maxRecDepth 100000 in
set_option maxHeartbeats 1600000 in
theorem left_any (no sq of de pr bo li to now : Int) (da : ByteArray) (hda : da.size ≤ maxLen) (w : World) :
    Calls Tryd.prog 86 #[buv no sq of de pr bo li to da, .int .i64 now] w fun e w' => e = .returned (.tuple #[.int .i64 (leftC no sq of de pr bo li to da.size now).1, .int .i64 (leftC no sq of de pr bo li to da.size now).2]) ∧ Below w.heap.size w w' := by
  have hc := fun w => check_any no sq of de pr bo li to da hda w
  rcases leftC_cases no sq of de pr bo li to da.size now with ⟨c, h0, h1, h2⟩ | ⟨h0, h1, h2⟩ | ⟨h0, h1, h3, hk, h2⟩ <;> rw [h0] at hc <;> rw [h2] <;> clear h0 h2 <;> (have Hc := Lib.hid hc; clear hc)
  · have h1' : (c != 0) = true := by simpa using h1
    go_enter Tryd.func86, Tryd.ntmps86
    go_wp2_with (go_at_call 54; (with_reducible refine (Hc.out _).mono ?_); rintro e wb ⟨rfl, hb⟩; have kk1 : blk wb (w.heap.size) = some #[.int .i64 no, .int .u64 sq, .int .i64 of, .int .i64 de, .int .i64 pr, .int .i64 bo, .int .i64 li, .int .i64 to, .string da] := (by (apply blk_to; (focus (repeat (first | (with_reducible assumption) | (with_reducible apply blk_drew) | (with_reducible apply blk_set) | ((with_reducible apply blk_other'); (first | (focus (dsimp only; assumption)) | (focus (simp; done)) | (focus (dsimp only; omega)))) | ((with_reducible apply blk_alloc_new); (first | (with_reducible rfl) | (focus (simp; done)) | (focus (simp; omega)))) | (with_reducible apply blk_alloc) | ((with_reducible apply blk_below); (with_reducible assumption))))); rfl)); have kn1 := kn kk1)
    go_ret2
    exact ⟨rfl, bta hb⟩
  · rcases h1 with h1 | h1
    all_goals
      go_enter Tryd.func86, Tryd.ntmps86
      go_wp2_with (go_at_call 54; (with_reducible refine (Hc.out _).mono ?_); rintro e wb ⟨rfl, hb⟩; have kk2 : blk wb (w.heap.size) = some #[.int .i64 no, .int .u64 sq, .int .i64 of, .int .i64 de, .int .i64 pr, .int .i64 bo, .int .i64 li, .int .i64 to, .string da] := (by (apply blk_to; (focus (repeat (first | (with_reducible assumption) | (with_reducible apply blk_drew) | (with_reducible apply blk_set) | ((with_reducible apply blk_other'); (first | (focus (dsimp only; assumption)) | (focus (simp; done)) | (focus (dsimp only; omega)))) | ((with_reducible apply blk_alloc_new); (first | (with_reducible rfl) | (focus (simp; done)) | (focus (simp; omega)))) | (with_reducible apply blk_alloc) | ((with_reducible apply blk_below); (with_reducible assumption))))); rfl)); have kn2 := kn kk2)
      go_ret2
      exact ⟨rfl, bta hb⟩
  · obtain ⟨n1, n2, n3, n4, n5, n6, n7, n8, n9, n10⟩ := hk
    go_enter Tryd.func86, Tryd.ntmps86
    go_wp2_with (go_at_call 54; (with_reducible refine (Hc.out _).mono ?_); rintro e wb ⟨rfl, hb⟩; have kk3 : blk wb (w.heap.size) = some #[.int .i64 no, .int .u64 sq, .int .i64 of, .int .i64 de, .int .i64 pr, .int .i64 bo, .int .i64 li, .int .i64 to, .string da] := (by (apply blk_to; (focus (repeat (first | (with_reducible assumption) | (with_reducible apply blk_drew) | (with_reducible apply blk_set) | ((with_reducible apply blk_other'); (first | (focus (dsimp only; assumption)) | (focus (simp; done)) | (focus (dsimp only; omega)))) | ((with_reducible apply blk_alloc_new); (first | (with_reducible rfl) | (focus (simp; done)) | (focus (simp; omega)))) | (with_reducible apply blk_alloc) | ((with_reducible apply blk_below); (with_reducible assumption))))); rfl)); have kn3 := kn kk3)
    go_ret2
    exact ⟨rfl, bta hb⟩

set_option maxRecDepth 100000 in
set_option maxHeartbeats 1600000 in
theorem expired_any (no sq of de pr bo li to now : Int) (da : ByteArray) (hda : da.size ≤ maxLen) (w : World) :
    Calls Tryd.prog 98 #[buv no sq of de pr bo li to da, .int .i64 now] w fun e w' => e = .returned (.tuple #[.bool (expM no sq of de pr bo li to da.size now).1, .int .i64 (expM no sq of de pr bo li to da.size now).2]) ∧ Below w.heap.size w w' := by
  have hc := fun w => left_any no sq of de pr bo li to now da hda w
  unfold expM
  obtain ⟨⟨x, e⟩, hx⟩ : ∃ r, leftC no sq of de pr bo li to da.size now = r := ⟨_, rfl⟩
  rw [hx] at hc ⊢
  clear hx
  have Hc := Lib.hid hc; clear hc
  cases h1 : decide (x ≤ 0) <;> cases h2 : (e == 0) <;> simp only [Bool.and_self, Bool.and_true, Bool.and_false, Bool.true_and, Bool.false_and] <;> simp only [decide_eq_true_eq, decide_eq_false_iff_not] at h1
  all_goals
    go_enter Tryd.func98, Tryd.ntmps98
    go_wp2_with (go_at_call 86; (with_reducible refine (Hc.out _).mono ?_); rintro e wb ⟨rfl, hb⟩)
    go_ret2
    exact ⟨rfl, bta hb⟩

theorem max0 (x : Int) : (x ≤ 0 ∧ max x 0 = 0) ∨ (0 < x ∧ max x 0 = x) := by omega

set_option maxRecDepth 100000 in
set_option maxHeartbeats 1600000 in
theorem left'_any (no sq of de pr bo li to now : Int) (da : ByteArray) (hda : da.size ≤ maxLen) (w : World) :
    Calls Tryd.prog 50 #[buv no sq of de pr bo li to da, .int .i64 now] w fun e w' => e = .returned (.tuple #[.int .i64 (leftM no sq of de pr bo li to da.size now).1, .int .i64 (leftM no sq of de pr bo li to da.size now).2]) ∧ Below w.heap.size w w' := by
  have hc := fun w => left_any no sq of de pr bo li to now da hda w
  unfold leftM
  obtain ⟨⟨x, e⟩, hx⟩ : ∃ r, leftC no sq of de pr bo li to da.size now = r := ⟨_, rfl⟩
  rw [hx] at hc ⊢
  clear hx
  have Hc := Lib.hid hc; clear hc
  go_enter Tryd.func50, Tryd.ntmps50
  go_wp2_with (go_at_call 86; (with_reducible refine (Hc.out _).mono ?_); rintro e wb ⟨rfl, hb⟩)
  all_goals (go_ret2; exact ⟨ret_2 (by omega) rfl, bta hb⟩)

set_option maxRecDepth 100000 in
set_option maxHeartbeats 1600000 in
theorem refLeft_any (no sq of de pr bo li to now : Int) (da : ByteArray) (hda : da.size ≤ maxLen) (w : World) :
    Calls Tryd.prog 99 #[buv no sq of de pr bo li to da, .int .i64 now] w fun e w' => e = .returned (.tuple #[.int .i64 (leftM no sq of de pr bo li to da.size now).1, .int .i64 (leftM no sq of de pr bo li to da.size now).2]) ∧ Below w.heap.size w w' := by
  have hc := fun w => refCheck_any no sq of de pr bo li to da hda w
  unfold leftM
  rcases leftC_cases no sq of de pr bo li to da.size now with ⟨c, h0, h1, h2⟩ | ⟨h0, h1, h2⟩ | ⟨h0, h1, h3, hk, h2⟩ <;> rw [h0] at hc <;> rw [h2] <;> clear h0 h2 <;> (have Hc := Lib.hid hc; clear hc)
  · have h1' : (c != 0) = true := by simpa using h1
    go_enter Tryd.func99, Tryd.ntmps99
    go_wp2_with (go_at_call 57; (with_reducible refine (Hc.out _).mono ?_); rintro e wb ⟨rfl, hb⟩; have kk4 : blk wb (w.heap.size) = some #[.int .i64 no, .int .u64 sq, .int .i64 of, .int .i64 de, .int .i64 pr, .int .i64 bo, .int .i64 li, .int .i64 to, .string da] := (by (apply blk_to; (focus (repeat (first | (with_reducible assumption) | (with_reducible apply blk_drew) | (with_reducible apply blk_set) | ((with_reducible apply blk_other'); (first | (focus (dsimp only; assumption)) | (focus (simp; done)) | (focus (dsimp only; omega)))) | ((with_reducible apply blk_alloc_new); (first | (with_reducible rfl) | (focus (simp; done)) | (focus (simp; omega)))) | (with_reducible apply blk_alloc) | ((with_reducible apply blk_below); (with_reducible assumption))))); rfl)); have kn4 := kn kk4)
    go_ret2
    exact ⟨rfl, bta hb⟩
  · rcases h1 with h1 | h1
    all_goals
      go_enter Tryd.func99, Tryd.ntmps99
      go_wp2_with (go_at_call 57; (with_reducible refine (Hc.out _).mono ?_); rintro e wb ⟨rfl, hb⟩; have kk5 : blk wb (w.heap.size) = some #[.int .i64 no, .int .u64 sq, .int .i64 of, .int .i64 de, .int .i64 pr, .int .i64 bo, .int .i64 li, .int .i64 to, .string da] := (by (apply blk_to; (focus (repeat (first | (with_reducible assumption) | (with_reducible apply blk_drew) | (with_reducible apply blk_set) | ((with_reducible apply blk_other'); (first | (focus (dsimp only; assumption)) | (focus (simp; done)) | (focus (dsimp only; omega)))) | ((with_reducible apply blk_alloc_new); (first | (with_reducible rfl) | (focus (simp; done)) | (focus (simp; omega)))) | (with_reducible apply blk_alloc) | ((with_reducible apply blk_below); (with_reducible assumption))))); rfl)); have kn5 := kn kk5)
      go_ret2
      exact ⟨rfl, bta hb⟩
  · obtain ⟨n1, n2, n3, n4, n5, n6, n7, n8, n9, n10⟩ := hk
    go_enter Tryd.func99, Tryd.ntmps99
    go_wp2_with (go_at_call 57; (with_reducible refine (Hc.out _).mono ?_); rintro e wb ⟨rfl, hb⟩; have kk6 : blk wb (w.heap.size) = some #[.int .i64 no, .int .u64 sq, .int .i64 of, .int .i64 de, .int .i64 pr, .int .i64 bo, .int .i64 li, .int .i64 to, .string da] := (by (apply blk_to; (focus (repeat (first | (with_reducible assumption) | (with_reducible apply blk_drew) | (with_reducible apply blk_set) | ((with_reducible apply blk_other'); (first | (focus (dsimp only; assumption)) | (focus (simp; done)) | (focus (dsimp only; omega)))) | ((with_reducible apply blk_alloc_new); (first | (with_reducible rfl) | (focus (simp; done)) | (focus (simp; omega)))) | (with_reducible apply blk_alloc) | ((with_reducible apply blk_below); (with_reducible assumption))))); rfl)); have kn6 := kn kk6)
    all_goals (go_ret2; exact ⟨ret_2 (by omega) rfl, bta hb⟩)

set_option maxRecDepth 100000 in
set_option maxHeartbeats 1600000 in
theorem refExpired_any (no sq of de pr bo li to now : Int) (da : ByteArray) (hda : da.size ≤ maxLen) (w : World) :
    Calls Tryd.prog 64 #[buv no sq of de pr bo li to da, .int .i64 now] w fun e w' => e = .returned (.tuple #[.bool (expM no sq of de pr bo li to da.size now).1, .int .i64 (expM no sq of de pr bo li to da.size now).2]) ∧ Below w.heap.size w w' := by
  have hc := fun w => refLeft_any no sq of de pr bo li to now da hda w
  unfold leftM at hc
  unfold expM
  obtain ⟨⟨x, e⟩, hx⟩ : ∃ r, leftC no sq of de pr bo li to da.size now = r := ⟨_, rfl⟩
  rw [hx] at hc ⊢
  clear hx
  rcases max0 x with ⟨h1, h3⟩ | ⟨h1, h3⟩ <;> simp only [h3] at hc <;> clear h3 <;> (have Hc := Lib.hid hc; clear hc) <;> cases h2 : (e == 0)
  · rw [show decide (x ≤ 0) = true by simpa using h1]
    go_enter Tryd.func64, Tryd.ntmps64
    go_wp2_with (go_at_call 99; (with_reducible refine (Hc.out _).mono ?_); rintro e wb ⟨rfl, hb⟩)
    go_ret2
    exact ⟨rfl, bta hb⟩
  · rw [show decide (x ≤ 0) = true by simpa using h1]
    go_enter Tryd.func64, Tryd.ntmps64
    go_wp2_with (go_at_call 99; (with_reducible refine (Hc.out _).mono ?_); rintro e wb ⟨rfl, hb⟩)
    go_ret2
    exact ⟨rfl, bta hb⟩
  all_goals
    have hx0 : (x == 0) = false := by simp; omega
    rw [show decide (x ≤ 0) = false by simpa using h1]
    go_enter Tryd.func64, Tryd.ntmps64
    go_wp2_with (go_at_call 99; (with_reducible refine (Hc.out _).mono ?_); rintro e wb ⟨rfl, hb⟩)
    go_ret2
    exact ⟨rfl, bta hb⟩
end Go.Proofs.YtahopnlibmiafaaDoor
