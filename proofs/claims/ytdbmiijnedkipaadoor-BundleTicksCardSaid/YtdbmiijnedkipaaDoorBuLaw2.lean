/- Expiry tick by tick. -/
import Derived.Test.YtdbmiijnedkipaaDoorBuLaw1
import Derived.Test.YtdbmiijnedkipaaDoorBuKit
namespace Go.Proofs.YtdbmiijnedkipaaDoor
set_option linter.unusedVariables false
open Go.RowKit

/-- A bundle of the kind that packhorsekit makes. -/
def Small (no sq de pr bo li to : Int) (da : ByteArray) : Prop := (1 ≤ no ∧ no ≤ 4) ∧ (0 ≤ sq ∧ sq ≤ 49) ∧ (1 ≤ de ∧ de ≤ 4) ∧ (0 ≤ pr ∧ pr ≤ 2) ∧ (0 ≤ bo ∧ bo ≤ 19) ∧ (1 ≤ li ∧ li ≤ 60) ∧ (1 ≤ to ∧ to ≤ 17) ∧ (da.size : Int) = to
theorem bundleOf_some (n : Int) (w : World) :
    Calls Tryd.prog 21 #[.int .i64 n] w fun e w' => ∃ no sq de pr bo li to da, Small no sq de pr bo li to da ∧ e = .returned (buv no sq 0 de pr bo li to da) ∧ Below w.heap.size w w' :=
  (bundleOf_any n w).mono fun e w' ⟨da, ⟨h0, h1, h2⟩, he, hb⟩ => by
    refine ⟨_, _, _, _, _, _, _, da, ?_, he, hb⟩
    generalize n % 1073741824 = k at *
    exact ⟨by omega, by omega, by omega, by omega, by omega, by omega, by omega, h2⟩
theorem small_ok {no sq de pr bo li to : Int} {da : ByteArray} (h : Small no sq de pr bo li to da) : buC no sq 0 de pr bo li to da.size = 0 := by
  obtain ⟨h1, h2, h3, h4, h5, h6, h7, h8⟩ := h
  unfold buC
  rw [if_neg, if_neg, if_neg, if_neg, if_neg] <;> (try unfold okI) <;> (try unfold okN) <;> omega
theorem small_left {no sq de pr bo li to : Int} {da : ByteArray} (h : Small no sq de pr bo li to da) (now : Int) (h0 : 0 ≤ now) (h1 : now ≤ 201) : leftC no sq 0 de pr bo li to da.size now = (bo + li - now, 0) := by
  unfold leftC
  rw [if_neg (by rw [small_ok h]; decide), if_neg (by omega)]
theorem small_leftM {no sq de pr bo li to : Int} {da : ByteArray} (h : Small no sq de pr bo li to da) (now : Int) (h0 : 0 ≤ now) (h1 : now ≤ 201) : leftM no sq 0 de pr bo li to da.size now = (max (bo + li - now) 0, 0) := by
  unfold leftM; rw [small_left h now h0 h1]
theorem small_expM {no sq de pr bo li to : Int} {da : ByteArray} (h : Small no sq de pr bo li to da) (now : Int) (h0 : 0 ≤ now) (h1 : now ≤ 201) : expM no sq 0 de pr bo li to da.size now = (decide (bo + li - now ≤ 0), 0) := by
  unfold expM; rw [small_left h now h0 h1]; simp
theorem small_len {no sq de pr bo li to : Int} {da : ByteArray} (h : Small no sq de pr bo li to da) : da.size ≤ maxLen := by
  obtain ⟨h1, h2, h3, h4, h5, h6, h7, h8⟩ := h
  unfold maxLen; omega

set_option maxRecDepth 100000 in
set_option maxHeartbeats 3200000 in
theorem bundleTicks_walk (n t : Int) (w : World) :
    Calls Tryd.prog 4 #[.int .i64 n, .int .i64 t] w fun e w' => e = .returned (.bool true) ∧ Below w.heap.size w w' := by
  have g0 := Lib.hid awake_any
  have Hb := Lib.hid fun w => bundleOf_some n w
  have Hm := Lib.hid fun w => mod_any t 201 w (by decide) (by decide)
  have t0 := Int.emod_nonneg t (show (201 : Int) ≠ 0 by decide)
  have t1 := Int.emod_lt_of_pos t (show (0 : Int) < 201 by decide)
  obtain ⟨now, hnow⟩ : ∃ k, t % 201 = k := ⟨_, rfl⟩
  rw [hnow] at Hm t0 t1
  clear hnow
  go_enter Tryd.func4, Tryd.ntmps4
  go_wp2_with (first
    | (go_at_call 21; (with_reducible refine (Hb.out _).mono ?_); rintro e w1 ⟨no, sq, de, pr, bo, li, to, da, hs, rfl, h1⟩; have HS := Lib.hid hs; clear hs)
    | (go_at_call 22; (with_reducible refine (Hm.out _).mono ?_); rintro e wx ⟨rfl, rfl⟩))
  have g1 := fun w => expired_any no sq 0 de pr bo li to now da (small_len HS.out) w
  have g2 := fun w => left'_any no sq 0 de pr bo li to now da (small_len HS.out) w
  have g3 := fun w => left'_any no sq 0 de pr bo li to (now + 1) da (small_len HS.out) w
  rw [small_expM HS.out now t0 (by omega)] at g1
  rw [small_leftM HS.out now t0 (by omega)] at g2
  rw [small_leftM HS.out (now + 1) (by omega) (by omega)] at g3
  have b1 := HS.out.2.2.2.2.1
  have b2 := HS.out.2.2.2.2.2.1
  by_cases hL : bo + li - now ≤ 0
  · rw [show decide (bo + li - now ≤ 0) = true by simpa using hL] at g1
    rw [show max (bo + li - now) 0 = 0 by omega] at g2
    rw [show max (bo + li - (now + 1)) 0 = 0 by omega] at g3
    replace g1 := Lib.hid g1; replace g2 := Lib.hid g2; replace g3 := Lib.hid g3
    go_wp2_with (first
      | (go_at_call 13; (with_reducible refine (g1.out _).mono ?_); rintro e w2 ⟨rfl, h2⟩; have kk1 : blk w2 (w1.heap.size) = some #[.int .i64 no, .int .u64 sq, .int .i64 0, .int .i64 de, .int .i64 pr, .int .i64 bo, .int .i64 li, .int .i64 to, .string da] := (by (apply blk_to; (focus (repeat (first | (with_reducible assumption) | (with_reducible apply blk_drew) | (with_reducible apply blk_set) | ((with_reducible apply blk_other'); (first | (focus (dsimp only; assumption)) | (focus (simp; done)) | (focus (dsimp only; omega)))) | ((with_reducible apply blk_alloc_new); (first | (with_reducible rfl) | (focus (simp; done)) | (focus (simp; omega)))) | (with_reducible apply blk_alloc) | ((with_reducible apply blk_below); (with_reducible assumption))))); rfl)); have kn1 := kn kk1)
      | (go_at_call 15; (with_reducible refine (g2.out _).mono ?_); rintro e w3 ⟨rfl, h3⟩; have kk2 : blk w3 (w1.heap.size) = some #[.int .i64 no, .int .u64 sq, .int .i64 0, .int .i64 de, .int .i64 pr, .int .i64 bo, .int .i64 li, .int .i64 to, .string da] := (by (apply blk_to; (focus (repeat (first | (with_reducible assumption) | (with_reducible apply blk_drew) | (with_reducible apply blk_set) | ((with_reducible apply blk_other'); (first | (focus (dsimp only; assumption)) | (focus (simp; done)) | (focus (dsimp only; omega)))) | ((with_reducible apply blk_alloc_new); (first | (with_reducible rfl) | (focus (simp; done)) | (focus (simp; omega)))) | (with_reducible apply blk_alloc) | ((with_reducible apply blk_below); (with_reducible assumption))))); rfl)); have kn2 := kn kk2)
      | (go_at_call 15; (with_reducible refine (g3.out _).mono ?_); rintro e w4 ⟨rfl, h4⟩; have kk3 : blk w4 (w1.heap.size) = some #[.int .i64 no, .int .u64 sq, .int .i64 0, .int .i64 de, .int .i64 pr, .int .i64 bo, .int .i64 li, .int .i64 to, .string da] := (by (apply blk_to; (focus (repeat (first | (with_reducible assumption) | (with_reducible apply blk_drew) | (with_reducible apply blk_set) | ((with_reducible apply blk_other'); (first | (focus (dsimp only; assumption)) | (focus (simp; done)) | (focus (dsimp only; omega)))) | ((with_reducible apply blk_alloc_new); (first | (with_reducible rfl) | (focus (simp; done)) | (focus (simp; omega)))) | (with_reducible apply blk_alloc) | ((with_reducible apply blk_below); (with_reducible assumption))))); rfl)); have kn3 := kn kk3)
      | (go_at_call 12; (with_reducible refine (g0.out _).mono ?_); rintro e wa ⟨rfl, ha⟩))
    go_ret
    exact ⟨rfl, by (repeat (first | (with_reducible assumption) | (with_reducible exact Below.refl _ _) | (with_reducible refine beld_drew ?_) | ((with_reducible refine bset' ?_ ?_); (first | (focus (dsimp only; assumption)) | (focus (simp; done)) | (focus (dsimp only; omega)))) | (with_reducible refine belt_alloc ?_) | ((with_reducible refine zeroed_below' ?_ ?_); (first | (focus (simp; done)) | (focus (dsimp only; omega)))) | (with_reducible refine bt ?_ (by assumption))))⟩
  · obtain ⟨L, hLe⟩ : ∃ L, L = bo + li - now := ⟨_, rfl⟩
    have hL1 : 1 ≤ L := by omega
    have hL2 : L ≤ 79 := by omega
    rw [show decide (bo + li - now ≤ 0) = false by simpa using hL] at g1
    rw [show max (bo + li - now) 0 = L by omega] at g2
    rw [show max (bo + li - (now + 1)) 0 = L - 1 by omega] at g3
    have e1 : (L == 0) = false := by simp; omega
    have e2 : now + L = bo + li := by omega
    clear hL hLe
    replace g1 := Lib.hid g1; replace g2 := Lib.hid g2; replace g3 := Lib.hid g3
    have E2 := Lib.hid e2; clear e2
    go_wp2_with (first
      | (go_at_call 13; (with_reducible refine (g1.out _).mono ?_); rintro e w2 ⟨rfl, h2⟩; have kk4 : blk w2 (w1.heap.size) = some #[.int .i64 no, .int .u64 sq, .int .i64 0, .int .i64 de, .int .i64 pr, .int .i64 bo, .int .i64 li, .int .i64 to, .string da] := (by (apply blk_to; (focus (repeat (first | (with_reducible assumption) | (with_reducible apply blk_drew) | (with_reducible apply blk_set) | ((with_reducible apply blk_other'); (first | (focus (dsimp only; assumption)) | (focus (simp; done)) | (focus (dsimp only; omega)))) | ((with_reducible apply blk_alloc_new); (first | (with_reducible rfl) | (focus (simp; done)) | (focus (simp; omega)))) | (with_reducible apply blk_alloc) | ((with_reducible apply blk_below); (with_reducible assumption))))); rfl)); have kn4 := kn kk4)
      | (go_at_call 15; (with_reducible refine (g2.out _).mono ?_); rintro e w3 ⟨rfl, h3⟩; have kk5 : blk w3 (w1.heap.size) = some #[.int .i64 no, .int .u64 sq, .int .i64 0, .int .i64 de, .int .i64 pr, .int .i64 bo, .int .i64 li, .int .i64 to, .string da] := (by (apply blk_to; (focus (repeat (first | (with_reducible assumption) | (with_reducible apply blk_drew) | (with_reducible apply blk_set) | ((with_reducible apply blk_other'); (first | (focus (dsimp only; assumption)) | (focus (simp; done)) | (focus (dsimp only; omega)))) | ((with_reducible apply blk_alloc_new); (first | (with_reducible rfl) | (focus (simp; done)) | (focus (simp; omega)))) | (with_reducible apply blk_alloc) | ((with_reducible apply blk_below); (with_reducible assumption))))); rfl)); have kn5 := kn kk5)
      | (go_at_call 15; (with_reducible refine (g3.out _).mono ?_); rintro e w4 ⟨rfl, h4⟩; have kk6 : blk w4 (w1.heap.size) = some #[.int .i64 no, .int .u64 sq, .int .i64 0, .int .i64 de, .int .i64 pr, .int .i64 bo, .int .i64 li, .int .i64 to, .string da] := (by (apply blk_to; (focus (repeat (first | (with_reducible assumption) | (with_reducible apply blk_drew) | (with_reducible apply blk_set) | ((with_reducible apply blk_other'); (first | (focus (dsimp only; assumption)) | (focus (simp; done)) | (focus (dsimp only; omega)))) | ((with_reducible apply blk_alloc_new); (first | (with_reducible rfl) | (focus (simp; done)) | (focus (simp; omega)))) | (with_reducible apply blk_alloc) | ((with_reducible apply blk_below); (with_reducible assumption))))); rfl)); have kn6 := kn kk6)
      | (go_at_call 12; (with_reducible refine (g0.out _).mono ?_); rintro e wa ⟨rfl, ha⟩))
    all_goals first
      | (go_ret; exact ⟨rfl, by (repeat (first | (with_reducible assumption) | (with_reducible exact Below.refl _ _) | (with_reducible refine beld_drew ?_) | ((with_reducible refine bset' ?_ ?_); (first | (focus (dsimp only; assumption)) | (focus (simp; done)) | (focus (dsimp only; omega)))) | (with_reducible refine belt_alloc ?_) | ((with_reducible refine zeroed_below' ?_ ?_); (first | (focus (simp; done)) | (focus (dsimp only; omega)))) | (with_reducible refine bt ?_ (by assumption))))⟩)
      | (exfalso; have := E2.out; omega)
end Go.Proofs.YtdbmiijnedkipaaDoor
