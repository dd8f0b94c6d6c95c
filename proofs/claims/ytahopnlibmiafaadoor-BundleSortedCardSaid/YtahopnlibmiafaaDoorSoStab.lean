/- slices.SortStableFunc at 20 bundles or fewer. -/
import Derived.Test.YtahopnlibmiafaaDoorSoIns
namespace Go.Proofs.YtahopnlibmiafaaDoor
set_option linter.unusedVariables false
open Go.RowKit
set_option maxRecDepth 100000 in
set_option maxHeartbeats 1600000 in
theorem stable_none (v : Value) (w : World) :
    Calls Tryd.prog 94 #[v, .int .i64 0, .func (.func 56) #[] #[]] w fun e w' => e = .returned (.tuple #[]) ∧ w = w' := by
  have g0 : ∀ w, Calls Tryd.prog 114 #[v, .int .i64 0, .int .i64 0, .func (.func 56) #[] #[]] w fun e w' => e = .returned (.tuple #[]) ∧ w = w' := fun w => insert_none v 0 (by omega) w
  replace g0 := Lib.hid g0
  go_enter Tryd.func94, Tryd.ntmps94
  go_wp2
  refine wp_loop_rounds 1 ?_
  rw [rounds_succ]
  go_wp2_with (go_at_call 114; (with_reducible refine (g0.out _).mono ?_); rintro e w1 ⟨rfl, rfl⟩)
  refine wp_loop_rounds 1 ?_
  rw [rounds_succ]
  go_wp2
  go_end0
  exact ⟨rfl, rfl⟩
set_option maxRecDepth 100000 in
set_option maxHeartbeats 1600000 in
theorem stable_any (g cap : Nat) (L : List Bn) (sp : List Value) (h0 : 0 < L.length) (hlen : L.length ≤ 20) (hcap : L.length ≤ cap) (hI : ∀ x ∈ L, BnI x) (w : World) (hbk : blk w g = some (rowC bn L ++ sp).toArray) :
    Calls Tryd.prog 94 #[.slice (some ⟨g, 0, none⟩) L.length cap, .int .i64 L.length, .func (.func 56) #[] #[]] w fun e w' =>
      e = .returned (.tuple #[]) ∧ w.grownBy w' (some g) ∧ blk w' g = some (rowC bn (isort ltB L) ++ sp).toArray := by
  have g1 := insert_any g cap L sp 0 L.length h0 (Nat.le_refl _) (by omega) hcap hI w hbk
  rw [List.take_of_length_le (Nat.le_refl _), List.drop_zero, List.drop_of_length_le (Nat.le_refl _), List.take_zero, List.nil_append, List.append_nil] at g1
  have g1 : Calls Tryd.prog 114 #[.slice (some ⟨g, 0, none⟩) L.length cap, .int .i64 0, .int .i64 L.length, .func (.func 56) #[] #[]] w fun e w' => e = .returned (.tuple #[]) ∧ w.grownBy w' (some g) ∧ blk w' g = some (rowC bn (isort ltB L) ++ sp).toArray := g1
  by_cases h20 : L.length < 20
  · have l1 : ¬ ((20 : Int) ≤ (L.length : Int)) := by omega
    have l2 : ¬ ((20 : Int) < (L.length : Int)) := by omega
    obtain ⟨n, hn⟩ : ∃ n, L.length = n := ⟨_, rfl⟩
    rw [hn] at g1 l1 l2 ⊢
    replace g1 := Lib.hid g1
    clear hn h20 hlen hcap h0 hI hbk
    go_enter Tryd.func94, Tryd.ntmps94
    go_wp2
    refine wp_loop_rounds 1 ?_
    rw [rounds_succ]
    go_wp2_with (go_at_call 114; (with_reducible refine (g1.out).mono ?_); rintro e w1 ⟨rfl, hg, hb⟩)
    refine wp_loop_rounds 1 ?_
    rw [rounds_succ]
    go_wp2
    go_end0
    exact ⟨rfl, hg, hb⟩
  · have hn : L.length = 20 := by omega
    have g0 : ∀ w, Calls Tryd.prog 114 #[.slice (some ⟨g, 0, none⟩) 20 cap, .int .i64 20, .int .i64 20, .func (.func 56) #[] #[]] w fun e w' => e = .returned (.tuple #[]) ∧ w = w' := fun w => insert_none _ 20 (by omega) w
    replace g0 := Lib.hid g0
    rw [hn] at g1 ⊢
    have g1 : Calls Tryd.prog 114 #[.slice (some ⟨g, 0, none⟩) 20 cap, .int .i64 0, .int .i64 20, .func (.func 56) #[] #[]] w fun e w' => e = .returned (.tuple #[]) ∧ w.grownBy w' (some g) ∧ blk w' g = some (rowC bn (isort ltB L) ++ sp).toArray := g1
    replace g1 := Lib.hid g1
    show Calls Tryd.prog 94 #[.slice (some ⟨g, 0, none⟩) 20 cap, .int .i64 20, .func (.func 56) #[] #[]] w _
    clear hn h20 hlen hcap h0 hI hbk
    go_enter Tryd.func94, Tryd.ntmps94
    go_wp2
    refine wp_loop_rounds 2 ?_
    rw [rounds_succ]
    go_wp2_with (go_at_call 114; (with_reducible refine (g1.out).mono ?_); rintro e w1 ⟨rfl, hg, hb⟩)
    rw [rounds_succ]
    go_wp2_with (go_at_call 114; (with_reducible refine (g0.out _).mono ?_); rintro e w2 ⟨rfl, rfl⟩)
    refine wp_loop_rounds 1 ?_
    rw [rounds_succ]
    go_wp2
    go_end0
    exact ⟨rfl, hg, hb⟩
set_option maxRecDepth 100000 in
theorem sortStable_none (a : Option Addr) (cap : Nat) (w : World) :
    Calls Tryd.prog 55 #[.slice a 0 cap, .func (.func 56) #[] #[]] w fun e w' => e = .returned (.tuple #[]) ∧ w = w' := by
  have g0 := Lib.hid (fun w => stable_none (.slice a 0 cap) w)
  go_enter Tryd.func55, Tryd.ntmps55
  go_wp2_with (go_at_call 94; (with_reducible refine (g0.out _).mono ?_); rintro e w1 ⟨rfl, rfl⟩)
  go_end0
  exact ⟨rfl, rfl⟩
set_option maxRecDepth 100000 in
theorem sortStable_any (g cap : Nat) (L : List Bn) (sp : List Value) (h0 : 0 < L.length) (hlen : L.length ≤ 20) (hcap : L.length ≤ cap) (hI : ∀ x ∈ L, BnI x) (w : World) (hbk : blk w g = some (rowC bn L ++ sp).toArray) :
    Calls Tryd.prog 55 #[.slice (some ⟨g, 0, none⟩) L.length cap, .func (.func 56) #[] #[]] w fun e w' =>
      e = .returned (.tuple #[]) ∧ w.grownBy w' (some g) ∧ blk w' g = some (rowC bn (isort ltB L) ++ sp).toArray := by
  have g1 := Lib.hid (stable_any g cap L sp h0 hlen hcap hI w hbk)
  go_enter Tryd.func55, Tryd.ntmps55
  go_wp2_with (go_at_call 94; (with_reducible refine (g1.out).mono ?_); rintro e w1 ⟨rfl, hg, hb⟩)
  go_end0
  exact ⟨rfl, hg, hb⟩
end Go.Proofs.YtahopnlibmiafaaDoor
