/- Parts of a proof, printed by a program of mine out of my texts: KitMod. -/
import Derived.Test.YtahopnlibmiafaaDoorMSlice
set_option linter.unusedSimpArgs false
set_option linter.unusedVariables false
namespace Go.Proofs.YtahopnlibmiafaaDoor
open Go.RowKit
theorem emod_tmod (a n : Int) (h : 1 ≤ n) : (a.tmod n < 0 → a % n = a.tmod n + n) ∧ (¬ a.tmod n < 0 → a % n = a.tmod n) ∧ -n < a.tmod n ∧ a.tmod n < n := by
  have h1 := Int.emod_nonneg a (show n ≠ 0 by omega)
  have h2 := Int.emod_lt_of_pos a (show 0 < n by omega)
  have h3 := Int.tmod_eq_emod (a := a) (b := n)
  split at h3 <;> omega
set_option maxRecDepth 100000 in
theorem mod_any (a n : Int) (w : World) (h1 : 1 ≤ n) (h2 : n ≤ 1152921504606846976) :
    Calls Tryd.prog 47 #[.int .i64 a, .int .i64 n] w fun e w' => e = .returned (.int .i64 (a % n)) ∧ w = w' := by
  obtain ⟨m1, m2, m3, m4⟩ := emod_tmod a n h1
  have hz : (n == 0) = false := by simp; omega
  have e1 : IntKind.i64.wrap (a.tmod n) = a.tmod n := IntWalk.i64_in _ (by omega)
  have e2 : IntKind.i64.wrap (a.tmod n + n) = a.tmod n + n := IntWalk.i64_in _ (by omega)
  by_cases c : a.tmod n < 0
  · rw [m1 c]
    clear m1 m2
    go_enter Tryd.func47, Tryd.ntmps47
    go_wp2
    go_ret
    exact ⟨rfl, rfl⟩
  · rw [m2 c]
    clear m1 m2
    go_enter Tryd.func47, Tryd.ntmps47
    go_wp2
    go_ret
    exact ⟨rfl, rfl⟩
end Go.Proofs.YtahopnlibmiafaaDoor
