/- Parts of a proof, printed by a program of mine out of my texts: FrRefH. -/
import Derived.Test.YtaiofjffoboicaaGreatDoorCEq
set_option linter.unusedSimpArgs false
set_option linter.unusedVariables false
namespace Go.Proofs.YtaiofjffoboicaaGreatDoor
open Go.RowKit
set_option maxRecDepth 100000 in
theorem refHasB_any (k : Int) (w : World) : Calls Tryz.prog 27 #[.int .i64 k] w fun e w' => e = .returned (.bool (hasB k)) ∧ w = w':=by
  unfold hasB
  by_cases h3 : k = 3
  · subst h3
    go_enter Tryz.func27,Tryz.ntmps27
    go_wp2
    go_ret
    exact ⟨rfl,rfl⟩
  · have e3 : (k == 3) = false:=by simp [h3]
    by_cases h4 : k = 4
    · subst h4
      go_enter Tryz.func27,Tryz.ntmps27
      go_wp2
      go_ret
      exact ⟨rfl,rfl⟩
    · have e4 : (k == 4) = false:=by simp [h4]
      by_cases h6 : k = 6
      · subst h6
        go_enter Tryz.func27,Tryz.ntmps27
        go_wp2
        go_ret
        exact ⟨rfl,rfl⟩
      · have e6 : (k == 6) = false:=by simp [h6]
        rw [show decide (k = 3 ∨ k = 4 ∨ k = 6) = false by simp [h3,h4,h6]]
        clear h3 h4 h6
        go_enter Tryz.func27,Tryz.ntmps27
        go_wp2
        go_ret
        exact ⟨rfl,rfl⟩
set_option maxRecDepth 100000 in
theorem refHasID_any (k : Int) (w : World) : Calls Tryz.prog 28 #[.int .i64 k] w fun e w' => e = .returned (.bool (hasI k)) ∧ w = w':=by
  unfold hasI
  by_cases h3 : k = 5
  · subst h3
    go_enter Tryz.func28,Tryz.ntmps28
    go_wp2
    go_ret
    exact ⟨rfl,rfl⟩
  · have e3 : (k == 5) = false:=by simp [h3]
    by_cases h4 : k = 6
    · subst h4
      go_enter Tryz.func28,Tryz.ntmps28
      go_wp2
      go_ret
      exact ⟨rfl,rfl⟩
    · have e4 : (k == 6) = false:=by simp [h4]
      rw [show decide (k = 5 ∨ k = 6) = false by simp [h3,h4]]
      clear h3 h4
      go_enter Tryz.func28,Tryz.ntmps28
      go_wp2
      go_ret
      exact ⟨rfl,rfl⟩
end Go.Proofs.YtaiofjffoboicaaGreatDoor
