/- Parts of a proof, printed by a program of mine out of my texts: FrRefChk. -/
import Derived.Test.YtaiofjffoboicaaGreatDoorCEq
import Derived.Test.YtaiofjffoboicaaGreatDoorCFrRefH
set_option linter.unusedSimpArgs false
set_option linter.unusedVariables false
namespace Go.Proofs.YtaiofjffoboicaaGreatDoor
open Go.RowKit
def wrgB (f : Fr) : Bool:=decide ((f.k = 3 ∧ f.a < f.b) ∨ (f.k = 4 ∧ 1125899906842624 < f.b) ∨ (f.k = 6 ∧ (f.b < 1 ∨ 3 < f.b)))
set_option maxRecDepth 100000 in
set_option maxHeartbeats 1600000 in
theorem refWrongB_any (f : Fr) (w : World) : Calls Tryz.prog 32 #[frv f] w fun e w' => e = .returned (.bool (wrgB f)) ∧ Below w.heap.size w w':=by
  by_cases h3 : f.k = 3
  · have e1 : (f.k == 3) = true:=by simp [h3]
    rw [show wrgB f = decide (f.a < f.b) by unfold wrgB;simp [h3]]
    clear h3
    go_enter Tryz.func32,Tryz.ntmps32
    go_wp2
    go_ret
    exact ⟨rfl,by (repeat(first|(with_reducible first|assumption|exact Below.refl _ _|refine je ?_|refine jl ?_)|((with_reducible refine jp ?_ ?_);first|focus(dsimp only;assumption)|focus(simp;done)|focus(dsimp only;omega))|(with_reducible refine bt ?_ (by assumption))))⟩
  · have e1 : (f.k == 3) = false:=by simp [h3]
    by_cases h4 : f.k = 4
    · have e2 : (f.k == 4) = true:=by simp [h4]
      rw [show wrgB f = decide (1125899906842624 < f.b) by unfold wrgB;simp [h4]]
      clear h3 h4
      go_enter Tryz.func32,Tryz.ntmps32
      go_wp2
      go_ret
      exact ⟨rfl,by (repeat(first|(with_reducible first|assumption|exact Below.refl _ _|refine je ?_|refine jl ?_)|((with_reducible refine jp ?_ ?_);first|focus(dsimp only;assumption)|focus(simp;done)|focus(dsimp only;omega))|(with_reducible refine bt ?_ (by assumption))))⟩
    · have e2 : (f.k == 4) = false:=by simp [h4]
      by_cases h6 : f.k = 6
      · have e3 : (f.k == 6) = true:=by simp [h6]
        by_cases c1 : f.b < 1
        · have d1 : decide (f.b < 1) = true:=decide_eq_true c1
          rw [show wrgB f = true by unfold wrgB;simp [h6,c1]]
          clear h3 h4 h6 c1
          go_enter Tryz.func32,Tryz.ntmps32
          go_wp2
          go_ret
          exact ⟨rfl,by (repeat(first|(with_reducible first|assumption|exact Below.refl _ _|refine je ?_|refine jl ?_)|((with_reducible refine jp ?_ ?_);first|focus(dsimp only;assumption)|focus(simp;done)|focus(dsimp only;omega))|(with_reducible refine bt ?_ (by assumption))))⟩
        · have d1 : decide (f.b < 1) = false:=decide_eq_false c1
          rw [show wrgB f = decide (3 < f.b) by unfold wrgB;simp [h6,c1]]
          clear h3 h4 h6 c1
          go_enter Tryz.func32,Tryz.ntmps32
          go_wp2
          go_ret
          exact ⟨rfl,by (repeat(first|(with_reducible first|assumption|exact Below.refl _ _|refine je ?_|refine jl ?_)|((with_reducible refine jp ?_ ?_);first|focus(dsimp only;assumption)|focus(simp;done)|focus(dsimp only;omega))|(with_reducible refine bt ?_ (by assumption))))⟩
      · have e3 : (f.k == 6) = false:=by simp [h6]
        rw [show wrgB f = false by unfold wrgB;simp [h3,h4,h6]]
        clear h3 h4 h6
        go_enter Tryz.func32,Tryz.ntmps32
        go_wp2
        go_ret
        exact ⟨rfl,by (repeat(first|(with_reducible first|assumption|exact Below.refl _ _|refine je ?_|refine jl ?_)|((with_reducible refine jp ?_ ?_);first|focus(dsimp only;assumption)|focus(simp;done)|focus(dsimp only;omega))|(with_reducible refine bt ?_ (by assumption))))⟩
end Go.Proofs.YtaiofjffoboicaaGreatDoor
