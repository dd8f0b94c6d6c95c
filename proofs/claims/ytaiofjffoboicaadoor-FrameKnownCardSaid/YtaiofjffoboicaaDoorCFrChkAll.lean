/- Parts of a proof, printed by a program of mine out of my texts: FrChkF. -/
import Derived.Test.YtaiofjffoboicaaDoorCChk
import Derived.Test.YtaiofjffoboicaaDoorCFrChk3
import Derived.Test.YtaiofjffoboicaaDoorCFrChk5
import Derived.Test.YtaiofjffoboicaaDoorCFrChk6
set_option linter.unusedSimpArgs false
set_option linter.unusedVariables false
namespace Go.Proofs.YtaiofjffoboicaaDoor
open Go.RowKit
set_option maxRecDepth 100000 in
set_option maxHeartbeats 800000 in
theorem check_kno (f : Fr) (hk : ¬ (1 ≤ f.k ∧ f.k ≤ 7)) (w : World) : Calls Tryd.prog 17 #[frv f] w fun e w' => e = .returned (.int .i64 7) ∧ Below w.heap.size w w':=by
  have gu:=Lib.hid (uses_no f.k hk)
  clear hk
  go_enter Tryd.func17,Tryd.ntmps17
  go_wp2_with (go_at_call 25;(with_reducible refine (gu.out _).mono ?_);rintro e w1 ⟨rfl,h1⟩)
  go_ret
  exact ⟨rfl,by (repeat(first|(with_reducible first|assumption|exact Below.refl _ _|refine je ?_|refine jl ?_)|((with_reducible refine jp ?_ ?_);first|focus(dsimp only;assumption)|focus(simp;done)|focus(dsimp only;omega))|(with_reducible refine bt ?_ (by assumption))))⟩
theorem fcheck_any (f : Fr) (hda : f.da.size ≤ maxLen) (h0b : 0 ≤ f.b) (w : World) : Calls Tryd.prog 17 #[frv f] w fun e w' => e = .returned (.int .i64 (frC f)) ∧ Below w.heap.size w w':=by
  by_cases hk : 1 ≤ f.k ∧ f.k ≤ 7
  · have h' : f.k = 1 ∨ f.k = 2 ∨ f.k = 3 ∨ f.k = 4 ∨ f.k = 5 ∨ f.k = 6 ∨ f.k = 7:=by omega
    rcases h' with h|h|h|h|h|h|h
    · exact check_k1 f h hda h0b w
    · exact check_k2 f h hda h0b w
    · exact check_k3 f h hda h0b w
    · exact check_k4 f h hda h0b w
    · exact check_k5 f h hda h0b w
    · exact check_k6 f h hda h0b w
    · exact check_k7 f h hda h0b w
  · rw [show frC f = 7 from if_pos hk]
    exact check_kno f hk w
end Go.Proofs.YtaiofjffoboicaaDoor
