/- packhorsekit.At. -/
import Derived.Test.YtiphddlakbbfiaaDoorKitMod
namespace Go.Proofs.YtiphddlakbbfiaaDoor
set_option linter.unusedVariables false
open Go.RowKit

set_option maxRecDepth 100000 in
theorem at_any (a : Option Addr) (cap : Nat) (zs : List Int) (k : Nat) (w : World) (h : Row .i64 w a cap zs) (hk : k ≤ 100) :
    Calls Tryd.prog 65 #[.slice a zs.length cap, .int .i64 k] w fun e w' => e = .returned (.int .i64 (zs.getD k 0)) ∧ w = w' := by
  obtain ⟨r1, r2, _, _, r3⟩ := h
  unfold maxLen at r2
  by_cases c : k < zs.length
  · obtain ⟨b, off, rfl, _, hc⟩ := r3 (by omega)
    have hk1 := hc k c
    clear hc r3
    obtain ⟨x, hx⟩ : ∃ x, x = zs[k] := ⟨_, rfl⟩
    have hv : zs.getD k 0 = x := by rw [hx, List.getD_eq_getElem?_getD, List.getElem?_eq_getElem c]; rfl
    rw [← hx] at hk1
    rw [hv]
    clear hv hx
    have c' : (k : Int) < (zs.length : Int) := by omega
    go_enter Tryd.func65, Tryd.ntmps65
    go_wp2
    go_ret
    exact ⟨rfl, rfl⟩
  · have hv : zs.getD k 0 = 0 := by rw [List.getD_eq_getElem?_getD, List.getElem?_eq_none (by omega)]; rfl
    rw [hv]
    clear hv r3
    have c' : (zs.length : Int) ≤ (k : Int) := by omega
    go_enter Tryd.func65, Tryd.ntmps65
    go_wp2
    go_ret
    exact ⟨rfl, rfl⟩
end Go.Proofs.YtiphddlakbbfiaaDoor
