/- Made gives a valid bundle. -/
import Derived.Test.YtiphddlakbbfiaaDoorWiMade3
namespace Go.Proofs.YtiphddlakbbfiaaDoor
set_option linter.unusedVariables false
open Go.RowKit

theorem buC_zero {no sq of de pr bo li to n : Int} (h1 : okI no sq of) (h2 : okN de pr bo li to) (h3 : n ≠ 0) (h4 : n ≤ 1000) (h5 : of + n ≤ to) : buC no sq of de pr bo li to n = 0 := by
  rcases buC_cases no sq of de pr bo li to n with ⟨_, h⟩ | ⟨_, _, h⟩ | ⟨_, _, _, h⟩ | ⟨_, _, _, _, h⟩ | ⟨_, _, _, _, _, h⟩ | ⟨h, _⟩
  · exact absurd h1 h
  · exact absurd h2 h
  · exact absurd h h3
  · omega
  · omega
  · exact h
theorem made_any (a : Option Addr) (cap : Nat) (zs : List Int) : ∃ no sq of de pr bo li to : Nat, ∃ da : ByteArray, buC no sq of de pr bo li to da.size = 0 ∧ da.size ≤ 300 ∧
    ∀ w, Row .i64 w a cap zs → Calls Tryd.prog 24 #[.slice a zs.length cap] w fun e w' => e = .returned (buv no sq of de pr bo li to da) ∧ Below w.heap.size w w' := by
  obtain ⟨n0, e0, l0⟩ := nat_mod (zs.getD 0 0) 16 (by omega)
  obtain ⟨n1, e1, l1⟩ := nat_mod (zs.getD 1 0) 1099511627776 (by omega)
  obtain ⟨n2, e2, l2⟩ := nat_mod (zs.getD 2 0) 16 (by omega)
  obtain ⟨n3, e3, l3⟩ := nat_mod (zs.getD 3 0) 3 (by omega)
  obtain ⟨n4, e4, l4⟩ := nat_mod (zs.getD 4 0) 1099511627776 (by omega)
  obtain ⟨n5, e5, l5⟩ := nat_mod (zs.getD 5 0) 1048576 (by omega)
  obtain ⟨n6, e6, l6⟩ := nat_mod (zs.getD 6 0) 3 (by omega)
  by_cases hlen : 8 < zs.length
  · obtain ⟨da, hda⟩ : ∃ da : ByteArray, da.data.toList = bytL (zs.drop 8) (min 300 (zs.length - 8)) := ⟨⟨(bytL (zs.drop 8) (min 300 (zs.length - 8))).toArray⟩, rfl⟩
    have hsz : da.size = min 300 (zs.length - 8) := by
      have h1 : da.size = da.data.toList.length := by simp
      rw [h1, hda, bytL_len _ _ (by rw [List.length_drop]; omega)]
    by_cases h6 : n6 = 0
    · refine ⟨1 + n0, n1, 0, 1 + n2, n3, n4, 1 + n5, da.size, da, buC_zero (by unfold okI; omega) (by unfold okN; omega) (by omega) (by omega) (by omega), by omega, fun w h => ?_⟩
      have := made_long_whole a cap zs n0 n1 n2 n3 n4 n5 n6 e0 e1 e2 e3 e4 e5 e6 l0 l1 l2 l5 da (by omega) (by omega) hlen hda h6 w h
      exact this
    · obtain ⟨n7, e7, l7⟩ := nat_mod (zs.getD 7 0) (20000 - (da.size : Int)) (by omega)
      obtain ⟨m6, e8, l8⟩ := nat_mod (zs.getD 6 0) (20001 - (n7 : Int) - (da.size : Int)) (by omega)
      refine ⟨1 + n0, n1, n7, 1 + n2, n3, n4, 1 + n5, n7 + da.size + m6, da, buC_zero (by unfold okI; omega) (by unfold okN; omega) (by omega) (by omega) (by omega), by omega, fun w h => ?_⟩
      have := made_long_part a cap zs n0 n1 n2 n3 n4 n5 n6 e0 e1 e2 e3 e4 e5 e6 l0 l1 l2 l5 da (by omega) (by omega) hlen hda (by omega) n7 m6 e7 l7 e8 l8 w h
      exact this
  · by_cases h6 : n6 = 0
    · refine ⟨1 + n0, n1, 0, 1 + n2, n3, n4, 1 + n5, 1, ⟨#[120]⟩, buC_zero (by unfold okI; omega) (by unfold okN; omega) (by decide) (by decide) (by decide), by decide, fun w h => ?_⟩
      have := made_short_whole a cap zs n0 n1 n2 n3 n4 n5 n6 e0 e1 e2 e3 e4 e5 e6 l0 l1 l2 l5 (by omega) h6 w h
      exact this
    · obtain ⟨n7, e7, l7⟩ := nat_mod (zs.getD 7 0) 19999 (by omega)
      obtain ⟨m6, e8, l8⟩ := nat_mod (zs.getD 6 0) (20001 - (n7 : Int) - 1) (by omega)
      refine ⟨1 + n0, n1, n7, 1 + n2, n3, n4, 1 + n5, n7 + 1 + m6, ⟨#[120]⟩, buC_zero (by unfold okI; omega) (by unfold okN; omega) (by decide) (by decide) (by show (n7 : Int) + 1 ≤ _; omega), by decide, fun w h => ?_⟩
      have := made_short_part a cap zs n0 n1 n2 n3 n4 n5 n6 e0 e1 e2 e3 e4 e5 e6 l0 l1 l2 l5 (by omega) (by omega) n7 m6 e7 l7 e8 l8 w h
      exact this
end Go.Proofs.YtiphddlakbbfiaaDoor
