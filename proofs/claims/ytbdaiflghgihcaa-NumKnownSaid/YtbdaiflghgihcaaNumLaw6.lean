/- The walk of NumKnown. -/
import Derived.Test.YtbdaiflghgihcaaNumLaw5
namespace Go.Proofs.Ytbdaiflghgihcaa
set_option linter.unusedVariables false
open Go.RowKit

theorem kput0 (w : World) : Calls Try.prog 16 #[.int .u64 0] w fun e w' => e = .returned (.string ⟨#[0]⟩) ∧ Below w.heap.size w w' :=
  (numPut_int 0 (by omega) (by omega) w).mono fun _ _ ⟨h, hb⟩ => ⟨h, hb⟩

theorem kput1 (w : World) : Calls Try.prog 16 #[.int .u64 127] w fun e w' => e = .returned (.string ⟨#[127]⟩) ∧ Below w.heap.size w w' :=
  (numPut_int 127 (by omega) (by omega) w).mono fun _ _ ⟨h, hb⟩ => ⟨h, hb⟩

theorem kput2 (w : World) : Calls Try.prog 16 #[.int .u64 128] w fun e w' => e = .returned (.string ⟨#[129, 0]⟩) ∧ Below w.heap.size w w' :=
  (numPut_int 128 (by omega) (by omega) w).mono fun _ _ ⟨h, hb⟩ => ⟨h, hb⟩

theorem kput3 (w : World) : Calls Try.prog 16 #[.int .u64 18446744073709551615] w fun e w' => e = .returned (.string ⟨#[129, 255, 255, 255, 255, 255, 255, 255, 255, 127]⟩) ∧ Below w.heap.size w w' :=
  (numPut_int 18446744073709551615 (by omega) (by omega) w).mono fun _ _ ⟨h, hb⟩ => ⟨h, hb⟩

theorem kget0 (w : World) : Calls Try.prog 35 #[.string ⟨#[129, 255, 255, 255, 255, 255, 255, 255, 255, 127]⟩, .int .i64 0, .int .u64 18446744073709551615, .int .i64 10, .int .i64 0] w fun e w' => e = .returned (.bool true) ∧ Below w.heap.size w w' :=
  gets_yes ⟨#[129, 255, 255, 255, 255, 255, 255, 255, 255, 127]⟩ 0 18446744073709551615 10 0 w (by decide) (by decide)

theorem kget1 (w : World) : Calls Try.prog 35 #[.string ⟨#[130, 44, 5]⟩, .int .i64 2, .int .u64 5, .int .i64 3, .int .i64 0] w fun e w' => e = .returned (.bool true) ∧ Below w.heap.size w w' :=
  gets_yes ⟨#[130, 44, 5]⟩ 2 5 3 0 w (by decide) (by decide)

theorem kget2 (w : World) : Calls Try.prog 35 #[.string ⟨#[130, 44, 5]⟩, .int .i64 3, .int .u64 0, .int .i64 3, .int .i64 11] w fun e w' => e = .returned (.bool true) ∧ Below w.heap.size w w' :=
  gets_yes ⟨#[130, 44, 5]⟩ 3 0 3 11 w (by decide) (by decide)

theorem kget3 (w : World) : Calls Try.prog 35 #[.string ⟨#[130]⟩, .int .i64 0, .int .u64 0, .int .i64 1, .int .i64 11] w fun e w' => e = .returned (.bool true) ∧ Below w.heap.size w w' :=
  gets_yes ⟨#[130]⟩ 0 0 1 11 w (by decide) (by decide)

theorem kget4 (w : World) : Calls Try.prog 35 #[.string ⟨#[0]⟩, .int .i64 2, .int .u64 0, .int .i64 0, .int .i64 2] w fun e w' => e = .returned (.bool true) ∧ Below w.heap.size w w' :=
  gets_yes ⟨#[0]⟩ 2 0 0 2 w (by decide) (by decide)

theorem kget5 (w : World) : Calls Try.prog 35 #[.string ⟨#[130, 128, 128, 128, 128, 128, 128, 128, 128, 0]⟩, .int .i64 0, .int .u64 0, .int .i64 9, .int .i64 2] w fun e w' => e = .returned (.bool true) ∧ Below w.heap.size w w' :=
  gets_yes ⟨#[130, 128, 128, 128, 128, 128, 128, 128, 128, 0]⟩ 0 0 9 2 w (by decide) (by decide)

theorem kint0 (w : World) : Calls Try.prog 22 #[.string ⟨#[130, 44]⟩, .int .i64 0, .int .i64 299] w fun e w' => e = .returned (.tuple #[.int .i64 0, .int .i64 0, .int .i64 2]) ∧ Below w.heap.size w w' :=
  (numInt_any ⟨#[130, 44]⟩ 0 299 w (by decide) (by omega) (by omega) (by omega)).mono fun _ _ ⟨h, hb⟩ => ⟨h.trans (by rw [show intN [130, 44] 0 299 = (0, 0, 2) by decide]; rfl), hb⟩

theorem kint1 (w : World) : Calls Try.prog 22 #[.string ⟨#[130, 44]⟩, .int .i64 0, .int .i64 300] w fun e w' => e = .returned (.tuple #[.int .i64 300, .int .i64 2, .int .i64 0]) ∧ Below w.heap.size w w' :=
  (numInt_any ⟨#[130, 44]⟩ 0 300 w (by decide) (by omega) (by omega) (by omega)).mono fun _ _ ⟨h, hb⟩ => ⟨h.trans (by rw [show intN [130, 44] 0 300 = (300, 2, 0) by decide]; rfl), hb⟩

theorem ktext (w : World) : Calls Try.prog 37 #[.string ⟨#[97, 98]⟩] w fun e w' => e = .returned (.string ⟨#[2, 97, 98]⟩) ∧ Below w.heap.size w w' :=
  (numPutText_any ⟨#[97, 98]⟩ w (by decide)).mono fun _ _ ⟨h, hb⟩ => ⟨h, hb⟩

theorem kgt0 (w : World) : Calls Try.prog 38 #[.string ⟨#[3, 97, 98]⟩, .int .i64 0, .int .i64 10] w fun e w' => e = .returned (.tuple #[.string ⟨#[]⟩, .int .i64 1, .int .i64 4]) ∧ Below w.heap.size w w' :=
  (numGetText_any ⟨#[3, 97, 98]⟩ 0 10 w (by decide) (by omega) (by omega) (by omega)).mono fun _ _ ⟨h, hb⟩ => ⟨h.trans (by rw [show getTextN [3, 97, 98] 0 10 = ([], 1, 4) by decide]; rfl), hb⟩

theorem kgt1 (w : World) : Calls Try.prog 38 #[.string ⟨#[3, 97, 98]⟩, .int .i64 0, .int .i64 2] w fun e w' => e = .returned (.tuple #[.string ⟨#[]⟩, .int .i64 0, .int .i64 2]) ∧ Below w.heap.size w w' :=
  (numGetText_any ⟨#[3, 97, 98]⟩ 0 2 w (by decide) (by omega) (by omega) (by omega)).mono fun _ _ ⟨h, hb⟩ => ⟨h.trans (by rw [show getTextN [3, 97, 98] 0 2 = ([], 0, 2) by decide]; rfl), hb⟩

theorem kgl (w : World) : Calls Try.prog 39 #[.string ⟨#[2, 5]⟩, .int .i64 0, .int .i64 10] w fun e w' => ∃ v, e = .returned (.tuple #[v, .int .i64 2, .int .i64 11]) ∧ Below w.heap.size w w' :=
  (numGetList_any ⟨#[2, 5]⟩ 0 10 w (by decide) (by omega) (by omega) (by omega)).mono fun _ _ ⟨v, h, ho, hb⟩ => by
    have e : getListN [2, 5] 0 10 = ([], 2, 11) := by decide
    have e' : getListN (⟨#[2, 5]⟩ : ByteArray).data.toList 0 10 = ([], 2, 11) := e
    rw [e'] at h
    exact ⟨v, h, hb⟩
theorem klist (w : World) : Calls Try.prog 36 #[.slice (some ⟨w.heap.size, 0, none⟩) 2 2] (w.alloc (.cells #[.int .u64 5, .int .u64 300] 22)) fun e w' => e = .returned (.string ⟨#[2, 5, 130, 44]⟩) ∧ Below (w.alloc (.cells #[.int .u64 5, .int .u64 300] 22)).heap.size (w.alloc (.cells #[.int .u64 5, .int .u64 300] 22)) w' := by
  have hr : Row .u64 (w.alloc (.cells #[.int .u64 5, .int .u64 300] 22)) (some ⟨w.heap.size, 0, none⟩) 2 [5, 300] := by
    refine ⟨by decide, by unfold maxLen; omega, by decide, by simp, fun _ => ⟨w.heap.size, 0, rfl, by simp, fun i hi => ?_⟩⟩
    have : i = 0 ∨ i = 1 := by simp at hi; omega
    rcases this with rfl | rfl <;> simp
  exact (numPutList_any _ 2 [5, 300] _ hr (by decide)).mono fun _ _ ⟨h, hb⟩ => ⟨h, hb⟩

set_option maxRecDepth 100000 in
set_option maxHeartbeats 1600000 in
theorem numKnown_walk (w : World) : Calls Try.prog 11 #[] w fun e w' => e = .returned (.bool true) ∧ Below w.heap.size w w' := by
  go_enter Try.func11, Try.ntmps11
  go_wp2_with (first
    | (go_at_call 16; (with_reducible refine (kput0 _).mono ?_); rintro e k0 ⟨rfl, b0⟩)
    | (go_at_call 16; (with_reducible refine (kput1 _).mono ?_); rintro e k1 ⟨rfl, b1⟩)
    | (go_at_call 16; (with_reducible refine (kput2 _).mono ?_); rintro e k2 ⟨rfl, b2⟩)
    | (go_at_call 16; (with_reducible refine (kput3 _).mono ?_); rintro e k3 ⟨rfl, b3⟩)
    | (go_at_call 35; (with_reducible refine (kget0 _).mono ?_); rintro e k4 ⟨rfl, b4⟩)
    | (go_at_call 35; (with_reducible refine (kget1 _).mono ?_); rintro e k5 ⟨rfl, b5⟩)
    | (go_at_call 35; (with_reducible refine (kget2 _).mono ?_); rintro e k6 ⟨rfl, b6⟩)
    | (go_at_call 35; (with_reducible refine (kget3 _).mono ?_); rintro e k7 ⟨rfl, b7⟩)
    | (go_at_call 35; (with_reducible refine (kget4 _).mono ?_); rintro e k8 ⟨rfl, b8⟩)
    | (go_at_call 35; (with_reducible refine (kget5 _).mono ?_); rintro e k9 ⟨rfl, b9⟩)
    | (go_at_call 22; (with_reducible refine (kint0 _).mono ?_); rintro e k10 ⟨rfl, b10⟩)
    | (go_at_call 22; (with_reducible refine (kint1 _).mono ?_); rintro e k11 ⟨rfl, b11⟩)
    | (go_at_call 37; (with_reducible refine (ktext _).mono ?_); rintro e k12 ⟨rfl, b12⟩)
    | (go_at_call 38; (with_reducible refine (kgt0 _).mono ?_); rintro e k13 ⟨rfl, b13⟩)
    | (go_at_call 38; (with_reducible refine (kgt1 _).mono ?_); rintro e k14 ⟨rfl, b14⟩)
    | (go_at_call 39; (with_reducible refine (kgl _).mono ?_); rintro e k20 ⟨v, rfl, b20⟩)
    | (go_at_call 36; (with_reducible refine (klist _).mono ?_); rintro e k21 ⟨rfl, b21⟩)
    | (go_at_call 15; (with_reducible refine (awake_any _).mono ?_); rintro e k22 ⟨rfl, b22⟩))
  have b21a := ((Below.refl _ k11).alloc (Nat.le_refl _) (Obj.cells #[Value.int IntKind.u64 5, Value.int IntKind.u64 300] 22)).trans (b21.mono (by simp))
  go_ret
  exact ⟨rfl, (bt (bt (bt (bt (bt (bt (bt (bt (bt (bt (bt (bt (bt (bt (bt (bt (bt b0 b1) b2) b3) b4) b5) b6) b7) b8) b9) b10) b11) b21a) b12) b13) b14) b20) b22)⟩

end Go.Proofs.Ytbdaiflghgihcaa
