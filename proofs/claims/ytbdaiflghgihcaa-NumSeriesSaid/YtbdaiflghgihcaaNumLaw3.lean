/- The walk of NumForms. -/
import Derived.Test.YtbdaiflghgihcaaNumLaw2
import Derived.Test.YtbdaiflghgihcaaNumInt
namespace Go.Proofs.Ytbdaiflghgihcaa
set_option linter.unusedVariables false
open Go.RowKit

set_option maxRecDepth 100000 in
set_option maxHeartbeats 800000 in
theorem numForms_walk (a0 : Int) (a1 : ByteArray) (a2 a3 : Int) (w0 : (Lit.int .u64 a0).wf = true) (w1 : a1.size ≤ maxLen) (w2 : (Lit.int .i64 a2).wf = true) (w3 : (Lit.int .i64 a3).wf = true) (w : World) :
    Calls Try.prog 6 #[.int .u64 a0, .string a1, .int .i64 a2, .int .i64 a3] w fun e w' => e = .returned (.bool true) ∧ Below w.heap.size w w' := by
  obtain ⟨h0, h1⟩ := u64_bounds w0
  obtain ⟨h2, h3⟩ := i64_bounds w2
  obtain ⟨h4, h5⟩ := i64_bounds w3
  clear w0 w2 w3
  by_cases hc : a1.size ≤ 5000
  · obtain ⟨n, rfl⟩ := Int.eq_ofNat_of_zero_le h0
    obtain ⟨p, hp⟩ : ∃ p : ByteArray, p = ⟨(putN n).toArray⟩ := ⟨_, rfl⟩
    have cp : ∀ w, Calls Try.prog 16 #[.int .u64 n] w fun e w' => e = .returned (.string p) ∧ Below w.heap.size w w' := fun w => by rw [hp]; exact numPut_any n h1 w
    have cp' : ∀ w, Calls Try.prog 19 #[.int .u64 n] w fun e w' => e = .returned (.string p) ∧ Below w.heap.size w w' := fun w => by rw [hp]; exact refPut_any n w h1
    obtain ⟨⟨g1, g2, g3⟩, hg⟩ : ∃ r, getN a1.data.toList a2 = r := ⟨_, rfl⟩
    have cg : ∀ w, Calls Try.prog 17 #[.string a1, .int .i64 a2] w fun e w' => e = .returned (.tuple #[.int .u64 g1, .int .i64 g2, .int .i64 g3]) ∧ Below w.heap.size w w' := fun w => by
      have := numGet_any a1 a2 w w1; rw [hg] at this; exact this
    have cg' : ∀ w, Calls Try.prog 21 #[.string a1, .int .i64 a2] w fun e w' => e = .returned (.tuple #[.int .u64 g1, .int .i64 g2, .int .i64 g3]) ∧ w = w' := fun w => by
      have := refGet_any a1 a2 w w1; rw [hg] at this; exact this
    obtain ⟨⟨i1, i2, i3⟩, hi⟩ : ∃ r, intN a1.data.toList a2 a3 = r := ⟨_, rfl⟩
    have ci : ∀ w, Calls Try.prog 22 #[.string a1, .int .i64 a2, .int .i64 a3] w fun e w' => e = .returned (.tuple #[.int .i64 i1, .int .i64 i2, .int .i64 i3]) ∧ Below w.heap.size w w' := fun w => by
      have := numInt_any a1 a2 a3 w w1 h2 h3 h5; rw [hi] at this; exact this
    have ci' : ∀ w, Calls Try.prog 23 #[.string a1, .int .i64 a2, .int .i64 a3] w fun e w' => e = .returned (.tuple #[.int .i64 i1, .int .i64 i2, .int .i64 i3]) ∧ w = w' := fun w => by
      have := refInt_any a1 a2 a3 w w1 h2 h3 h5; rw [hi] at this; exact this
    obtain ⟨z, hz⟩ : ∃ z : Int, z = ((putN n).length : Nat) := ⟨_, rfl⟩
    have cs : ∀ w, Calls Try.prog 18 #[.int .u64 n] w fun e w' => e = .returned (.int .i64 z) ∧ Below w.heap.size w w' := fun w => by rw [hz]; exact numSize_any n h1 w
    have cs' : ∀ w, Calls Try.prog 20 #[.int .u64 n] w fun e w' => e = .returned (.int .i64 z) ∧ w = w' := fun w => by rw [hz]; exact refSize_any n w h1
    clear hp hg hi hz
    have Cp := Lib.hid cp; clear cp
    have Cp' := Lib.hid cp'; clear cp'
    have Cg := Lib.hid cg; clear cg
    have Cg' := Lib.hid cg'; clear cg'
    have Ci := Lib.hid ci; clear ci
    have Ci' := Lib.hid ci'; clear ci'
    have Cs := Lib.hid cs; clear cs
    have Cs' := Lib.hid cs'; clear cs'
    unfold maxLen at w1
    go_enter Try.func6, Try.ntmps6
    go_wp2_with (first
      | (go_at_call 16; (with_reducible refine (Cp.out _).mono ?_); rintro e wa ⟨rfl, hb1⟩)
      | (go_at_call 19; (with_reducible refine (Cp'.out _).mono ?_); rintro e wb ⟨rfl, hb2⟩)
      | (go_at_call 18; (with_reducible refine (Cs.out _).mono ?_); rintro e wc ⟨rfl, hb3⟩)
      | (go_at_call 20; (with_reducible refine (Cs'.out _).mono ?_); rintro e wd ⟨rfl, rfl⟩)
      | (go_at_call 17; (with_reducible refine (Cg.out _).mono ?_); rintro e we ⟨rfl, hb4⟩)
      | (go_at_call 21; (with_reducible refine (Cg'.out _).mono ?_); rintro e wf ⟨rfl, rfl⟩)
      | (go_at_call 22; (with_reducible refine (Ci.out _).mono ?_); rintro e wg ⟨rfl, hb5⟩)
      | (go_at_call 23; (with_reducible refine (Ci'.out _).mono ?_); rintro e wh ⟨rfl, rfl⟩)
      | (go_at_call 15; (with_reducible refine (awake_any _).mono ?_); rintro e wi ⟨rfl, hb6⟩))
    go_ret
    exact ⟨rfl, bt (bt (bt (bt (bt hb1 hb2) hb3) hb4) hb5) hb6⟩
  · unfold maxLen at w1
    have h5000 : 5000 < a1.size := by omega
    go_enter Try.func6, Try.ntmps6
    go_wp2_with (go_at_call 15; (with_reducible refine (awake_any _).mono ?_); rintro e w1 ⟨rfl, hb1⟩)
    go_ret
    exact ⟨rfl, hb1⟩
end Go.Proofs.Ytbdaiflghgihcaa
