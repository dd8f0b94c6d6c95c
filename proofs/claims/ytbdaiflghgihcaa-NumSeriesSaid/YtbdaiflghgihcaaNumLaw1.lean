/- The walks of gets, awake, NumBack, NumOnly and NumOrder. -/
import Derived.Test.YtbdaiflghgihcaaNumPut2
import Derived.Test.YtbdaiflghgihcaaNumGet
namespace Go.Proofs.Ytbdaiflghgihcaa
set_option linter.unusedVariables false
open Go.RowKit

theorem numPut_int (x : Int) (h0 : 0 ≤ x) (hx : x ≤ 18446744073709551615) (w : World) :
    Calls Try.prog 16 #[.int .u64 x] w fun e w' => e = .returned (bstr (putN x.toNat)) ∧ Below w.heap.size w w' := by
  obtain ⟨n, rfl⟩ := Int.eq_ofNat_of_zero_le h0
  exact numPut_any n hx w
theorem numSize_int (x : Int) (h0 : 0 ≤ x) (hx : x ≤ 18446744073709551615) (w : World) :
    Calls Try.prog 18 #[.int .u64 x] w fun e w' => e = .returned (.int .i64 ((putN x.toNat).length : Nat)) ∧ Below w.heap.size w w' := by
  obtain ⟨n, rfl⟩ := Int.eq_ofNat_of_zero_le h0
  exact numSize_any n hx w

theorem put300 (w : World) : Calls Try.prog 16 #[.int .u64 300] w fun e w' => e = .returned (.string ⟨#[130, 44]⟩) ∧ Below w.heap.size w w' :=
  (numPut_int 300 (by omega) (by omega) w).mono fun _ _ ⟨h, hb⟩ => ⟨h, hb⟩
theorem size128 (w : World) : Calls Try.prog 18 #[.int .u64 128] w fun e w' => e = .returned (.int .i64 2) ∧ Below w.heap.size w w' :=
  (numSize_int 128 (by omega) (by omega) w).mono fun _ _ ⟨h, hb⟩ => ⟨h, hb⟩

set_option maxRecDepth 100000 in
set_option maxHeartbeats 400000 in
/-- gets says yes where what is read is what was expected. -/
theorem gets_yes (s : ByteArray) (q : Int) (n p e : Nat) (w : World) (hs : s.size ≤ maxLen) (h : getN s.data.toList q = (n, p, e)) :
    Calls Try.prog 35 #[.string s, .int .i64 q, .int .u64 n, .int .i64 p, .int .i64 e] w fun e w' => e = .returned (.bool true) ∧ Below w.heap.size w w' := by
  have c := numGet_any s q w hs
  rw [h] at c
  unfold gotV at c
  have C := Lib.hid c; clear c
  have H := Lib.hid h; clear h
  go_enter Try.func35, Try.ntmps35
  go_wp2_with (go_at_call 17; refine C.out.mono ?_; rintro e w' ⟨rfl, hb⟩)
  go_ret
  exact ⟨rfl, hb⟩

theorem gets_a (w : World) : Calls Try.prog 35 #[.string ⟨#[130, 44, 5]⟩, .int .i64 0, .int .u64 300, .int .i64 2, .int .i64 0] w fun e w' => e = .returned (.bool true) ∧ Below w.heap.size w w' :=
  gets_yes ⟨#[130, 44, 5]⟩ 0 300 2 0 w (by decide) (by decide)
theorem gets_b (w : World) : Calls Try.prog 35 #[.string ⟨#[128, 1]⟩, .int .i64 0, .int .u64 0, .int .i64 0, .int .i64 3] w fun e w' => e = .returned (.bool true) ∧ Below w.heap.size w w' :=
  gets_yes ⟨#[128, 1]⟩ 0 0 0 3 w (by decide) (by decide)

set_option maxRecDepth 100000 in
set_option maxHeartbeats 400000 in
theorem awake_any (w : World) : Calls Try.prog 15 #[] w fun e w' => e = .returned (.bool true) ∧ Below w.heap.size w w' := by
  go_enter Try.func15, Try.ntmps15
  go_wp2_with (first
    | (go_at_call 16; (with_reducible refine (put300 _).mono ?_); rintro e w1 ⟨rfl, hb1⟩)
    | (go_at_call 18; (with_reducible refine (size128 _).mono ?_); rintro e w2 ⟨rfl, hb2⟩)
    | (go_at_call 35; (with_reducible refine (gets_a _).mono ?_); rintro e w3 ⟨rfl, hb3⟩)
    | (go_at_call 35; (with_reducible refine (gets_b _).mono ?_); rintro e w4 ⟨rfl, hb4⟩))
  go_ret
  exact ⟨rfl, ((hb1.trans (hb2.mono hb1.size)).trans (hb3.mono (Nat.le_trans hb1.size hb2.size))).trans (hb4.mono (Nat.le_trans hb1.size (Nat.le_trans hb2.size hb3.size)))⟩
end Go.Proofs.Ytbdaiflghgihcaa
