/- The walks of the reference of layer 1: what each of its functions returns. -/
import Derived.Test.YtiphddlakbbfiaaDoorBase
import Derived.Test.YtiphddlakbbfiaaDoorNumMath
namespace Go.Proofs.YtiphddlakbbfiaaDoor
set_option linter.unusedVariables false
open Go.RowKit

theorem size_start (n : Nat) : 1 + (hi 10 (n / 128)).length = (putN n).length := by unfold putN; simp; omega
theorem size_step (m k L : Nat) (h : 128 ≤ m) (hm : m < 18446744073709551616) (he : k + (hi 10 (m / 128)).length = L) : k + 1 + (hi 10 (m / 128 / 128)).length = L := by
  rw [hi_step 10 (m / 128) (by omega) (by omega)] at he; simp at he; omega
theorem size_end (m k L : Nat) (h : m < 128) (he : k + (hi 10 (m / 128)).length = L) : k = L := by
  rw [show m / 128 = 0 by omega, hi_zero] at he; simpa using he

set_option maxRecDepth 100000 in
set_option maxHeartbeats 400000 in
theorem refSize_any (n : Nat) (w : World) (hn : (n : Int) ≤ 18446744073709551615) :
    Calls Tryd.prog 37 #[.int .u64 n] w fun e w' => e = .returned (.int .i64 ((putN n).length : Nat)) ∧ w = w' := by
  have hlen := putN_length n
  go_enter Tryd.func37, Tryd.ntmps37
  go_wp2
  go_loop [0, 3] (fun a s => ∃ m k : Nat, a = .int .u64 m ∧ s = .int .i64 k ∧ m ≤ n ∧ 1 ≤ k ∧ k + (hi 10 (m / 128)).length = (putN n).length) (fun a _ => (intOf a).toNat)
  case atStart => exact ⟨n, 1, rfl, rfl, Nat.le_refl _, Nat.le_refl _, size_start n⟩
  case round =>
    obtain ⟨m, k, rfl, rfl, hm, hk, he⟩ := hrel
    have hkl : k ≤ (putN n).length := by omega
    have He := Lib.hid he; clear he
    by_cases h : 128 ≤ m
    · go_wp2
      go_round
      case rel => exact ⟨m / 128, k + 1, by go_num, by go_num, by omega, by omega, size_step m k _ h (by omega) He.out⟩
      case measure => simp [intOf]; omega
    · go_wp2
      go_ret
      exact ⟨ret_int (by rw [size_end m k _ (by omega) He.out]), rfl⟩

theorem put_start (n : Nat) (b : UInt8) (hb : b = UInt8.ofNat (n % 128)) : hi 10 (n / 128) ++ [b] = putN n := by subst hb; rfl
theorem put_step (m : Nat) (l L : List UInt8) (h : m ≠ 0) (hm : m < 18446744073709551616) (he : hi 10 m ++ l = L) : hi 10 (m / 128) ++ (UInt8.ofNat (128 + m % 128) :: l) = L := by
  rw [hi_step 10 m h (by omega)] at he; rw [← he]; simp

set_option maxRecDepth 100000 in
set_option maxHeartbeats 400000 in
theorem refPut_any (n : Nat) (w : World) (hn : (n : Int) ≤ 18446744073709551615) :
    Calls Tryd.prog 57 #[.int .u64 n] w fun e w' => e = .returned (bstr (putN n)) ∧ Below w.heap.size w w' := by
  have hob := fun x w => one_byte (P := Tryd.prog) Tryd.underlying43 Tryd.underlying5 Tryd.underlying9 x w
  have h0 := put_start n _ rfl
  have H0 := Lib.hid h0; clear h0
  go_enter Tryd.func57, Tryd.ntmps57
  go_wp2
  go_loopw [0, 3] (fun a s wr => ∃ (m : Nat) (l : List UInt8), a = .int .u64 m ∧ s = bstr l ∧ m ≤ n ∧ hi 10 m ++ l = putN n ∧ Below w.heap.size w wr) (fun a _ _ => (intOf a).toNat)
  case atStart => exact ⟨n / 128, [UInt8.ofNat (n % 128)], by go_num, by simp [bstr], by omega, H0.out, (Below.refl _ _).alloc (Nat.le_refl _) _⟩
  case round =>
    obtain ⟨m, l, rfl, hs, hm, he, hb⟩ := hrel
    obtain rfl := hs
    have hl : l.length ≤ 11 := by have := putN_length n; rw [← he] at this; simp at this; omega
    have He := Lib.hid he; clear he
    by_cases h : m = 0
    · subst h
      unfold bstr
      go_wp2
      go_ret
      exact ⟨ret_str (by have := He.out; rw [hi_zero] at this; simpa using this), hb⟩
    · have h1 : 1 ≤ m := by omega
      unfold bstr
      go_wp2
      go_roundw
      case rel =>
        refine ⟨m / 128, UInt8.ofNat (128 + m % 128) :: l, by go_num, ?_, by omega, put_step m l _ h (by omega) He.out, hb.trans ((Below.refl _ _).alloc hb.size _)⟩
        exact vstr (by simp)
      case measure => simp [intOf]; omega
end Go.Proofs.YtiphddlakbbfiaaDoor
