/- The walk of num.Get. -/
import Derived.Test.YtiphddlakbbfiaaDoorNumRefGet
namespace Go.Proofs.YtiphddlakbbfiaaDoor
set_option linter.unusedVariables false
open Go.RowKit

theorem ext_size (s : ByteArray) (q : Nat) (h : q ≤ s.size) : (s.extract q s.size).size = s.size - q := by simp
theorem ext_get (s : ByteArray) (q i : Nat) (h : i < (s.extract q s.size).size) (h2 : q + i < s.size) : (s.extract q s.size)[i] = s[q + i] := by
  rw [ByteArray.getElem_extract]

def RGetN (s : ByteArray) (q : Nat) (n i : Value) : Prop := ∃ m k : Nat, n = .int .u64 m ∧ i = .int .i64 k ∧ (m : Int) ≤ 18446744073709551615 ∧ q + k ≤ s.size ∧ Reads s (q + k) q m

set_option maxRecDepth 100000 in
set_option maxHeartbeats 400000 in
theorem numGet_out (s : ByteArray) (q : Int) (w : World) (hs : s.size ≤ maxLen) (hq : q < 0 ∨ (s.size : Int) < q) :
    Calls Tryd.prog 72 #[.string s, .int .i64 q] w fun e w' => e = .returned (gotV (getN s.data.toList q)) ∧ Below w.heap.size w w' := by
  unfold maxLen at hs
  have hr := Lib.hid (getN_out s q hq)
  by_cases h : q < 0
  · go_enter Tryd.func72, Tryd.ntmps72
    go_wp2
    go_ret3
    exact ⟨ret_got (by rw [hr.out]; exact ⟨rfl, rfl, rfl⟩), Below.refl _ _⟩
  · have h' : (s.size : Int) < q := by omega
    go_enter Tryd.func72, Tryd.ntmps72
    go_wp2
    go_ret3
    exact ⟨ret_got (by rw [hr.out]; exact ⟨rfl, rfl, rfl⟩), Below.refl _ _⟩

set_option maxRecDepth 100000 in
set_option maxHeartbeats 800000 in
theorem numGet_in (s : ByteArray) (q : Nat) (w : World) (hs : s.size ≤ maxLen) (hq : q ≤ s.size) :
    Calls Tryd.prog 72 #[.string s, .int .i64 q] w fun e w' => e = .returned (gotV (getN s.data.toList q)) ∧ Below w.heap.size w w' := by
  unfold maxLen at hs
  rw [getN_in s q hq]
  obtain ⟨cap, W1, hconv, hz, hcell, hbel⟩ := bytes_of (P := Tryd.prog) Tryd.underlying9 Tryd.underlying43 Tryd.underlying5 (s.extract q s.size) w
  have Hcell := Lib.hid hcell; clear hcell
  have Hbel := Lib.hid hbel; clear hbel
  have Hz := Lib.hid hz; clear hz
  go_enter Tryd.func72, Tryd.ntmps72
  go_wp2
  clear hconv
  go_loop [4, 22] (fun n i => RGetN s q n i) (fun _ i => s.size - (intOf i).toNat)
  case atStart => exact ⟨0, 0, rfl, rfl, by omega, by omega, by simp [Reads]⟩
  case round =>
    obtain ⟨m, k, rfl, rfl, hm, hks, hr⟩ := hrel
    have Hr := Lib.hid hr; clear hr
    by_cases hlt : q + k < s.size
    · have hk : k < s.size - q := by omega
      have hcell : W1.cell? ⟨w.heap.size, k, none⟩ = some (.int .u8 (s[q + k].toNat : Int)) := by
        rw [Hcell.out k (by simp; omega), ext_get s q k (by simp; omega) hlt]
      have hb := s[q + k].toNat_lt
      by_cases hf : q + k = q ∧ s[q + k].toNat = 128
      · obtain ⟨h0, h128⟩ := hf
        have hb1 : ((s[q + k].toNat : Int) == 128) = true := by rw [h128]; rfl
        have H := Lib.hid h128; clear h128
        have H0 := Lib.hid h0; clear h0
        have hk0 : ((k : Int) == 0) = true := by have := H0.out; simp; omega
        go_wp2
        go_ret3
        exact ⟨ret_got (by rw [reads_form s (q + k) q m hlt Hr.out H0.out H.out]; exact ⟨rfl, by show _ = ((q + k : Nat) : Int); have := H0.out; omega, rfl⟩), Hbel.out⟩
      · have fin : ∀ (M : Int), M = ((m * 128 + s[q + k].toNat % 128 : Nat) : Int) → m < 144115188075855872 → 128 ≤ s[q + k].toNat → RGetN s q (.int .u64 M) (.int .i64 ((k : Int) + 1)) := fun M hM h1 h2 =>
          ⟨m * 128 + s[q + k].toNat % 128, k + 1, by rw [hM], by go_num, by omega, by omega, reads_on s (q + k) q m hlt (by omega) Hr.out hf h1 h2⟩
        have Fin := Lib.hid fin; clear fin
        have Hf := Lib.hid hf; clear hf
        by_cases he : k = 0
        · have hk0 : ((k : Int) == 0) = true := by simp; omega
          have He := Lib.hid he; clear he
          have hc : ((s[q + k].toNat : Int) == 128) = false := by
            have : ¬ s[q + k].toNat = 128 := fun h => Hf.out ⟨by have := He.out; omega, h⟩
            simp; omega
          by_cases h57 : (144115188075855872 : Int) ≤ (m : Int)
          · go_wp2
            go_ret3
            exact ⟨ret_got (by rw [reads_range s (q + k) q m hlt Hr.out Hf.out (by omega)]; exact ⟨rfl, rfl, rfl⟩), Hbel.out⟩
          go_wp2
          · go_ret3
            exact ⟨ret_got (by rw [reads_done s (q + k) q m hlt Hr.out Hf.out (by omega) (by omega)]; exact ⟨by show (_ : Int) = ((m * 128 + s[q + k].toNat % 128 : Nat) : Int); omega, rfl, rfl⟩), Hbel.out⟩
          · go_round
            case rel => exact Fin.out _ (by omega) (by omega) (by omega)
            case measure => simp [intOf]; omega
        · have hk0 : ((k : Int) == 0) = false := by simp; omega
          have He := Lib.hid he; clear he
          by_cases h57 : (144115188075855872 : Int) ≤ (m : Int)
          · go_wp2
            go_ret3
            exact ⟨ret_got (by rw [reads_range s (q + k) q m hlt Hr.out Hf.out (by omega)]; exact ⟨rfl, rfl, rfl⟩), Hbel.out⟩
          go_wp2
          · go_ret3
            exact ⟨ret_got (by rw [reads_done s (q + k) q m hlt Hr.out Hf.out (by omega) (by omega)]; exact ⟨by show (_ : Int) = ((m * 128 + s[q + k].toNat % 128 : Nat) : Int); omega, rfl, rfl⟩), Hbel.out⟩
          · go_round
            case rel => exact Fin.out _ (by omega) (by omega) (by omega)
            case measure => simp [intOf]; omega
    · have hk : ¬ k < s.size - q := by omega
      go_wp2
      go_ret3
      exact ⟨ret_got (by rw [reads_short s (q + k) q m (by omega) Hr.out (by omega)]; exact ⟨rfl, rfl, rfl⟩), Hbel.out⟩

theorem numGet_any (s : ByteArray) (q : Int) (w : World) (hs : s.size ≤ maxLen) :
    Calls Tryd.prog 72 #[.string s, .int .i64 q] w fun e w' => e = .returned (gotV (getN s.data.toList q)) ∧ Below w.heap.size w w' := by
  by_cases h : q < 0 ∨ (s.size : Int) < q
  · exact numGet_out s q w hs h
  · obtain ⟨n, rfl⟩ := Int.eq_ofNat_of_zero_le (show 0 ≤ q by omega)
    exact numGet_in s n w hs (by omega)
end Go.Proofs.YtiphddlakbbfiaaDoor
