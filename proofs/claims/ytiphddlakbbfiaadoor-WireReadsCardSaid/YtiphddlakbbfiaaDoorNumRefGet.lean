/- The walk of the reference's Get. -/
import Derived.Test.YtiphddlakbbfiaaDoorNumRef
namespace Go.Proofs.YtiphddlakbbfiaaDoor
set_option linter.unusedVariables false
open Go.RowKit

/-- What a reading gives, as Go's three results. -/
def gotV (r : Nat × Nat × Nat) : Value := .tuple #[.int .u64 (r.1 : Int), .int .i64 (r.2.1 : Int), .int .i64 (r.2.2 : Int)]

theorem ret_got {a b c : Int} {r : Nat × Nat × Nat} (h : a = r.1 ∧ b = r.2.1 ∧ c = r.2.2) : Ending.returned (.tuple #[.int .u64 a, .int .i64 b, .int .i64 c]) = .returned (gotV r) := by
  obtain ⟨rfl, rfl, rfl⟩ := h; rfl
theorem drop_at (s : ByteArray) (p : Nat) (h : p < s.size) : s.data.toList.drop p = s[p] :: s.data.toList.drop (p + 1) := by
  rw [List.drop_eq_getElem_cons (by simpa using h)]; rfl

def Reads (s : ByteArray) (p q m : Nat) : Prop := getGo (s.data.toList.drop p) p (decide (p = q)) m = getGo (s.data.toList.drop q) q true 0

theorem reads_form (s : ByteArray) (p q m : Nat) (hp : p < s.size) (h : Reads s p q m) (e : p = q) (hb : s[p].toNat = 128) : getGo (s.data.toList.drop q) q true 0 = (0, p, 3) := by
  unfold Reads at h; rw [← h, drop_at s p hp, getGo, if_pos ⟨by simp [e], hb⟩]
theorem reads_range (s : ByteArray) (p q m : Nat) (hp : p < s.size) (h : Reads s p q m) (e : ¬ (p = q ∧ s[p].toNat = 128)) (hm : 144115188075855872 ≤ m) : getGo (s.data.toList.drop q) q true 0 = (0, p, 2) := by
  unfold Reads at h; rw [← h, drop_at s p hp, getGo, if_neg (by simpa using e), if_pos hm]
theorem reads_done (s : ByteArray) (p q m : Nat) (hp : p < s.size) (h : Reads s p q m) (e : ¬ (p = q ∧ s[p].toNat = 128)) (hm : m < 144115188075855872) (hb : s[p].toNat < 128) : getGo (s.data.toList.drop q) q true 0 = (m * 128 + s[p].toNat % 128, p + 1, 0) := by
  unfold Reads at h; rw [← h, drop_at s p hp, getGo, if_neg (by simpa using e), if_neg (by omega), if_pos hb]
theorem reads_on (s : ByteArray) (p q m : Nat) (hp : p < s.size) (hq : q ≤ p) (h : Reads s p q m) (e : ¬ (p = q ∧ s[p].toNat = 128)) (hm : m < 144115188075855872) (hb : 128 ≤ s[p].toNat) : Reads s (p + 1) q (m * 128 + s[p].toNat % 128) := by
  unfold Reads at *; rw [← h, drop_at s p hp, getGo, if_neg (by simpa using e), if_neg (by omega), if_neg (by omega)]
  rw [show decide (p + 1 = q) = false by simp; omega]
theorem reads_short (s : ByteArray) (p q m : Nat) (hp : s.size ≤ p) (h : Reads s p q m) (hz : p ≤ s.size) : getGo (s.data.toList.drop q) q true 0 = (0, s.size, 11) := by
  unfold Reads at h; rw [← h, List.drop_of_length_le (by simpa using hp), getGo, show p = s.size by omega]
theorem getN_in (s : ByteArray) (q : Nat) (h : q ≤ s.size) : getN s.data.toList q = getGo (s.data.toList.drop q) q true 0 := by
  unfold getN; rw [if_neg (by simp; omega)]; rfl
theorem getN_out (s : ByteArray) (q : Int) (h : q < 0 ∨ (s.size : Int) < q) : getN s.data.toList q = (0, 0, 2) := by
  unfold getN; rw [if_pos (by simp; omega)]

set_option maxRecDepth 100000 in
set_option maxHeartbeats 400000 in
theorem refGet_out (s : ByteArray) (q : Int) (w : World) (hs : s.size ≤ maxLen) (hq : q < 0 ∨ (s.size : Int) < q) :
    Calls Tryd.prog 71 #[.string s, .int .i64 q] w fun e w' => e = .returned (gotV (getN s.data.toList q)) ∧ w = w' := by
  unfold maxLen at hs
  have hr := Lib.hid (getN_out s q hq)
  by_cases h : q < 0
  · go_enter Tryd.func71, Tryd.ntmps71
    go_wp2
    go_ret3
    exact ⟨ret_got (by rw [hr.out]; exact ⟨rfl, rfl, rfl⟩), rfl⟩
  · have h' : (s.size : Int) < q := by omega
    go_enter Tryd.func71, Tryd.ntmps71
    go_wp2
    go_ret3
    exact ⟨ret_got (by rw [hr.out]; exact ⟨rfl, rfl, rfl⟩), rfl⟩

def RGet (s : ByteArray) (q : Nat) (n i : Value) : Prop := ∃ m p : Nat, n = .int .u64 m ∧ i = .int .i64 p ∧ (m : Int) ≤ 18446744073709551615 ∧ q ≤ p ∧ p ≤ s.size ∧ Reads s p q m

set_option maxRecDepth 100000 in
set_option maxHeartbeats 800000 in
theorem refGet_in (s : ByteArray) (q : Nat) (w : World) (hs : s.size ≤ maxLen) (hq : q ≤ s.size) :
    Calls Tryd.prog 71 #[.string s, .int .i64 q] w fun e w' => e = .returned (gotV (getN s.data.toList q)) ∧ w = w' := by
  unfold maxLen at hs
  rw [getN_in s q hq]
  go_enter Tryd.func71, Tryd.ntmps71
  go_wp2
  go_loop [7, 8] (fun n i => RGet s q n i) (fun _ i => s.size - (intOf i).toNat)
  case atStart => exact ⟨0, q, rfl, rfl, by omega, by omega, by omega, by simp [Reads]⟩
  case round =>
    obtain ⟨m, p, rfl, rfl, hm, hqp, hps, hr⟩ := hrel
    have Hr := Lib.hid hr; clear hr
    by_cases hlt : p < s.size
    · have hb := s[p].toNat_lt
      by_cases hf : p = q ∧ s[p].toNat = 128
      · obtain ⟨rfl, h128⟩ := hf
        have hb1 : ((s[p].toNat : Int) == 128) = true := by rw [h128]; rfl
        have H := Lib.hid h128; clear h128
        go_wp2
        go_ret3
        exact ⟨ret_got (by rw [reads_form s p p m hlt Hr.out rfl H.out]; exact ⟨rfl, rfl, rfl⟩), rfl⟩
      · have fin : ∀ (M : Int), M = ((m * 128 + s[p].toNat % 128 : Nat) : Int) → m < 144115188075855872 → 128 ≤ s[p].toNat → RGet s q (.int .u64 M) (.int .i64 ((p : Int) + 1)) := fun M hM h1 h2 =>
          ⟨m * 128 + s[p].toNat % 128, p + 1, by rw [hM], by go_num, by omega, by omega, by omega, reads_on s p q m hlt (by omega) Hr.out hf h1 h2⟩
        have Fin := Lib.hid fin; clear fin
        have Hf := Lib.hid hf; clear hf
        by_cases he : p = q
        · subst he
          have hc : ((s[p].toNat : Int) == 128) = false := by
            have : ¬ s[p].toNat = 128 := fun h => Hf.out ⟨rfl, h⟩
            simp; omega
          go_wp2
          · go_ret3
            exact ⟨ret_got (by rw [reads_range s p p m hlt Hr.out (fun h => Hf.out ⟨trivial, h.2⟩) (by omega)]; exact ⟨rfl, rfl, rfl⟩), rfl⟩
          · go_ret3
            exact ⟨ret_got (by rw [reads_done s p p m hlt Hr.out (fun h => Hf.out ⟨trivial, h.2⟩) (by omega) (by omega)]; exact ⟨by show (_ : Int) = ((m * 128 + s[p].toNat % 128 : Nat) : Int); omega, rfl, rfl⟩), rfl⟩
          · go_round
            case rel => exact Fin.out _ (by omega) (by omega) (by omega)
            case measure => simp [intOf]; omega
        · have hc : ((p : Int) == (q : Int)) = false := by simp; omega
          have He := Lib.hid he; clear he
          go_wp2
          · go_ret3
            exact ⟨ret_got (by rw [reads_range s p q m hlt Hr.out Hf.out (by omega)]; exact ⟨rfl, rfl, rfl⟩), rfl⟩
          · go_ret3
            exact ⟨ret_got (by rw [reads_done s p q m hlt Hr.out Hf.out (by omega) (by omega)]; exact ⟨by show (_ : Int) = ((m * 128 + s[p].toNat % 128 : Nat) : Int); omega, rfl, rfl⟩), rfl⟩
          · go_round
            case rel => exact Fin.out _ (by omega) (by omega) (by omega)
            case measure => simp [intOf]; omega
    · go_wp2
      go_ret3
      exact ⟨ret_got (by rw [reads_short s p q m (by omega) Hr.out (by omega)]; exact ⟨rfl, rfl, rfl⟩), rfl⟩

theorem refGet_any (s : ByteArray) (q : Int) (w : World) (hs : s.size ≤ maxLen) :
    Calls Tryd.prog 71 #[.string s, .int .i64 q] w fun e w' => e = .returned (gotV (getN s.data.toList q)) ∧ w = w' := by
  by_cases h : q < 0 ∨ (s.size : Int) < q
  · exact refGet_out s q w hs h
  · obtain ⟨n, rfl⟩ := Int.eq_ofNat_of_zero_le (show 0 ≤ q by omega)
    exact refGet_in s n w hs (by omega)
end Go.Proofs.YtiphddlakbbfiaaDoor
