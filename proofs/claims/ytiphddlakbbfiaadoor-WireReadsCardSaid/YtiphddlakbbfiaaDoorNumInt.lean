/- The walks of Int: a number that is at most another one. -/
import Derived.Test.YtiphddlakbbfiaaDoorNumGet
namespace Go.Proofs.YtiphddlakbbfiaaDoor
set_option linter.unusedVariables false
open Go.RowKit

/-- What Int gives: the number, the place, the error. -/
def intN (l : List UInt8) (q m : Int) : Int × Int × Int :=
  if (getN l q).2.2 ≠ 0 then (0, (getN l q).2.1, (getN l q).2.2)
  else if m < 0 ∨ m < (getN l q).1 then (0, q, 2)
  else ((getN l q).1, (getN l q).2.1, 0)
def gotI (r : Int × Int × Int) : Value := .tuple #[.int .i64 r.1, .int .i64 r.2.1, .int .i64 r.2.2]

theorem getN_bound (l : List UInt8) (q : Int) : (getN l q).1 < 18446744073709551616 ∧ (getN l q).2.1 ≤ l.length := by
  unfold getN
  split
  · simp
  · have := getGo_bound (l.drop q.toNat) q.toNat true 0 (by omega)
    refine ⟨this.1, ?_⟩
    have h2 := this.2.2.1
    rw [List.length_drop] at h2
    omega

set_option maxRecDepth 100000 in
set_option maxHeartbeats 800000 in
theorem refInt_any (s : ByteArray) (q m : Int) (w : World) (hs : s.size ≤ maxLen) (hq1 : -9223372036854775808 ≤ q) (hq2 : q ≤ 9223372036854775807) (hm2 : m ≤ 9223372036854775807) :
    Calls Tryd.prog 64 #[.string s, .int .i64 q, .int .i64 m] w fun e w' => e = .returned (gotI (intN s.data.toList q m)) ∧ w = w' := by
  obtain ⟨⟨n, p, e⟩, hg⟩ : ∃ r, getN s.data.toList q = r := ⟨_, rfl⟩
  have hbd := getN_bound s.data.toList q
  rw [hg] at hbd
  have cg : ∀ w, Calls Tryd.prog 71 #[.string s, .int .i64 q] w fun e' w' => e' = .returned (.tuple #[.int .u64 n, .int .i64 p, .int .i64 e]) ∧ w = w' := fun w => by
    have := refGet_any s q w hs
    rw [hg] at this
    exact this
  obtain ⟨b1, b2⟩ := hbd
  have b1' : (n : Int) ≤ 18446744073709551615 := by omega
  clear b1 b2
  have Cg := Lib.hid cg; clear cg
  have Hg := Lib.hid hg; clear hg
  by_cases he : e = 0
  · subst he
    by_cases hm : m < 0
    · have hr : intN s.data.toList q m = (0, q, 2) := by unfold intN; rw [Hg.out]; simp [hm]
      rw [hr]; clear hr
      go_enter Tryd.func64, Tryd.ntmps64
      go_wp2_with (go_at_call 71; (with_reducible refine (Cg.out _).mono ?_); rintro e wb ⟨rfl, rfl⟩)
      go_ret3
      exact ⟨rfl, rfl⟩
    · obtain ⟨k, rfl⟩ := Int.eq_ofNat_of_zero_le (show 0 ≤ m by omega)
      by_cases hn : k < n
      · have hr : intN s.data.toList q k = (0, q, 2) := by unfold intN; rw [Hg.out]; simp [hn]
        rw [hr]; clear hr
        go_enter Tryd.func64, Tryd.ntmps64
        go_wp2_with (go_at_call 71; (with_reducible refine (Cg.out _).mono ?_); rintro e wb ⟨rfl, rfl⟩)
        go_ret3
        exact ⟨rfl, rfl⟩
      · have hr : intN s.data.toList q k = ((n : Int), (p : Int), 0) := by unfold intN; rw [Hg.out]; simp [hn]
        rw [hr]; clear hr
        go_enter Tryd.func64, Tryd.ntmps64
        go_wp2_with (go_at_call 71; (with_reducible refine (Cg.out _).mono ?_); rintro e wb ⟨rfl, rfl⟩)
        go_ret3
        exact ⟨rfl, rfl⟩
  · have hr : intN s.data.toList q m = (0, (p : Int), (e : Int)) := by unfold intN; rw [Hg.out]; simp [he]
    rw [hr]; clear hr
    have he' : ((e : Int) != 0) = true := by simp; omega
    have He := Lib.hid he; clear he
    go_enter Tryd.func64, Tryd.ntmps64
    go_wp2_with (go_at_call 71; (with_reducible refine (Cg.out _).mono ?_); rintro e wb ⟨rfl, rfl⟩)
    go_ret3
    exact ⟨rfl, rfl⟩

set_option maxRecDepth 100000 in
set_option maxHeartbeats 800000 in
theorem numInt_any (s : ByteArray) (q m : Int) (w : World) (hs : s.size ≤ maxLen) (hq1 : -9223372036854775808 ≤ q) (hq2 : q ≤ 9223372036854775807) (hm2 : m ≤ 9223372036854775807) :
    Calls Tryd.prog 70 #[.string s, .int .i64 q, .int .i64 m] w fun e w' => e = .returned (gotI (intN s.data.toList q m)) ∧ Below w.heap.size w w' := by
  obtain ⟨⟨n, p, e⟩, hg⟩ : ∃ r, getN s.data.toList q = r := ⟨_, rfl⟩
  have hbd := getN_bound s.data.toList q
  rw [hg] at hbd
  have cg : ∀ w, Calls Tryd.prog 72 #[.string s, .int .i64 q] w fun e' w' => e' = .returned (.tuple #[.int .u64 n, .int .i64 p, .int .i64 e]) ∧ Below w.heap.size w w' := fun w => by
    have := numGet_any s q w hs
    rw [hg] at this
    exact this
  obtain ⟨b1, b2⟩ := hbd
  have b1' : (n : Int) ≤ 18446744073709551615 := by omega
  clear b1 b2
  have Cg := Lib.hid cg; clear cg
  have Hg := Lib.hid hg; clear hg
  by_cases he : e = 0
  · subst he
    by_cases hm : m < 0
    · have hr : intN s.data.toList q m = (0, q, 2) := by unfold intN; rw [Hg.out]; simp [hm]
      rw [hr]; clear hr
      go_enter Tryd.func70, Tryd.ntmps70
      go_wp2_with (go_at_call 72; (with_reducible refine (Cg.out _).mono ?_); rintro e wb ⟨rfl, hb1⟩)
      go_ret3
      exact ⟨rfl, hb1⟩
    · obtain ⟨k, rfl⟩ := Int.eq_ofNat_of_zero_le (show 0 ≤ m by omega)
      by_cases hn : k < n
      · have hr : intN s.data.toList q k = (0, q, 2) := by unfold intN; rw [Hg.out]; simp [hn]
        rw [hr]; clear hr
        go_enter Tryd.func70, Tryd.ntmps70
        go_wp2_with (go_at_call 72; (with_reducible refine (Cg.out _).mono ?_); rintro e wb ⟨rfl, hb1⟩)
        go_ret3
        exact ⟨rfl, hb1⟩
      · have hr : intN s.data.toList q k = ((n : Int), (p : Int), 0) := by unfold intN; rw [Hg.out]; simp [hn]
        rw [hr]; clear hr
        go_enter Tryd.func70, Tryd.ntmps70
        go_wp2_with (go_at_call 72; (with_reducible refine (Cg.out _).mono ?_); rintro e wb ⟨rfl, hb1⟩)
        go_ret3
        exact ⟨rfl, hb1⟩
  · have hr : intN s.data.toList q m = (0, (p : Int), (e : Int)) := by unfold intN; rw [Hg.out]; simp [he]
    rw [hr]; clear hr
    have he' : ((e : Int) != 0) = true := by simp; omega
    have He := Lib.hid he; clear he
    go_enter Tryd.func70, Tryd.ntmps70
    go_wp2_with (go_at_call 72; (with_reducible refine (Cg.out _).mono ?_); rintro e wb ⟨rfl, hb1⟩)
    go_ret3
    exact ⟨rfl, hb1⟩
end Go.Proofs.YtiphddlakbbfiaaDoor
