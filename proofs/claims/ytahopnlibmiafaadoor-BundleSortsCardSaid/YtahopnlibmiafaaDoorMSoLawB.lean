/- Parts of a proof, printed by a program of mine out of my texts: SoLawB. -/
import Derived.Test.YtahopnlibmiafaaDoorMBuAwake
import Derived.Test.YtahopnlibmiafaaDoorMOpenBun
import Derived.Test.YtahopnlibmiafaaDoorMSoRSrt
import Derived.Test.YtahopnlibmiafaaDoorMSoSame
import Derived.Test.YtahopnlibmiafaaDoorMSoSortA
set_option linter.unusedSimpArgs false
set_option linter.unusedVariables false
namespace Go.Proofs.YtahopnlibmiafaaDoor
open Go.RowKit
theorem srtB_len (l : List Bn) : (srtB l).1.length ≤ l.length := by
  unfold srtB
  split
  · rw [isort_length]; exact Nat.le_refl _
  · exact Nat.zero_le _
theorem sameB_self (a1 a2 : Option Addr) (c1 c2 : Nat) (l : List Bn) (hl : l.length ≤ 100000) (w : World) (h1 : SRow bn 9 w a1 c1 l) (h2 : SRow bn 9 w a2 c2 l) :
    Calls Tryd.prog 16 #[.slice a1 l.length c1, .slice a2 l.length c2] w fun e w' => e = .returned (.bool true) ∧ Below w.heap.size w w' := by
  have h := sameB_any a1 a2 c1 c2 l l hl hl w h1 h2
  rwa [(sameL_iff l l).2 rfl] at h
set_option maxRecDepth 100000 in
set_option maxHeartbeats 3200000 in
theorem bundleSorts_walk (a : Option Addr) (cap : Nat) (l : List Bn) (w : World) (hd : ∀ x ∈ l, GdB x) (hrow : SRow bn 9 w a cap l) :
    Calls Tryd.prog 3 #[.slice a l.length cap] w fun e w' => e = .returned (.bool true) ∧ Below w.heap.size w w' := by
  have HR := Lib.hid hrow
  have HD := Lib.hid hd
  have hcap := hrow.1
  have hmax := hrow.2.1
  unfold maxLen at hmax
  clear hrow hd
  by_cases h40 : 40 < l.length
  · have t1 : decide ((40 : Int) < (l.length : Int)) = true := decide_eq_true (by omega)
    have t2 : decide (40 < l.length) = true := decide_eq_true h40
    go_enter Tryd.func3, Tryd.ntmps3
    go_wp2_with fail
    (with_reducible refine (awake_any w).mono ?_)
    rintro e W1 ⟨rfl, h1⟩
    go_wp2
    go_ret
    exact ⟨rfl, h1⟩
  · have t1 : decide ((40 : Int) < (l.length : Int)) = false := decide_eq_false (by omega)
    have t2 : decide (40 < l.length) = false := decide_eq_false h40
    have ls := srtB_len l
    go_enter Tryd.func3, Tryd.ntmps3
    go_wp2
    go_loopw [3] (fun i wr => ∃ k : Nat, i = .int .i64 k ∧ k ≤ l.length ∧ w = wr) (fun i _ => l.length - (intOf i).toNat)
    case atStart => exact ⟨0, rfl, Nat.zero_le _, rfl⟩
    case round =>
      obtain ⟨k, rfl, hk, rfl⟩ := hrel
      by_cases hlt : k < l.length
      · have tl : decide ((k : Int) < (l.length : Int)) = true := decide_eq_true (by omega)
        have i1 : (k : Int) < (l.length : Int) := by omega
        obtain ⟨b, o, rfl, g1, r1⟩ := HR.out.2.2.2 (by omega)
        have c8' := r1 k hlt 8 _ rfl
        obtain ⟨da, hda⟩ : ∃ d, d = (l[k]'hlt).da := ⟨_, rfl⟩
        have c8 : w.cell? ⟨b, o + k * 9 + 8, none⟩ = some (.string da) := by rw [hda]; exact c8'
        clear r1 hda c8'
        by_cases h3 : 1100 < da.size
        · have t3 : decide ((1100 : Int) < (da.size : Int)) = true := decide_eq_true (by omega)
          go_wp2_with fail
          (with_reducible refine (awake_any w).mono ?_)
          rintro e W1 ⟨rfl, h1⟩
          go_wp2
          go_ret
          exact ⟨rfl, h1⟩
        · have t3 : decide ((1100 : Int) < (da.size : Int)) = false := decide_eq_false (by omega)
          go_wp2
          go_roundw
          case rel => exact ⟨k + 1, by go_num, by omega, by trivial⟩
          case measure => simp [intOf]; omega
      · obtain rfl : k = l.length := by omega
        obtain ⟨R1, e1⟩ : ∃ R, srtB l = R := ⟨_, rfl⟩
        have ge1 : ∀ a cap W, SRow bn 9 W a cap l → Calls Tryd.prog 14 #[.slice a l.length cap] W fun e w' => RetB R1 W e w' := fun a cap W h => by rw [← e1]; exact sort_any a cap l (by omega) HD.out W h
        have ge2 : ∀ a cap W, SRow bn 9 W a cap l → Calls Tryd.prog 15 #[.slice a l.length cap] W fun e w' => RetB R1 W e w' := fun a cap W h => by rw [← e1]; exact rsrt_any a cap l HD.out (by omega) W h
        rw [e1] at ls
        have GE1 := Lib.hid ge1; have GE2 := Lib.hid ge2
        clear e1 ge1 ge2
        have u1 : (R1.2 == R1.2) = true := by simp
        go_wp2_with fail
        (with_reducible refine (own_any a cap l (by omega) w HR.out).mono ?_)
        rintro e W1 ⟨v1, rfl, ho1, h1⟩
        obtain ⟨ah, ch, rfl, hS1, _⟩ := srow_of_owns bn_len ho1
        have HO := Lib.hid hS1
        clear ho1 hS1
        replace HR := Lib.hid (HR.out.below h1)
        have B1 := bt (Below.refl _ _) h1
        clear h1
        go_wp2_with fail
        (with_reducible refine (GE1.out ah ch W1 HO.out).mono ?_)
        rintro e W2 ⟨v2, rfl, ho2, h2⟩
        obtain ⟨a2, c2, rfl, hS2, _⟩ := srow_of_owns bn_len ho2
        have HX := Lib.hid hS2
        clear ho2 hS2
        replace HR := Lib.hid (HR.out.below h2)
        replace HO := Lib.hid (HO.out.below h2)
        have B2 := bt B1 h2
        clear h2 B1
        go_wp2_with fail
        (with_reducible refine (GE2.out a cap W2 HR.out).mono ?_)
        rintro e W3 ⟨v3, rfl, ho3, h3⟩
        obtain ⟨a3, c3, rfl, hS3, _⟩ := srow_of_owns bn_len ho3
        have HY := Lib.hid hS3
        clear ho3 hS3
        replace HR := Lib.hid (HR.out.below h3)
        replace HO := Lib.hid (HO.out.below h3)
        replace HX := Lib.hid (HX.out.below h3)
        have B3 := bt B2 h3
        clear h3 B2
        go_wp2_with fail
        (with_reducible refine (sameB_self a2 a3 c2 c3 R1.1 (by omega) W3 HX.out HY.out).mono ?_)
        rintro e W4 ⟨rfl, h4⟩
        replace HR := Lib.hid (HR.out.below h4)
        replace HO := Lib.hid (HO.out.below h4)
        replace HX := Lib.hid (HX.out.below h4)
        replace HY := Lib.hid (HY.out.below h4)
        have B4 := bt B3 h4
        clear h4 B3
        go_wp2_with fail
        (with_reducible refine (sameB_self ah a ch cap l (by omega) W4 HO.out HR.out).mono ?_)
        rintro e W5 ⟨rfl, h5⟩
        replace HR := Lib.hid (HR.out.below h5)
        replace HO := Lib.hid (HO.out.below h5)
        replace HX := Lib.hid (HX.out.below h5)
        replace HY := Lib.hid (HY.out.below h5)
        have B5 := bt B4 h5
        clear h5 B4
        go_wp2_with fail
        (with_reducible refine (awake_any W5).mono ?_)
        rintro e W6 ⟨rfl, h6⟩
        replace HR := Lib.hid (HR.out.below h6)
        replace HO := Lib.hid (HO.out.below h6)
        replace HX := Lib.hid (HX.out.below h6)
        replace HY := Lib.hid (HY.out.below h6)
        have B6 := bt B5 h6
        clear h6 B5
        go_wp2
        go_ret
        exact ⟨rfl, B6⟩
theorem bundleSorts_at (a : Option Addr) (cap : Nat) (l : List Bn) (w : World) (hrow : SRow bn 9 w a cap l) (hd : ∀ x ∈ l, GdB x) :
    Calls Tryd.prog 3 #[.slice a l.length cap] w fun e w' => e = .returned (.bool true) ∧ Below w.heap.size w w' :=
  bundleSorts_walk a cap l w hd hrow
end Go.Proofs.YtahopnlibmiafaaDoor
