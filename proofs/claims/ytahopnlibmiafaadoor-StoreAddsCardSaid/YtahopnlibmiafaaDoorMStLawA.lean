/- Parts of a proof, printed by a program of mine out of my texts: StLawA. -/
import Derived.Test.YtahopnlibmiafaaDoorMDr
import Derived.Test.YtahopnlibmiafaaDoorMW
import Derived.Test.YtahopnlibmiafaaDoorMZ
set_option linter.unusedSimpArgs false
set_option linter.unusedVariables false
namespace Go.Proofs.YtahopnlibmiafaaDoor
open Go.RowKit
set_option maxRecDepth 100000 in
set_option maxHeartbeats 6400000 in
theorem storeAdds_walk (a : Option Addr) (cap : Nat) (l : List Itm) (b0 b1 b2 b3 b4 b5 b6 b7 : Int) (b8 : ByteArray) (no sq of : Int) (w : World) (hd : ∀ x ∈ l, GdI x) (hb8 : b8.size ≤ maxLen) (hH : HTab w) (hrow : SRow itm 13 w a cap l) :
    Calls Tryd.prog 6 #[.slice a l.length cap, .agg #[.int .i64 b0, .int .u64 b1, .int .i64 b2, .int .i64 b3, .int .i64 b4, .int .i64 b5, .int .i64 b6, .int .i64 b7, .string b8], .agg #[.int .i64 no, .int .u64 sq, .int .i64 of]] w fun e w' => e = .returned (.bool true) ∧ Below w.heap.size w w' := by
  have HR := Lib.hid hrow; have HH := Lib.hid hH
  have hda : ∀ x ∈ l, x.b.da.size ≤ maxLen := fun x hx => (hd x hx).1
  have HD := Lib.hid hda; have HG := Lib.hid hd
  clear hrow hH hd hda
  unfold maxLen at hb8
  have pre : ∃ W0 : World, W0 = ((w.alloc (.cells #[.int .i64 b0, .int .u64 b1, .int .i64 b2, .int .i64 b3, .int .i64 b4, .int .i64 b5, .int .i64 b6, .int .i64 b7, .string b8] 28)).alloc (.cells #[.int .i64 no, .int .u64 sq, .int .i64 of] 26)) := ⟨_, rfl⟩
  obtain ⟨W0, hW0⟩ := pre
  have B0 : Below w.heap.size w W0 := by rw [hW0]; exact ((Below.refl _ _).alloc (Nat.le_refl _) _).alloc (by simp) _
  have kb : blk W0 w.heap.size = some #[.int .i64 b0, .int .u64 b1, .int .i64 b2, .int .i64 b3, .int .i64 b4, .int .i64 b5, .int .i64 b6, .int .i64 b7, .string b8] := by rw [hW0]; exact blk_alloc (blk_alloc_new _ _ _ rfl) _
  have kc : blk W0 (w.heap.size + 1) = some #[.int .i64 no, .int .u64 sq, .int .i64 of] := by rw [hW0]; exact blk_alloc_new _ _ _ (by simp)
  replace HR := Lib.hid (HR.out.below B0)
  have HW := Lib.hid hW0
  clear hW0
  go_enter Tryd.func6, Tryd.ntmps6
  go_wp2_with fail
  rw [show ((w.alloc (.cells #[.int .i64 b0, .int .u64 b1, .int .i64 b2, .int .i64 b3, .int .i64 b4, .int .i64 b5, .int .i64 b6, .int .i64 b7, .string b8] 28)).alloc (.cells #[.int .i64 no, .int .u64 sq, .int .i64 of] 26)) = W0 from HW.out.symm]
  clear HW
  have nkb := kn kb; have nkc := kn kc
  (with_reducible refine (light_any a cap l W0 HR.out).mono ?_)
  rintro e W0' ⟨q, rfl, hq, rfl⟩
  cases q
  · have hun : undef = Value.tuple #[] := rfl
    go_wp2_with fail
    (with_reducible refine (awake_any W0 (HH.out.on B0)).mono ?_)
    rintro e W1 ⟨rfl, h1⟩
    go_wp2
    go_ret
    exact ⟨rfl, bt B0 h1⟩
  · have h1010 := hq rfl
    clear hq
    by_cases hlb : 1100 < b8.size
    · have t0 : decide ((1100 : Int) < (b8.size : Int)) = true := decide_eq_true (by omega)
      have t00 : decide (1100 < b8.size) = true := decide_eq_true hlb
      go_wp2_with fail
      (with_reducible refine (awake_any W0 (HH.out.on B0)).mono ?_)
      rintro e W1 ⟨rfl, h1⟩
      go_wp2
      go_ret
      exact ⟨rfl, bt B0 h1⟩
    · have t0 : decide ((1100 : Int) < (b8.size : Int)) = false := decide_eq_false (by omega)
      have t00 : decide (1100 < b8.size) = false := decide_eq_false hlb
      have hb9 : b8.size ≤ maxLen := by unfold maxLen; omega
      obtain ⟨R1, e1⟩ : ∃ R, addS l ⟨b0, b1, b2, b3, b4, b5, b6, b7, b8⟩ = R := ⟨_, rfl⟩
      obtain ⟨R2, e2⟩ : ∃ R, dropS l (no, sq, of) = R := ⟨_, rfl⟩
      obtain ⟨c1, e3⟩ : ∃ R, (chkS l).1 = R := ⟨_, rfl⟩
      obtain ⟨c2, e4⟩ : ∃ R : Int, ((chkS l).2 : Int) = R := ⟨_, rfl⟩
      obtain ⟨f1, e5⟩ : ∃ R, (findS l (no, sq, of)).1 = R := ⟨_, rfl⟩
      obtain ⟨f2, e6⟩ : ∃ R, (findS l (no, sq, of)).2 = R := ⟨_, rfl⟩
      obtain ⟨s1, e7⟩ : ∃ R, (sizeS l).1 = R := ⟨_, rfl⟩
      obtain ⟨s2, e8⟩ : ∃ R, (sizeS l).2 = R := ⟨_, rfl⟩
      have gc1 : ∀ a cap W, SRow itm 13 W a cap l → Calls Tryd.prog 28 #[.slice a l.length cap] W fun e w' => e = .returned (.tuple #[.int .i64 c1, .int .i64 c2]) ∧ Below W.heap.size W w' := fun a cap W h => by rw [← e3, ← e4]; exact sCheck_any a cap l HD.out W h
      have gc2 : ∀ a cap W, SRow itm 13 W a cap l → Calls Tryd.prog 29 #[.slice a l.length cap] W fun e w' => e = .returned (.tuple #[.int .i64 c1, .int .i64 c2]) ∧ Below W.heap.size W w' := fun a cap W h => by rw [← e3, ← e4]; exact rCheck_any a cap l HD.out W h
      have ga1 : ∀ a cap W, SRow itm 13 W a cap l → Calls Tryd.prog 30 #[.slice a l.length cap, .agg #[.int .i64 b0, .int .u64 b1, .int .i64 b2, .int .i64 b3, .int .i64 b4, .int .i64 b5, .int .i64 b6, .int .i64 b7, .string b8]] W fun e w' => RetS R1 W e w' := fun a cap W h => by rw [← e1]; exact add_any a cap l ⟨b0, b1, b2, b3, b4, b5, b6, b7, b8⟩ HD.out hb9 W h
      have ga2 : ∀ a cap W, SRow itm 13 W a cap l → Calls Tryd.prog 31 #[.slice a l.length cap, .agg #[.int .i64 b0, .int .u64 b1, .int .i64 b2, .int .i64 b3, .int .i64 b4, .int .i64 b5, .int .i64 b6, .int .i64 b7, .string b8]] W fun e w' => RetS R1 W e w' := fun a cap W h => by rw [← e1]; exact radd_any a cap l ⟨b0, b1, b2, b3, b4, b5, b6, b7, b8⟩ HD.out hb9 W h
      have gd1 : ∀ a cap W, SRow itm 13 W a cap l → Calls Tryd.prog 32 #[.slice a l.length cap, .agg #[.int .i64 no, .int .u64 sq, .int .i64 of]] W fun e w' => RetS R2 W e w' := fun a cap W h => by rw [← e2]; exact drop_any a cap l (no, sq, of) HD.out W h
      have gd2 : ∀ a cap W, SRow itm 13 W a cap l → Calls Tryd.prog 33 #[.slice a l.length cap, .agg #[.int .i64 no, .int .u64 sq, .int .i64 of]] W fun e w' => RetS R2 W e w' := fun a cap W h => by rw [← e2]; exact rdrop_any a cap l (no, sq, of) HD.out W h
      have gf1 : ∀ a cap W, SRow itm 13 W a cap l → Calls Tryd.prog 34 #[.slice a l.length cap, .agg #[.int .i64 no, .int .u64 sq, .int .i64 of]] W fun e w' => e = .returned (.tuple #[.int .i64 f1, .int .i64 f2]) ∧ Below W.heap.size W w' := fun a cap W h => by rw [← e5, ← e6]; exact sFind_any a cap l (no, sq, of) HD.out W h
      have gf2 : ∀ a cap W, SRow itm 13 W a cap l → Calls Tryd.prog 35 #[.slice a l.length cap, .agg #[.int .i64 no, .int .u64 sq, .int .i64 of]] W fun e w' => e = .returned (.tuple #[.int .i64 f1, .int .i64 f2]) ∧ Below W.heap.size W w' := fun a cap W h => by rw [← e5, ← e6]; exact rFind_any a cap l (no, sq, of) HD.out W h
      have gs1 : ∀ a cap W, HTab W → SRow itm 13 W a cap l → Calls Tryd.prog 36 #[.slice a l.length cap] W fun e w' => e = .returned (.tuple #[.int .u64 s1, .int .i64 s2]) ∧ Below W.heap.size W w' := fun a cap W hH h => by rw [← e7, ← e8]; exact size_any a cap l HG.out W hH h
      have gs2 : ∀ a cap W, SRow itm 13 W a cap l → Calls Tryd.prog 37 #[.slice a l.length cap] W fun e w' => e = .returned (.tuple #[.int .u64 s1, .int .i64 s2]) ∧ Below W.heap.size W w' := fun a cap W h => by rw [← e7, ← e8]; exact rsize_any a cap l HG.out W h
      replace gc1 := Lib.hid gc1; replace gc2 := Lib.hid gc2; replace ga1 := Lib.hid ga1; replace ga2 := Lib.hid ga2; replace gd1 := Lib.hid gd1; replace gd2 := Lib.hid gd2; replace gf1 := Lib.hid gf1; replace gf2 := Lib.hid gf2; replace gs1 := Lib.hid gs1; replace gs2 := Lib.hid gs2
      clear e1 e2 e3 e4 e5 e6 e7 e8 hlb hb9 hb8
      have u1 : (c1 != c1) = false := by simp
      have u2 : (c2 != c2) = false := by simp
      have u3 : (R1.2 != R1.2) = false := by simp
      have u4 : (R2.2 != R2.2) = false := by simp
      have u5 : (f1 == f1) = true := by simp
      have u6 : (f2 == f2) = true := by simp
      have u7 : (s1 == s1) = true := by simp
      have u8 : (s2 == s2) = true := by simp
      go_wp2_with fail
      (with_reducible refine (lown_any a cap l (by omega) W0 HR.out).mono ?_)
      rintro e W1 ⟨v1, rfl, ho1, h1⟩
      obtain ⟨ah, ch, rfl, hS1, _⟩ := srow_of_owns itm_len ho1
      have HO := Lib.hid hS1
      clear ho1 hS1
      replace HR := Lib.hid (HR.out.below h1)
      replace kb := blk_below h1 kb
      replace nkb := kn kb
      replace kc := blk_below h1 kc
      replace nkc := kn kc
      have B1 := bt B0 h1
      clear h1 B0
      go_wp2_with fail
      (with_reducible refine (gc1.out ah ch W1 HO.out).mono ?_)
      rintro e W2 ⟨rfl, h2⟩
      replace HR := Lib.hid (HR.out.below h2)
      replace HO := Lib.hid (HO.out.below h2)
      replace kb := blk_below h2 kb
      replace nkb := kn kb
      replace kc := blk_below h2 kc
      replace nkc := kn kc
      have B2 := bt B1 h2
      clear h2 B1
      go_wp2_with fail
      (with_reducible refine (gc2.out a cap W2 HR.out).mono ?_)
      rintro e W3 ⟨rfl, h3⟩
      replace HR := Lib.hid (HR.out.below h3)
      replace HO := Lib.hid (HO.out.below h3)
      replace kb := blk_below h3 kb
      replace nkb := kn kb
      replace kc := blk_below h3 kc
      replace nkc := kn kc
      have B3 := bt B2 h3
      clear h3 B2
      go_wp2_with fail
      (with_reducible refine (ga1.out ah ch W3 HO.out).mono ?_)
      rintro e W4 ⟨v4, rfl, ho4, h4⟩
      obtain ⟨a4, c4, rfl, hS4, _⟩ := srow_of_owns itm_len ho4
      have HX := Lib.hid hS4
      clear ho4 hS4
      replace HR := Lib.hid (HR.out.below h4)
      replace HO := Lib.hid (HO.out.below h4)
      replace kb := blk_below h4 kb
      replace nkb := kn kb
      replace kc := blk_below h4 kc
      replace nkc := kn kc
      have B4 := bt B3 h4
      clear h4 B3
      go_wp2_with fail
      (with_reducible refine (ga2.out a cap W4 HR.out).mono ?_)
      rintro e W5 ⟨v5, rfl, ho5, h5⟩
      obtain ⟨a5, c5, rfl, hS5, _⟩ := srow_of_owns itm_len ho5
      have HY := Lib.hid hS5
      clear ho5 hS5
      replace HR := Lib.hid (HR.out.below h5)
      replace HO := Lib.hid (HO.out.below h5)
      replace HX := Lib.hid (HX.out.below h5)
      replace kb := blk_below h5 kb
      replace nkb := kn kb
      replace kc := blk_below h5 kc
      replace nkc := kn kc
      have B5 := bt B4 h5
      clear h5 B4
      go_wp2_with fail
      (with_reducible refine (same_self a4 a5 c4 c5 R1.1 W5 HX.out HY.out).mono ?_)
      rintro e W6 ⟨rfl, h6⟩
      replace HR := Lib.hid (HR.out.below h6)
      replace HO := Lib.hid (HO.out.below h6)
      replace HX := Lib.hid (HX.out.below h6)
      replace HY := Lib.hid (HY.out.below h6)
      replace kb := blk_below h6 kb
      replace nkb := kn kb
      replace kc := blk_below h6 kc
      replace nkc := kn kc
      have B6 := bt B5 h6
      clear h6 B5
      clear HX HY
      go_wp2_with fail
      (with_reducible refine (gd1.out ah ch W6 HO.out).mono ?_)
      rintro e W7 ⟨v7, rfl, ho7, h7⟩
      obtain ⟨a7, c7, rfl, hS7, _⟩ := srow_of_owns itm_len ho7
      have HX := Lib.hid hS7
      clear ho7 hS7
      replace HR := Lib.hid (HR.out.below h7)
      replace HO := Lib.hid (HO.out.below h7)
      replace kb := blk_below h7 kb
      replace nkb := kn kb
      replace kc := blk_below h7 kc
      replace nkc := kn kc
      have B7 := bt B6 h7
      clear h7 B6
      go_wp2_with fail
      (with_reducible refine (gd2.out a cap W7 HR.out).mono ?_)
      rintro e W8 ⟨v8, rfl, ho8, h8⟩
      obtain ⟨a8, c8, rfl, hS8, _⟩ := srow_of_owns itm_len ho8
      have HY := Lib.hid hS8
      clear ho8 hS8
      replace HR := Lib.hid (HR.out.below h8)
      replace HO := Lib.hid (HO.out.below h8)
      replace HX := Lib.hid (HX.out.below h8)
      replace kb := blk_below h8 kb
      replace nkb := kn kb
      replace kc := blk_below h8 kc
      replace nkc := kn kc
      have B8 := bt B7 h8
      clear h8 B7
      go_wp2_with fail
      (with_reducible refine (same_self a7 a8 c7 c8 R2.1 W8 HX.out HY.out).mono ?_)
      rintro e W9 ⟨rfl, h9⟩
      replace HR := Lib.hid (HR.out.below h9)
      replace HO := Lib.hid (HO.out.below h9)
      replace HX := Lib.hid (HX.out.below h9)
      replace HY := Lib.hid (HY.out.below h9)
      replace kb := blk_below h9 kb
      replace nkb := kn kb
      replace kc := blk_below h9 kc
      replace nkc := kn kc
      have B9 := bt B8 h9
      clear h9 B8
      clear HX HY
      go_wp2_with fail
      (with_reducible refine (gf1.out ah ch W9 HO.out).mono ?_)
      rintro e W10 ⟨rfl, h10⟩
      replace HR := Lib.hid (HR.out.below h10)
      replace HO := Lib.hid (HO.out.below h10)
      replace kb := blk_below h10 kb
      replace nkb := kn kb
      replace kc := blk_below h10 kc
      replace nkc := kn kc
      have B10 := bt B9 h10
      clear h10 B9
      go_wp2_with fail
      (with_reducible refine (gf2.out a cap W10 HR.out).mono ?_)
      rintro e W11 ⟨rfl, h11⟩
      replace HR := Lib.hid (HR.out.below h11)
      replace HO := Lib.hid (HO.out.below h11)
      replace kb := blk_below h11 kb
      replace nkb := kn kb
      replace kc := blk_below h11 kc
      replace nkc := kn kc
      have B11 := bt B10 h11
      clear h11 B10
      go_wp2_with fail
      (with_reducible refine (gs1.out ah ch W11 (HH.out.on B11) HO.out).mono ?_)
      rintro e W12 ⟨rfl, h12⟩
      replace HR := Lib.hid (HR.out.below h12)
      replace HO := Lib.hid (HO.out.below h12)
      replace kb := blk_below h12 kb
      replace nkb := kn kb
      replace kc := blk_below h12 kc
      replace nkc := kn kc
      have B12 := bt B11 h12
      clear h12 B11
      go_wp2_with fail
      (with_reducible refine (gs2.out a cap W12 HR.out).mono ?_)
      rintro e W13 ⟨rfl, h13⟩
      replace HR := Lib.hid (HR.out.below h13)
      replace HO := Lib.hid (HO.out.below h13)
      replace kb := blk_below h13 kb
      replace nkb := kn kb
      replace kc := blk_below h13 kc
      replace nkc := kn kc
      have B13 := bt B12 h13
      clear h13 B12
      go_wp2_with fail
      (with_reducible refine (same_self ah a ch cap l W13 HO.out HR.out).mono ?_)
      rintro e W14 ⟨rfl, h14⟩
      replace HR := Lib.hid (HR.out.below h14)
      replace HO := Lib.hid (HO.out.below h14)
      replace kb := blk_below h14 kb
      replace nkb := kn kb
      replace kc := blk_below h14 kc
      replace nkc := kn kc
      have B14 := bt B13 h14
      clear h14 B13
      go_wp2_with fail
      (with_reducible refine (awake_any W14 (HH.out.on B14)).mono ?_)
      rintro e W15 ⟨rfl, h15⟩
      replace HR := Lib.hid (HR.out.below h15)
      replace HO := Lib.hid (HO.out.below h15)
      replace kb := blk_below h15 kb
      replace nkb := kn kb
      replace kc := blk_below h15 kc
      replace nkc := kn kc
      have B15 := bt B14 h15
      clear h15 B14
      go_wp2
      go_ret
      exact ⟨rfl, B15⟩
theorem storeAdds_at (a : Option Addr) (cap : Nat) (l : List Itm) (b0 b1 b2 b3 b4 b5 b6 b7 : Int) (b8 : ByteArray) (no sq of : Int) (w : World) (hrow : SRow itm 13 w a cap l) (hd : ∀ x ∈ l, GdI x) (hb8 : b8.size ≤ maxLen) (hT : Lib.TabIs Tryd.prog w headsNm .u8 headsTab) :
    Calls Tryd.prog 6 #[.slice a l.length cap, .agg #[.int .i64 b0, .int .u64 b1, .int .i64 b2, .int .i64 b3, .int .i64 b4, .int .i64 b5, .int .i64 b6, .int .i64 b7, .string b8], .agg #[.int .i64 no, .int .u64 sq, .int .i64 of]] w fun e w' => e = .returned (.bool true) ∧ Below w.heap.size w w' :=
  storeAdds_walk a cap l b0 b1 b2 b3 b4 b5 b6 b7 b8 no sq of w hd hb8 (htab_of hT) hrow
end Go.Proofs.YtahopnlibmiafaaDoor
