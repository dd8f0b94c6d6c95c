/- Parts of a proof, printed by a program of mine out of my texts: StLawO. -/
import Derived.Test.YtahopnlibmiafaaDoorMW
import Derived.Test.YtahopnlibmiafaaDoorMY
import Derived.Test.YtahopnlibmiafaaDoorMZ
set_option linter.unusedSimpArgs false
set_option linter.unusedVariables false
namespace Go.Proofs.YtahopnlibmiafaaDoor
open Go.RowKit
set_option maxRecDepth 100000 in
set_option maxHeartbeats 3200000 in
theorem storeOffers_walk (a : Option Addr) (cap : Nat) (l : List Itm) (no sq of to off : Int) (w : World) (hd : ∀ x ∈ l, GdI x) (hH : HTab w) (hrow : SRow itm 13 w a cap l) :
    Calls Tryd.prog 7 #[.slice a l.length cap, .agg #[.int .i64 no, .int .u64 sq, .int .i64 of], .int .i64 to, .int .u64 off] w fun e w' => e = .returned (.bool true) ∧ Below w.heap.size w w' := by
  have HR := Lib.hid hrow; have HH := Lib.hid hH
  have hda : ∀ x ∈ l, x.b.da.size ≤ maxLen := fun x hx => (hd x hx).1
  have HD := Lib.hid hda
  clear hrow hH hd hda
  go_enter Tryd.func7, Tryd.ntmps7
  go_wp2_with fail
  have B0 : Below w.heap.size w (w.alloc (.cells #[.int .i64 no, .int .u64 sq, .int .i64 of] 26)) := (Below.refl _ _).alloc (Nat.le_refl _) _
  have kb : blk (w.alloc (.cells #[.int .i64 no, .int .u64 sq, .int .i64 of] 26)) w.heap.size = some #[.int .i64 no, .int .u64 sq, .int .i64 of] := blk_alloc_new _ _ _ rfl
  have nkb := kn kb
  replace HR := Lib.hid (HR.out.below B0)
  obtain ⟨W0, hW0⟩ : ∃ W, W = w.alloc (.cells #[.int .i64 no, .int .u64 sq, .int .i64 of] 26) := ⟨_, rfl⟩
  rw [← hW0] at B0 kb nkb HR ⊢
  clear hW0
  (with_reducible refine (light_any a cap l W0 HR.out).mono ?_)
  rintro e W0' ⟨q, rfl, hq, rfl⟩
  cases q
  · go_wp2_with fail
    (with_reducible refine (awake_any W0 (HH.out.on B0)).mono ?_)
    rintro e W1 ⟨rfl, h1⟩
    go_wp2
    go_ret
    exact ⟨rfl, bt B0 h1⟩
  · have h1010 := hq rfl
    clear hq
    obtain ⟨R1, e1⟩ : ∃ R, offerS l (no, sq, of) to off = R := ⟨_, rfl⟩
    obtain ⟨R2, e2⟩ : ∃ R, backS l (no, sq, of) = R := ⟨_, rfl⟩
    obtain ⟨R3, e3⟩ : ∃ R, backAllS l to = R := ⟨_, rfl⟩
    have go1 : ∀ a cap W, SRow itm 13 W a cap l → Calls Tryd.prog 38 #[.slice a l.length cap, .agg #[.int .i64 no, .int .u64 sq, .int .i64 of], .int .i64 to, .int .u64 off] W fun e w' => RetS R1 W e w' := fun a cap W h => by rw [← e1]; exact offer_any a cap l (no, sq, of) to off HD.out W h
    have go2 : ∀ a cap W, SRow itm 13 W a cap l → Calls Tryd.prog 39 #[.slice a l.length cap, .agg #[.int .i64 no, .int .u64 sq, .int .i64 of], .int .i64 to, .int .u64 off] W fun e w' => RetS R1 W e w' := fun a cap W h => by rw [← e1]; exact roffer_any a cap l (no, sq, of) to off HD.out W h
    have gb1 : ∀ a cap W, SRow itm 13 W a cap l → Calls Tryd.prog 40 #[.slice a l.length cap, .agg #[.int .i64 no, .int .u64 sq, .int .i64 of]] W fun e w' => RetS R2 W e w' := fun a cap W h => by rw [← e2]; exact back_any a cap l (no, sq, of) HD.out W h
    have gb2 : ∀ a cap W, SRow itm 13 W a cap l → Calls Tryd.prog 41 #[.slice a l.length cap, .agg #[.int .i64 no, .int .u64 sq, .int .i64 of]] W fun e w' => RetS R2 W e w' := fun a cap W h => by rw [← e2]; exact rback_any a cap l (no, sq, of) HD.out W h
    have ga1 : ∀ a cap W, SRow itm 13 W a cap l → Calls Tryd.prog 42 #[.slice a l.length cap, .int .i64 to] W fun e w' => RetS R3 W e w' := fun a cap W h => by rw [← e3]; exact backAll_any a cap l to HD.out W h
    have ga2 : ∀ a cap W, SRow itm 13 W a cap l → Calls Tryd.prog 43 #[.slice a l.length cap, .int .i64 to] W fun e w' => RetS R3 W e w' := fun a cap W h => by rw [← e3]; exact rbackAll_any a cap l to HD.out W h
    replace go1 := Lib.hid go1; replace go2 := Lib.hid go2; replace gb1 := Lib.hid gb1; replace gb2 := Lib.hid gb2; replace ga1 := Lib.hid ga1; replace ga2 := Lib.hid ga2
    clear e1 e2 e3
    have t1 : (R1.2 != R1.2) = false := by simp
    have t2 : (R2.2 != R2.2) = false := by simp
    have t3 : (R3.2 == R3.2) = true := by simp
    go_wp2_with fail
    (with_reducible refine (lown_any a cap l (by omega) W0 HR.out).mono ?_)
    rintro e W1 ⟨v1, rfl, ho1, h1⟩
    obtain ⟨ah, ch, rfl, hS1, _⟩ := srow_of_owns itm_len ho1
    have HO := Lib.hid hS1
    clear ho1 hS1
    replace HR := Lib.hid (HR.out.below h1)
    replace kb := blk_below h1 kb
    replace nkb := kn kb
    have B1 := bt B0 h1
    clear h1 B0
    go_wp2_with fail
    (with_reducible refine (go1.out ah ch W1 HO.out).mono ?_)
    rintro e W2 ⟨v2, rfl, ho2, h2⟩
    obtain ⟨a2, c2, rfl, hS2, _⟩ := srow_of_owns itm_len ho2
    have HX := Lib.hid hS2
    clear ho2 hS2
    replace HR := Lib.hid (HR.out.below h2)
    replace HO := Lib.hid (HO.out.below h2)
    replace kb := blk_below h2 kb
    replace nkb := kn kb
    have B2 := bt B1 h2
    clear h2 B1
    go_wp2_with fail
    (with_reducible refine (go2.out a cap W2 HR.out).mono ?_)
    rintro e W3 ⟨v3, rfl, ho3, h3⟩
    obtain ⟨a3, c3, rfl, hS3, _⟩ := srow_of_owns itm_len ho3
    have HY := Lib.hid hS3
    clear ho3 hS3
    replace HR := Lib.hid (HR.out.below h3)
    replace HO := Lib.hid (HO.out.below h3)
    replace HX := Lib.hid (HX.out.below h3)
    replace kb := blk_below h3 kb
    replace nkb := kn kb
    have B3 := bt B2 h3
    clear h3 B2
    go_wp2_with fail
    (with_reducible refine (same_self a2 a3 c2 c3 R1.1 W3 HX.out HY.out).mono ?_)
    rintro e W4 ⟨rfl, h4⟩
    replace HR := Lib.hid (HR.out.below h4)
    replace HO := Lib.hid (HO.out.below h4)
    replace HX := Lib.hid (HX.out.below h4)
    replace HY := Lib.hid (HY.out.below h4)
    replace kb := blk_below h4 kb
    replace nkb := kn kb
    have B4 := bt B3 h4
    clear h4 B3
    clear HX HY
    go_wp2_with fail
    (with_reducible refine (gb1.out ah ch W4 HO.out).mono ?_)
    rintro e W5 ⟨v5, rfl, ho5, h5⟩
    obtain ⟨a5, c5, rfl, hS5, _⟩ := srow_of_owns itm_len ho5
    have HX := Lib.hid hS5
    clear ho5 hS5
    replace HR := Lib.hid (HR.out.below h5)
    replace HO := Lib.hid (HO.out.below h5)
    replace kb := blk_below h5 kb
    replace nkb := kn kb
    have B5 := bt B4 h5
    clear h5 B4
    go_wp2_with fail
    (with_reducible refine (gb2.out a cap W5 HR.out).mono ?_)
    rintro e W6 ⟨v6, rfl, ho6, h6⟩
    obtain ⟨a6, c6, rfl, hS6, _⟩ := srow_of_owns itm_len ho6
    have HY := Lib.hid hS6
    clear ho6 hS6
    replace HR := Lib.hid (HR.out.below h6)
    replace HO := Lib.hid (HO.out.below h6)
    replace HX := Lib.hid (HX.out.below h6)
    replace kb := blk_below h6 kb
    replace nkb := kn kb
    have B6 := bt B5 h6
    clear h6 B5
    go_wp2_with fail
    (with_reducible refine (same_self a5 a6 c5 c6 R2.1 W6 HX.out HY.out).mono ?_)
    rintro e W7 ⟨rfl, h7⟩
    replace HR := Lib.hid (HR.out.below h7)
    replace HO := Lib.hid (HO.out.below h7)
    replace HX := Lib.hid (HX.out.below h7)
    replace HY := Lib.hid (HY.out.below h7)
    replace kb := blk_below h7 kb
    replace nkb := kn kb
    have B7 := bt B6 h7
    clear h7 B6
    clear HX HY
    go_wp2_with fail
    (with_reducible refine (ga1.out ah ch W7 HO.out).mono ?_)
    rintro e W8 ⟨v8, rfl, ho8, h8⟩
    obtain ⟨a8, c8, rfl, hS8, _⟩ := srow_of_owns itm_len ho8
    have HX := Lib.hid hS8
    clear ho8 hS8
    replace HR := Lib.hid (HR.out.below h8)
    replace HO := Lib.hid (HO.out.below h8)
    replace kb := blk_below h8 kb
    replace nkb := kn kb
    have B8 := bt B7 h8
    clear h8 B7
    go_wp2_with fail
    (with_reducible refine (ga2.out a cap W8 HR.out).mono ?_)
    rintro e W9 ⟨v9, rfl, ho9, h9⟩
    obtain ⟨a9, c9, rfl, hS9, _⟩ := srow_of_owns itm_len ho9
    have HY := Lib.hid hS9
    clear ho9 hS9
    replace HR := Lib.hid (HR.out.below h9)
    replace HO := Lib.hid (HO.out.below h9)
    replace HX := Lib.hid (HX.out.below h9)
    replace kb := blk_below h9 kb
    replace nkb := kn kb
    have B9 := bt B8 h9
    clear h9 B8
    go_wp2_with fail
    (with_reducible refine (same_self a8 a9 c8 c9 R3.1 W9 HX.out HY.out).mono ?_)
    rintro e W10 ⟨rfl, h10⟩
    replace HR := Lib.hid (HR.out.below h10)
    replace HO := Lib.hid (HO.out.below h10)
    replace HX := Lib.hid (HX.out.below h10)
    replace HY := Lib.hid (HY.out.below h10)
    replace kb := blk_below h10 kb
    replace nkb := kn kb
    have B10 := bt B9 h10
    clear h10 B9
    clear HX HY
    go_wp2_with fail
    (with_reducible refine (same_self ah a ch cap l W10 HO.out HR.out).mono ?_)
    rintro e W11 ⟨rfl, h11⟩
    replace HR := Lib.hid (HR.out.below h11)
    replace HO := Lib.hid (HO.out.below h11)
    replace kb := blk_below h11 kb
    replace nkb := kn kb
    have B11 := bt B10 h11
    clear h11 B10
    go_wp2_with fail
    (with_reducible refine (awake_any W11 (HH.out.on B11)).mono ?_)
    rintro e W12 ⟨rfl, h12⟩
    replace HR := Lib.hid (HR.out.below h12)
    replace HO := Lib.hid (HO.out.below h12)
    replace kb := blk_below h12 kb
    replace nkb := kn kb
    have B12 := bt B11 h12
    clear h12 B11
    go_wp2
    go_ret
    exact ⟨rfl, B12⟩
theorem storeOffers_at (a : Option Addr) (cap : Nat) (l : List Itm) (no sq of to off : Int) (w : World) (hrow : SRow itm 13 w a cap l) (hd : ∀ x ∈ l, GdI x) (hT : Lib.TabIs Tryd.prog w headsNm .u8 headsTab) :
    Calls Tryd.prog 7 #[.slice a l.length cap, .agg #[.int .i64 no, .int .u64 sq, .int .i64 of], .int .i64 to, .int .u64 off] w fun e w' => e = .returned (.bool true) ∧ Below w.heap.size w w' :=
  storeOffers_walk a cap l no sq of to off w hd (htab_of hT) hrow
end Go.Proofs.YtahopnlibmiafaaDoor
