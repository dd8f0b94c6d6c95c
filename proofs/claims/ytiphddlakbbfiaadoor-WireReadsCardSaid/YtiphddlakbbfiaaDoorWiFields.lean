/- The program's form: start and fields. Written by gen_wifields.py. -/
import Derived.Test.YtiphddlakbbfiaaDoorWiRead
namespace Go.Proofs.YtiphddlakbbfiaaDoor
set_option linter.unusedVariables false
open Go.RowKit

theorem intN_range (l : List UInt8) (q m : Int) (hq : 0 ≤ q) (hq2 : q ≤ l.length) : 0 ≤ (intN l q m).1 ∧ ((intN l q m).1 ≤ m ∨ (intN l q m).1 = 0) ∧ 0 ≤ (intN l q m).2.1 ∧ (intN l q m).2.1 ≤ l.length := by
  have hb := getN_bound l q
  unfold intN
  split
  · refine ⟨by simp, .inr rfl, by simp only; omega, by simp only; omega⟩
  · split
    · exact ⟨by simp, .inr rfl, hq, hq2⟩
    · refine ⟨by simp only; omega, .inl (by simp only; omega), by simp only; omega, by simp only; omega⟩
theorem rdI_range (l : List UInt8) (m : Int) (r : Rs) (hm : 0 ≤ m) (hq : 0 ≤ r.pos) (hq2 : r.pos ≤ l.length) : 0 ≤ (rdI l m r).1 ∧ (rdI l m r).1 ≤ m ∧ 0 ≤ (rdI l m r).2.pos ∧ (rdI l m r).2.pos ≤ l.length := by
  unfold rdI
  split
  · exact ⟨by simp, hm, hq, hq2⟩
  · have := intN_range l r.pos m hq hq2
    refine ⟨this.1, by simp only; omega, this.2.2.1, this.2.2.2⟩
/-- The number of a head, as the loop finds it among the first j heads. -/
def found (h : Int) : Nat → Int
  | 0 => -1
  | j + 1 => if headsTab.getD j 0 = h then (j : Int) else found h j
set_option maxRecDepth 100000 in
theorem found_bd : ∀ (h : Nat), h < 256 → (hdB h = true → 0 ≤ found h 6 ∧ found h 6 ≤ 5 ∧ (found h 6).tmod 3 = ((h - 176) % 4 : Nat) ∧ decide (2 < found h 6) = decide (180 ≤ h)) ∧ (hdB h = false → found h 6 < 0) := by decide
theorem found_le (h : Int) (j : Nat) : -1 ≤ found h j ∧ found h j < j := by
  induction j with
  | zero => simp [found]
  | succ j ih => unfold found; split <;> omega
set_option maxRecDepth 100000 in
set_option maxHeartbeats 3200000 in
theorem fields_full (b : Nat) (s : ByteArray) (p er fa no sq of de pr bo li to : Int) (da : ByteArray) (hs : s.size ≤ maxLen) (hp1 : 0 ≤ p) (hp2 : p ≤ s.size) (X : Fl) (hX : fieldsR s.data.toList true ⟨p, er, fa⟩ = X) (w : World) (hb : blk w b = some (formC s p er fa no sq of de pr bo li to da true)) :
    Calls Tryd.prog 39 #[.pointer (some ⟨b, 0, none⟩)] w fun q w' => q = .returned (.tuple #[]) ∧ blk w' b = some (formC s X.r.pos X.r.err X.r.fat X.no X.sq of X.de pr X.bo X.li to da true) ∧ Below b w w' := by
  have hl : s.data.toList.length = s.size := by simp
  have hss : (s.size : Int) ≤ 9223372036854775807 := by unfold maxLen at hs; omega
  unfold fieldsR at hX
  simp only [Bool.false_eq_true, if_false, if_true] at hX
  have u1 := rdI_range s.data.toList 16 ⟨p, er, fa⟩ (by omega) (by simp only; omega) (by simp only; omega)
  have c1 := fun w h => int_any b s p er fa no sq of de pr bo li to da true 16 hs (by omega) (by omega) (by omega) w h
  obtain ⟨⟨n1, ⟨p1, e1, f1⟩⟩, h1⟩ : ∃ x, rdI s.data.toList 16 ⟨p, er, fa⟩ = x := ⟨_, rfl⟩
  simp only [h1] at u1 c1 hX
  obtain ⟨u1a, u1b, u1c, u1d⟩ := u1
  rw [hl] at u1d
  replace c1 := Lib.hid c1; clear h1
  have u2 := rdI_range s.data.toList 1099511627776 ⟨p1, e1, f1⟩ (by omega) (by simp only; omega) (by simp only; omega)
  have c2 := fun w h => int_any b s p1 e1 f1 n1 sq of de pr bo li to da true 1099511627776 hs (by omega) (by omega) (by omega) w h
  obtain ⟨⟨n2, ⟨p2, e2, f2⟩⟩, h2⟩ : ∃ x, rdI s.data.toList 1099511627776 ⟨p1, e1, f1⟩ = x := ⟨_, rfl⟩
  simp only [h2] at u2 c2 hX
  obtain ⟨u2a, u2b, u2c, u2d⟩ := u2
  rw [hl] at u2d
  replace c2 := Lib.hid c2; clear h2
  have u3 := rdI_range s.data.toList 16 ⟨p2, e2, f2⟩ (by omega) (by simp only; omega) (by simp only; omega)
  have c3 := fun w h => int_any b s p2 e2 f2 n1 n2 of de pr bo li to da true 16 hs (by omega) (by omega) (by omega) w h
  obtain ⟨⟨n3, ⟨p3, e3, f3⟩⟩, h3⟩ : ∃ x, rdI s.data.toList 16 ⟨p2, e2, f2⟩ = x := ⟨_, rfl⟩
  simp only [h3] at u3 c3 hX
  obtain ⟨u3a, u3b, u3c, u3d⟩ := u3
  rw [hl] at u3d
  replace c3 := Lib.hid c3; clear h3
  have u4 := rdI_range s.data.toList 1099511627776 ⟨p3, e3, f3⟩ (by omega) (by simp only; omega) (by simp only; omega)
  have c4 := fun w h => int_any b s p3 e3 f3 n1 n2 of n3 pr bo li to da true 1099511627776 hs (by omega) (by omega) (by omega) w h
  obtain ⟨⟨n4, ⟨p4, e4, f4⟩⟩, h4⟩ : ∃ x, rdI s.data.toList 1099511627776 ⟨p3, e3, f3⟩ = x := ⟨_, rfl⟩
  simp only [h4] at u4 c4 hX
  obtain ⟨u4a, u4b, u4c, u4d⟩ := u4
  rw [hl] at u4d
  replace c4 := Lib.hid c4; clear h4
  have u5 := rdI_range s.data.toList 1048576 ⟨p4, e4, f4⟩ (by omega) (by simp only; omega) (by simp only; omega)
  have c5 := fun w h => int_any b s p4 e4 f4 n1 n2 of n3 pr n4 li to da true 1048576 hs (by omega) (by omega) (by omega) w h
  obtain ⟨⟨n5, ⟨p5, e5, f5⟩⟩, h5⟩ : ∃ x, rdI s.data.toList 1048576 ⟨p4, e4, f4⟩ = x := ⟨_, rfl⟩
  simp only [h5] at u5 c5 hX
  obtain ⟨u5a, u5b, u5c, u5d⟩ := u5
  rw [hl] at u5d
  replace c5 := Lib.hid c5; clear h5
  subst hX
  simp only
  have q2 : IntKind.u64.wrap n2 = n2 := IntWalk.u64_in _ (by omega)
  have knb := kn hb
  go_enter Tryd.func39, Tryd.ntmps39
  go_wp2_with fail
  (with_reducible refine (c1.out _ hb).mono ?_)
  rintro q w1 ⟨rfl, k1, b1⟩
  have B1 : Below b w w1 := b1; clear b1 knb
  have kn1 := kn k1
  go_wp2_with fail
  have kq2 : blk _ b = some (formC s p1 e1 f1 n1 sq of de pr bo li to da true) := blk_to (blk_set (v := .int .i64 n1) (i := 4) k1) rfl
  (with_reducible refine (c2.out _ kq2).mono ?_)
  rintro q w2 ⟨rfl, k2, b2⟩
  have B2 : Below b w w2 := (B1.setCell (p := ⟨b, 4, none⟩) (Nat.le_refl _) _).trans b2; clear b2 B1 kn1 k1 kq2
  have kn2 := kn k2
  go_wp2_with fail
  have kq3 : blk _ b = some (formC s p2 e2 f2 n1 n2 of de pr bo li to da true) := blk_to (blk_set (v := .int .u64 n2) (i := 5) k2) rfl
  (with_reducible refine (c3.out _ kq3).mono ?_)
  rintro q w3 ⟨rfl, k3, b3⟩
  have B3 : Below b w w3 := (B2.setCell (p := ⟨b, 5, none⟩) (Nat.le_refl _) _).trans b3; clear b3 B2 kn2 k2 kq3
  have kn3 := kn k3
  go_wp2_with fail
  have kq4 : blk _ b = some (formC s p3 e3 f3 n1 n2 of n3 pr bo li to da true) := blk_to (blk_set (v := .int .i64 n3) (i := 7) k3) rfl
  (with_reducible refine (c4.out _ kq4).mono ?_)
  rintro q w4 ⟨rfl, k4, b4⟩
  have B4 : Below b w w4 := (B3.setCell (p := ⟨b, 7, none⟩) (Nat.le_refl _) _).trans b4; clear b4 B3 kn3 k3 kq4
  have kn4 := kn k4
  go_wp2_with fail
  have kq5 : blk _ b = some (formC s p4 e4 f4 n1 n2 of n3 pr n4 li to da true) := blk_to (blk_set (v := .int .i64 n4) (i := 9) k4) rfl
  (with_reducible refine (c5.out _ kq5).mono ?_)
  rintro q w5 ⟨rfl, k5, b5⟩
  have B5 : Below b w w5 := (B4.setCell (p := ⟨b, 9, none⟩) (Nat.le_refl _) _).trans b5; clear b5 B4 kn4 k4 kq5
  have kn5 := kn k5
  go_wp2
  go_end0
  exact ⟨rfl, blk_to (blk_set k5) rfl, B5.setCell (p := ⟨b, 10, none⟩) (Nat.le_refl _) _⟩
set_option maxRecDepth 100000 in
set_option maxHeartbeats 3200000 in
theorem fields_part (b : Nat) (s : ByteArray) (p er fa no sq of de pr bo li to : Int) (da : ByteArray) (hs : s.size ≤ maxLen) (hp1 : 0 ≤ p) (hp2 : p ≤ s.size) (X : Fl) (hX : fieldsR s.data.toList false ⟨p, er, fa⟩ = X) (w : World) (hb : blk w b = some (formC s p er fa no sq of de pr bo li to da false)) :
    Calls Tryd.prog 39 #[.pointer (some ⟨b, 0, none⟩)] w fun q w' => q = .returned (.tuple #[]) ∧ blk w' b = some (formC s X.r.pos X.r.err X.r.fat X.no X.sq X.of X.de pr X.bo X.li X.to da false) ∧ Below b w w' := by
  have hl : s.data.toList.length = s.size := by simp
  have hss : (s.size : Int) ≤ 9223372036854775807 := by unfold maxLen at hs; omega
  unfold fieldsR at hX
  simp only [Bool.false_eq_true, if_false, if_true] at hX
  have u1 := rdI_range s.data.toList 16 ⟨p, er, fa⟩ (by omega) (by simp only; omega) (by simp only; omega)
  have c1 := fun w h => int_any b s p er fa no sq of de pr bo li to da false 16 hs (by omega) (by omega) (by omega) w h
  obtain ⟨⟨n1, ⟨p1, e1, f1⟩⟩, h1⟩ : ∃ x, rdI s.data.toList 16 ⟨p, er, fa⟩ = x := ⟨_, rfl⟩
  simp only [h1] at u1 c1 hX
  obtain ⟨u1a, u1b, u1c, u1d⟩ := u1
  rw [hl] at u1d
  replace c1 := Lib.hid c1; clear h1
  have u2 := rdI_range s.data.toList 1099511627776 ⟨p1, e1, f1⟩ (by omega) (by simp only; omega) (by simp only; omega)
  have c2 := fun w h => int_any b s p1 e1 f1 n1 sq of de pr bo li to da false 1099511627776 hs (by omega) (by omega) (by omega) w h
  obtain ⟨⟨n2, ⟨p2, e2, f2⟩⟩, h2⟩ : ∃ x, rdI s.data.toList 1099511627776 ⟨p1, e1, f1⟩ = x := ⟨_, rfl⟩
  simp only [h2] at u2 c2 hX
  obtain ⟨u2a, u2b, u2c, u2d⟩ := u2
  rw [hl] at u2d
  replace c2 := Lib.hid c2; clear h2
  have u3 := rdI_range s.data.toList 16 ⟨p2, e2, f2⟩ (by omega) (by simp only; omega) (by simp only; omega)
  have c3 := fun w h => int_any b s p2 e2 f2 n1 n2 of de pr bo li to da false 16 hs (by omega) (by omega) (by omega) w h
  obtain ⟨⟨n3, ⟨p3, e3, f3⟩⟩, h3⟩ : ∃ x, rdI s.data.toList 16 ⟨p2, e2, f2⟩ = x := ⟨_, rfl⟩
  simp only [h3] at u3 c3 hX
  obtain ⟨u3a, u3b, u3c, u3d⟩ := u3
  rw [hl] at u3d
  replace c3 := Lib.hid c3; clear h3
  have u4 := rdI_range s.data.toList 1099511627776 ⟨p3, e3, f3⟩ (by omega) (by simp only; omega) (by simp only; omega)
  have c4 := fun w h => int_any b s p3 e3 f3 n1 n2 of n3 pr bo li to da false 1099511627776 hs (by omega) (by omega) (by omega) w h
  obtain ⟨⟨n4, ⟨p4, e4, f4⟩⟩, h4⟩ : ∃ x, rdI s.data.toList 1099511627776 ⟨p3, e3, f3⟩ = x := ⟨_, rfl⟩
  simp only [h4] at u4 c4 hX
  obtain ⟨u4a, u4b, u4c, u4d⟩ := u4
  rw [hl] at u4d
  replace c4 := Lib.hid c4; clear h4
  have u5 := rdI_range s.data.toList 1048576 ⟨p4, e4, f4⟩ (by omega) (by simp only; omega) (by simp only; omega)
  have c5 := fun w h => int_any b s p4 e4 f4 n1 n2 of n3 pr n4 li to da false 1048576 hs (by omega) (by omega) (by omega) w h
  obtain ⟨⟨n5, ⟨p5, e5, f5⟩⟩, h5⟩ : ∃ x, rdI s.data.toList 1048576 ⟨p4, e4, f4⟩ = x := ⟨_, rfl⟩
  simp only [h5] at u5 c5 hX
  obtain ⟨u5a, u5b, u5c, u5d⟩ := u5
  rw [hl] at u5d
  replace c5 := Lib.hid c5; clear h5
  have u6 := rdI_range s.data.toList 20000 ⟨p5, e5, f5⟩ (by omega) (by simp only; omega) (by simp only; omega)
  have c6 := fun w h => int_any b s p5 e5 f5 n1 n2 of n3 pr n4 n5 to da false 20000 hs (by omega) (by omega) (by omega) w h
  obtain ⟨⟨n6, ⟨p6, e6, f6⟩⟩, h6⟩ : ∃ x, rdI s.data.toList 20000 ⟨p5, e5, f5⟩ = x := ⟨_, rfl⟩
  simp only [h6] at u6 c6 hX
  obtain ⟨u6a, u6b, u6c, u6d⟩ := u6
  rw [hl] at u6d
  replace c6 := Lib.hid c6; clear h6
  have u7 := rdI_range s.data.toList 20000 ⟨p6, e6, f6⟩ (by omega) (by simp only; omega) (by simp only; omega)
  have c7 := fun w h => int_any b s p6 e6 f6 n1 n2 n6 n3 pr n4 n5 to da false 20000 hs (by omega) (by omega) (by omega) w h
  obtain ⟨⟨n7, ⟨p7, e7, f7⟩⟩, h7⟩ : ∃ x, rdI s.data.toList 20000 ⟨p6, e6, f6⟩ = x := ⟨_, rfl⟩
  simp only [h7] at u7 c7 hX
  obtain ⟨u7a, u7b, u7c, u7d⟩ := u7
  rw [hl] at u7d
  replace c7 := Lib.hid c7; clear h7
  subst hX
  simp only
  have q2 : IntKind.u64.wrap n2 = n2 := IntWalk.u64_in _ (by omega)
  have knb := kn hb
  go_enter Tryd.func39, Tryd.ntmps39
  go_wp2_with fail
  (with_reducible refine (c1.out _ hb).mono ?_)
  rintro q w1 ⟨rfl, k1, b1⟩
  have B1 : Below b w w1 := b1; clear b1 knb
  have kn1 := kn k1
  go_wp2_with fail
  have kq2 : blk _ b = some (formC s p1 e1 f1 n1 sq of de pr bo li to da false) := blk_to (blk_set (v := .int .i64 n1) (i := 4) k1) rfl
  (with_reducible refine (c2.out _ kq2).mono ?_)
  rintro q w2 ⟨rfl, k2, b2⟩
  have B2 : Below b w w2 := (B1.setCell (p := ⟨b, 4, none⟩) (Nat.le_refl _) _).trans b2; clear b2 B1 kn1 k1 kq2
  have kn2 := kn k2
  go_wp2_with fail
  have kq3 : blk _ b = some (formC s p2 e2 f2 n1 n2 of de pr bo li to da false) := blk_to (blk_set (v := .int .u64 n2) (i := 5) k2) rfl
  (with_reducible refine (c3.out _ kq3).mono ?_)
  rintro q w3 ⟨rfl, k3, b3⟩
  have B3 : Below b w w3 := (B2.setCell (p := ⟨b, 5, none⟩) (Nat.le_refl _) _).trans b3; clear b3 B2 kn2 k2 kq3
  have kn3 := kn k3
  go_wp2_with fail
  have kq4 : blk _ b = some (formC s p3 e3 f3 n1 n2 of n3 pr bo li to da false) := blk_to (blk_set (v := .int .i64 n3) (i := 7) k3) rfl
  (with_reducible refine (c4.out _ kq4).mono ?_)
  rintro q w4 ⟨rfl, k4, b4⟩
  have B4 : Below b w w4 := (B3.setCell (p := ⟨b, 7, none⟩) (Nat.le_refl _) _).trans b4; clear b4 B3 kn3 k3 kq4
  have kn4 := kn k4
  go_wp2_with fail
  have kq5 : blk _ b = some (formC s p4 e4 f4 n1 n2 of n3 pr n4 li to da false) := blk_to (blk_set (v := .int .i64 n4) (i := 9) k4) rfl
  (with_reducible refine (c5.out _ kq5).mono ?_)
  rintro q w5 ⟨rfl, k5, b5⟩
  have B5 : Below b w w5 := (B4.setCell (p := ⟨b, 9, none⟩) (Nat.le_refl _) _).trans b5; clear b5 B4 kn4 k4 kq5
  have kn5 := kn k5
  go_wp2_with fail
  have kq6 : blk _ b = some (formC s p5 e5 f5 n1 n2 of n3 pr n4 n5 to da false) := blk_to (blk_set (v := .int .i64 n5) (i := 10) k5) rfl
  (with_reducible refine (c6.out _ kq6).mono ?_)
  rintro q w6 ⟨rfl, k6, b6⟩
  have B6 : Below b w w6 := (B5.setCell (p := ⟨b, 10, none⟩) (Nat.le_refl _) _).trans b6; clear b6 B5 kn5 k5 kq6
  have kn6 := kn k6
  go_wp2_with fail
  have kq7 : blk _ b = some (formC s p6 e6 f6 n1 n2 n6 n3 pr n4 n5 to da false) := blk_to (blk_set (v := .int .i64 n6) (i := 6) k6) rfl
  (with_reducible refine (c7.out _ kq7).mono ?_)
  rintro q w7 ⟨rfl, k7, b7⟩
  have B7 : Below b w w7 := (B6.setCell (p := ⟨b, 6, none⟩) (Nat.le_refl _) _).trans b7; clear b7 B6 kn6 k6 kq7
  have kn7 := kn k7
  go_wp2
  go_end0
  exact ⟨rfl, blk_to (blk_set k7) rfl, B7.setCell (p := ⟨b, 11, none⟩) (Nat.le_refl _) _⟩
end Go.Proofs.YtiphddlakbbfiaaDoor
