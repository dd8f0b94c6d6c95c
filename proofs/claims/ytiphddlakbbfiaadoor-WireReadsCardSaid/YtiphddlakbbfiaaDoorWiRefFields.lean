/- The reference's reader: fields and Peek. Written by gen_wireffields.py. -/
import Derived.Test.YtiphddlakbbfiaaDoorWiRefRead
namespace Go.Proofs.YtiphddlakbbfiaaDoor
set_option linter.unusedVariables false
open Go.RowKit
theorem ret_blk1 {P : Program} {fn : Func} {R : Ending → World → Prop} {a : Act} {W : World} {b : Nat} {c : Array Value} {v : Value} (hb : blk W b = some c)
    (hres : ∀ W' : World, (∀ i, W'.cell? ⟨b, i, none⟩ = c[i]?) → (results fn a.tmps).run P W' = .ok v W') (hdf : a.defers = []) (hR : R (.returned v) W) : bodyPost P fn R .ret a W :=
  bodyPost_ret (v := v) (hres W (fun i => blk_cell hb i)) hdf hR
set_option maxRecDepth 100000 in
set_option maxHeartbeats 1600000 in
theorem refFields_none (b : Nat) (s : ByteArray) (hs : s.size = 0) (w : World) (hb : blk w b = some (rdC s 0 0 0)) :
    Calls Tryd.prog 44 #[.pointer (some ⟨b, 0, none⟩)] w fun q w' => q = .returned (.tuple #[buv 0 0 0 0 0 0 0 0 ⟨#[]⟩, .bool false]) ∧ blk w' b = some (rdC s 0 11 0) ∧ Touch b w w' := by
  obtain rfl : s = ⟨#[]⟩ := by
    obtain ⟨⟨l⟩⟩ := s
    have : l = [] := by rw [← List.length_eq_zero_iff]; exact hs
    rw [this]
  have knb := kn hb
  have hlt := blk_lt hb
  go_enter Tryd.func44, Tryd.ntmps44
  go_wp2
  refine ret_blk1 (b := w.heap.size) (c := #[.int .i64 0, .int .u64 0, .int .i64 0, .int .i64 0, .int .i64 0, .int .i64 0, .int .i64 0, .int .i64 0, .string ⟨#[]⟩]) (v := .tuple #[buv 0 0 0 0 0 0 0 0 ⟨#[]⟩, .bool false]) (by (apply blk_to; (focus (repeat (first | (with_reducible assumption) | (with_reducible apply blk_drew) | (with_reducible apply blk_set) | ((with_reducible apply blk_other'); (first | (focus (dsimp only; assumption)) | (focus (simp; done)) | (focus (dsimp only; omega)))) | ((with_reducible apply blk_alloc_new); (first | (with_reducible rfl) | (focus (simp; done)) | (focus (simp; omega)))) | (with_reducible apply blk_alloc) | ((with_reducible apply blk_below); (with_reducible assumption))))); rfl)) (fun W' e1 => by simp [results, Tryd.results44, go_sem, e1]) rfl ⟨rfl, by (apply blk_to; (focus (repeat (first | (with_reducible assumption) | (with_reducible apply blk_drew) | (with_reducible apply blk_set) | ((with_reducible apply blk_other'); (first | (focus (dsimp only; assumption)) | (focus (simp; done)) | (focus (dsimp only; omega)))) | ((with_reducible apply blk_alloc_new); (first | (with_reducible rfl) | (focus (simp; done)) | (focus (simp; omega)))) | (with_reducible apply blk_alloc) | ((with_reducible apply blk_below); (with_reducible assumption))))); rfl), ?_⟩
  (repeat (first | (with_reducible assumption) | (with_reducible exact Touch.refl _ _) | (with_reducible refine Touch.drew ?_) | (with_reducible refine Touch.set ?_) | ((with_reducible refine Touch.setNew' ?_ hlt ?_); (focus (first | exact Nat.le_refl _ | exact Nat.le_succ _ | omega))) | (with_reducible refine Touch.alloc ?_ hlt)))
set_option maxRecDepth 100000 in
set_option maxHeartbeats 3200000 in
theorem refFields_full (b : Nat) (s : ByteArray) (k pr : Nat) (hs0 : 0 < s.size) (hs : s.size ≤ maxLen) (hk : (s[0].toNat : Int) - 176 = (k : Int)) (hk6 : k ≤ 6) (hk3 : k ≠ 3) (hfu : 4 ≤ k) (hpr : (k : Int).tmod 4 = (pr : Int)) (X : Fl) (hX : fieldsJ s.data.toList true ⟨1, 0, 0⟩ = X) (w : World) (hb : blk w b = some (rdC s 0 0 0)) :
    Calls Tryd.prog 44 #[.pointer (some ⟨b, 0, none⟩)] w fun q w' => q = .returned (.tuple #[buv X.no X.sq X.of X.de pr X.bo X.li X.to ⟨#[]⟩, .bool true]) ∧ blk w' b = some (rdC s X.r.pos X.r.err X.r.fat) ∧ Touch b w w' := by
  have hl : s.data.toList.length = s.size := by simp
  have hss : (s.size : Int) ≤ 9223372036854775807 := by unfold maxLen at hs; omega
  unfold fieldsJ at hX
  simp only [Bool.false_eq_true, if_false, if_true] at hX
  have u1 := rdJ_range s.data.toList 16 ⟨1, 0, 0⟩ (by omega) (by simp only; omega) (by simp only; omega)
  have c1 := fun w h => number_any b s 1 0 0 16 hs (by omega) (by omega) (by omega) w h
  obtain ⟨⟨n1, ⟨p1, e1, f1⟩⟩, h1⟩ : ∃ x, rdJ s.data.toList 16 ⟨1, 0, 0⟩ = x := ⟨_, rfl⟩
  simp only [h1] at u1 c1 hX
  obtain ⟨u1a, u1b, u1c, u1d⟩ := u1
  rw [hl] at u1d
  replace c1 := Lib.hid c1; clear h1
  have u2 := rdJ_range s.data.toList 1099511627776 ⟨p1, e1, f1⟩ (by omega) (by simp only; omega) (by simp only; omega)
  have c2 := fun w h => number_any b s p1 e1 f1 1099511627776 hs (by omega) (by omega) (by omega) w h
  obtain ⟨⟨n2, ⟨p2, e2, f2⟩⟩, h2⟩ : ∃ x, rdJ s.data.toList 1099511627776 ⟨p1, e1, f1⟩ = x := ⟨_, rfl⟩
  simp only [h2] at u2 c2 hX
  obtain ⟨u2a, u2b, u2c, u2d⟩ := u2
  rw [hl] at u2d
  replace c2 := Lib.hid c2; clear h2
  have u3 := rdJ_range s.data.toList 16 ⟨p2, e2, f2⟩ (by omega) (by simp only; omega) (by simp only; omega)
  have c3 := fun w h => number_any b s p2 e2 f2 16 hs (by omega) (by omega) (by omega) w h
  obtain ⟨⟨n3, ⟨p3, e3, f3⟩⟩, h3⟩ : ∃ x, rdJ s.data.toList 16 ⟨p2, e2, f2⟩ = x := ⟨_, rfl⟩
  simp only [h3] at u3 c3 hX
  obtain ⟨u3a, u3b, u3c, u3d⟩ := u3
  rw [hl] at u3d
  replace c3 := Lib.hid c3; clear h3
  have u4 := rdJ_range s.data.toList 1099511627776 ⟨p3, e3, f3⟩ (by omega) (by simp only; omega) (by simp only; omega)
  have c4 := fun w h => number_any b s p3 e3 f3 1099511627776 hs (by omega) (by omega) (by omega) w h
  obtain ⟨⟨n4, ⟨p4, e4, f4⟩⟩, h4⟩ : ∃ x, rdJ s.data.toList 1099511627776 ⟨p3, e3, f3⟩ = x := ⟨_, rfl⟩
  simp only [h4] at u4 c4 hX
  obtain ⟨u4a, u4b, u4c, u4d⟩ := u4
  rw [hl] at u4d
  replace c4 := Lib.hid c4; clear h4
  have u5 := rdJ_range s.data.toList 1048576 ⟨p4, e4, f4⟩ (by omega) (by simp only; omega) (by simp only; omega)
  have c5 := fun w h => number_any b s p4 e4 f4 1048576 hs (by omega) (by omega) (by omega) w h
  obtain ⟨⟨n5, ⟨p5, e5, f5⟩⟩, h5⟩ : ∃ x, rdJ s.data.toList 1048576 ⟨p4, e4, f4⟩ = x := ⟨_, rfl⟩
  simp only [h5] at u5 c5 hX
  obtain ⟨u5a, u5b, u5c, u5d⟩ := u5
  rw [hl] at u5d
  replace c5 := Lib.hid c5; clear h5
  subst hX
  simp only
  have q2 : IntKind.u64.wrap n2 = n2 := IntWalk.u64_in _ (by omega)
  have knb := kn hb
  have hlt := blk_lt hb
  have z1 : s.toList.isEmpty = false := by
    have h1 : s.data.toList ≠ [] := by rw [← List.length_pos_iff]; simpa using hs0
    rw [ByteArray.toList_eq]; simpa using h1
  have k3 : ((k : Int) == 3) = false := by simp; omega
  have tm : (k : Int) % 4 = (pr : Int) := by rw [← hpr, Int.tmod_eq_emod_of_nonneg (by omega)]
  have ab : b ≠ w.heap.size := by omega
  have hkk : (k : Int) ≤ 6 := by omega
  have hfi : (4 : Int) ≤ (k : Int) := by omega
  clear hfu hk3 hpr
  go_enter Tryd.func44, Tryd.ntmps44
  go_wp2_with fail
  (with_reducible refine (c1.out _ ?_).mono ?_)
  · (apply blk_to; (focus (repeat (first | (with_reducible assumption) | (with_reducible apply blk_drew) | (with_reducible apply blk_set) | ((with_reducible apply blk_other'); (first | (focus (dsimp only; assumption)) | (focus (simp; done)) | (focus (dsimp only; omega)))) | ((with_reducible apply blk_alloc_new); (first | (with_reducible rfl) | (focus (simp; done)) | (focus (simp; omega)))) | (with_reducible apply blk_alloc) | ((with_reducible apply blk_below); (with_reducible assumption))))); rfl)
  rintro q w1 ⟨rfl, k1, T1⟩
  have r1 : blk w1 w.heap.size = some (#[.int .i64 0, .int .u64 0, .int .i64 0, .int .i64 0, .int .i64 0, .int .i64 0, .int .i64 0, .int .i64 0, .string ⟨#[]⟩]) := T1.2.1 _ _ (by omega) (by (apply blk_to; (focus (repeat (first | (with_reducible assumption) | (with_reducible apply blk_drew) | (with_reducible apply blk_set) | ((with_reducible apply blk_other'); (first | (focus (dsimp only; assumption)) | (focus (simp; done)) | (focus (dsimp only; omega)))) | ((with_reducible apply blk_alloc_new); (first | (with_reducible rfl) | (focus (simp; done)) | (focus (simp; omega)))) | (with_reducible apply blk_alloc) | ((with_reducible apply blk_below); (with_reducible assumption))))); rfl))
  have y1 : blk w1 (w.heap.size + 1) = some (#[.int .i64 0, .int .u64 0, .int .i64 0, .int .i64 0, .int .i64 (pr : Int), .int .i64 0, .int .i64 0, .int .i64 0, .string ⟨#[]⟩]) := T1.2.1 _ _ (by omega) (by (apply blk_to; (focus (repeat (first | (with_reducible assumption) | (with_reducible apply blk_drew) | (with_reducible apply blk_set) | ((with_reducible apply blk_other'); (first | (focus (dsimp only; assumption)) | (focus (simp; done)) | (focus (dsimp only; omega)))) | ((with_reducible apply blk_alloc_new); (first | (with_reducible rfl) | (focus (simp; done)) | (focus (simp; omega)))) | (with_reducible apply blk_alloc) | ((with_reducible apply blk_below); (with_reducible assumption))))); rfl))
  have t1 : Touch b w w1 := by
    refine Touch.trans ?_ T1
    (repeat (first | (with_reducible assumption) | (with_reducible exact Touch.refl _ _) | (with_reducible refine Touch.drew ?_) | (with_reducible refine Touch.set ?_) | ((with_reducible refine Touch.setNew' ?_ hlt ?_); (focus (first | exact Nat.le_refl _ | exact Nat.le_succ _ | omega))) | (with_reducible refine Touch.alloc ?_ hlt)))
  clear T1
  have kn1 := kn k1; have kr1 := kn r1; have ky1 := kn y1
  clear knb
  go_wp2_with fail
  (with_reducible refine (c2.out _ ?_).mono ?_)
  · exact blk_other k1 (by simp; omega)
  rintro q w2 ⟨rfl, k2, T2⟩
  have r2 : blk w2 w.heap.size = some (#[.int .i64 0, .int .u64 0, .int .i64 0, .int .i64 0, .int .i64 0, .int .i64 0, .int .i64 0, .int .i64 0, .string ⟨#[]⟩]) := T2.2.1 _ _ (by omega) (blk_other r1 (by simp))
  have y2 : blk w2 (w.heap.size + 1) = some (#[.int .i64 n1, .int .u64 0, .int .i64 0, .int .i64 0, .int .i64 (pr : Int), .int .i64 0, .int .i64 0, .int .i64 0, .string ⟨#[]⟩]) := T2.2.1 _ _ (by omega) (blk_to (blk_set y1) rfl)
  have t2 : Touch b w w2 := (t1.setNew (by omega) hlt).trans T2
  clear k1 r1 y1 t1 kn1 kr1 ky1
  clear T2
  have kn2 := kn k2; have kr2 := kn r2; have ky2 := kn y2
  go_wp2_with fail
  (with_reducible refine (c3.out _ ?_).mono ?_)
  · exact blk_other k2 (by simp; omega)
  rintro q w3 ⟨rfl, k3, T3⟩
  have r3 : blk w3 w.heap.size = some (#[.int .i64 0, .int .u64 0, .int .i64 0, .int .i64 0, .int .i64 0, .int .i64 0, .int .i64 0, .int .i64 0, .string ⟨#[]⟩]) := T3.2.1 _ _ (by omega) (blk_other r2 (by simp))
  have y3 : blk w3 (w.heap.size + 1) = some (#[.int .i64 n1, .int .u64 n2, .int .i64 0, .int .i64 0, .int .i64 (pr : Int), .int .i64 0, .int .i64 0, .int .i64 0, .string ⟨#[]⟩]) := T3.2.1 _ _ (by omega) (blk_to (blk_set y2) rfl)
  have t3 : Touch b w w3 := (t2.setNew (by omega) hlt).trans T3
  clear k2 r2 y2 t2 kn2 kr2 ky2
  clear T3
  have kn3 := kn k3; have kr3 := kn r3; have ky3 := kn y3
  go_wp2_with fail
  (with_reducible refine (c4.out _ ?_).mono ?_)
  · exact blk_other k3 (by simp; omega)
  rintro q w4 ⟨rfl, k4, T4⟩
  have r4 : blk w4 w.heap.size = some (#[.int .i64 0, .int .u64 0, .int .i64 0, .int .i64 0, .int .i64 0, .int .i64 0, .int .i64 0, .int .i64 0, .string ⟨#[]⟩]) := T4.2.1 _ _ (by omega) (blk_other r3 (by simp))
  have y4 : blk w4 (w.heap.size + 1) = some (#[.int .i64 n1, .int .u64 n2, .int .i64 0, .int .i64 n3, .int .i64 (pr : Int), .int .i64 0, .int .i64 0, .int .i64 0, .string ⟨#[]⟩]) := T4.2.1 _ _ (by omega) (blk_to (blk_set y3) rfl)
  have t4 : Touch b w w4 := (t3.setNew (by omega) hlt).trans T4
  clear k3 r3 y3 t3 kn3 kr3 ky3
  clear T4
  have kn4 := kn k4; have kr4 := kn r4; have ky4 := kn y4
  go_wp2_with fail
  (with_reducible refine (c5.out _ ?_).mono ?_)
  · exact blk_other k4 (by simp; omega)
  rintro q w5 ⟨rfl, k5, T5⟩
  have r5 : blk w5 w.heap.size = some (#[.int .i64 0, .int .u64 0, .int .i64 0, .int .i64 0, .int .i64 0, .int .i64 0, .int .i64 0, .int .i64 0, .string ⟨#[]⟩]) := T5.2.1 _ _ (by omega) (blk_other r4 (by simp))
  have y5 : blk w5 (w.heap.size + 1) = some (#[.int .i64 n1, .int .u64 n2, .int .i64 0, .int .i64 n3, .int .i64 (pr : Int), .int .i64 n4, .int .i64 0, .int .i64 0, .string ⟨#[]⟩]) := T5.2.1 _ _ (by omega) (blk_to (blk_set y4) rfl)
  have t5 : Touch b w w5 := (t4.setNew (by omega) hlt).trans T5
  clear k4 r4 y4 t4 kn4 kr4 ky4
  clear T5
  have kn5 := kn k5; have kr5 := kn r5; have ky5 := kn y5
  go_wp2
  refine ret_blk1 (b := w.heap.size) (c := #[.int .i64 n1, .int .u64 n2, .int .i64 0, .int .i64 n3, .int .i64 (pr : Int), .int .i64 n4, .int .i64 n5, .int .i64 0, .string ⟨#[]⟩]) (v := .tuple #[.agg #[.int .i64 n1, .int .u64 n2, .int .i64 0, .int .i64 n3, .int .i64 (pr : Int), .int .i64 n4, .int .i64 n5, .int .i64 0, .string ⟨#[]⟩], .bool true]) (by (apply blk_to; (focus (repeat (first | (with_reducible assumption) | (with_reducible apply blk_drew) | (with_reducible apply blk_set) | ((with_reducible apply blk_other'); (first | (focus (dsimp only; assumption)) | (focus (simp; done)) | (focus (dsimp only; omega)))) | ((with_reducible apply blk_alloc_new); (first | (with_reducible rfl) | (focus (simp; done)) | (focus (simp; omega)))) | (with_reducible apply blk_alloc) | ((with_reducible apply blk_below); (with_reducible assumption))))); rfl)) (fun W' e1 => by simp [results, Tryd.results44, go_sem, e1, hfi]) rfl ⟨rfl, by (apply blk_to; (focus (repeat (first | (with_reducible assumption) | (with_reducible apply blk_drew) | (with_reducible apply blk_set) | ((with_reducible apply blk_other'); (first | (focus (dsimp only; assumption)) | (focus (simp; done)) | (focus (dsimp only; omega)))) | ((with_reducible apply blk_alloc_new); (first | (with_reducible rfl) | (focus (simp; done)) | (focus (simp; omega)))) | (with_reducible apply blk_alloc) | ((with_reducible apply blk_below); (with_reducible assumption))))); rfl), ?_⟩
  (repeat (first | (with_reducible assumption) | (with_reducible exact Touch.refl _ _) | (with_reducible refine Touch.drew ?_) | (with_reducible refine Touch.set ?_) | ((with_reducible refine Touch.setNew' ?_ hlt ?_); (focus (first | exact Nat.le_refl _ | exact Nat.le_succ _ | omega))) | (with_reducible refine Touch.alloc ?_ hlt)))
set_option maxRecDepth 100000 in
set_option maxHeartbeats 3200000 in
theorem refFields_part (b : Nat) (s : ByteArray) (k pr : Nat) (hs0 : 0 < s.size) (hs : s.size ≤ maxLen) (hk : (s[0].toNat : Int) - 176 = (k : Int)) (hk6 : k ≤ 6) (hk3 : k ≠ 3) (hfu : k < 4) (hpr : (k : Int).tmod 4 = (pr : Int)) (X : Fl) (hX : fieldsJ s.data.toList false ⟨1, 0, 0⟩ = X) (w : World) (hb : blk w b = some (rdC s 0 0 0)) :
    Calls Tryd.prog 44 #[.pointer (some ⟨b, 0, none⟩)] w fun q w' => q = .returned (.tuple #[buv X.no X.sq X.of X.de pr X.bo X.li X.to ⟨#[]⟩, .bool false]) ∧ blk w' b = some (rdC s X.r.pos X.r.err X.r.fat) ∧ Touch b w w' := by
  have hl : s.data.toList.length = s.size := by simp
  have hss : (s.size : Int) ≤ 9223372036854775807 := by unfold maxLen at hs; omega
  unfold fieldsJ at hX
  simp only [Bool.false_eq_true, if_false, if_true] at hX
  have u1 := rdJ_range s.data.toList 16 ⟨1, 0, 0⟩ (by omega) (by simp only; omega) (by simp only; omega)
  have c1 := fun w h => number_any b s 1 0 0 16 hs (by omega) (by omega) (by omega) w h
  obtain ⟨⟨n1, ⟨p1, e1, f1⟩⟩, h1⟩ : ∃ x, rdJ s.data.toList 16 ⟨1, 0, 0⟩ = x := ⟨_, rfl⟩
  simp only [h1] at u1 c1 hX
  obtain ⟨u1a, u1b, u1c, u1d⟩ := u1
  rw [hl] at u1d
  replace c1 := Lib.hid c1; clear h1
  have u2 := rdJ_range s.data.toList 1099511627776 ⟨p1, e1, f1⟩ (by omega) (by simp only; omega) (by simp only; omega)
  have c2 := fun w h => number_any b s p1 e1 f1 1099511627776 hs (by omega) (by omega) (by omega) w h
  obtain ⟨⟨n2, ⟨p2, e2, f2⟩⟩, h2⟩ : ∃ x, rdJ s.data.toList 1099511627776 ⟨p1, e1, f1⟩ = x := ⟨_, rfl⟩
  simp only [h2] at u2 c2 hX
  obtain ⟨u2a, u2b, u2c, u2d⟩ := u2
  rw [hl] at u2d
  replace c2 := Lib.hid c2; clear h2
  have u3 := rdJ_range s.data.toList 16 ⟨p2, e2, f2⟩ (by omega) (by simp only; omega) (by simp only; omega)
  have c3 := fun w h => number_any b s p2 e2 f2 16 hs (by omega) (by omega) (by omega) w h
  obtain ⟨⟨n3, ⟨p3, e3, f3⟩⟩, h3⟩ : ∃ x, rdJ s.data.toList 16 ⟨p2, e2, f2⟩ = x := ⟨_, rfl⟩
  simp only [h3] at u3 c3 hX
  obtain ⟨u3a, u3b, u3c, u3d⟩ := u3
  rw [hl] at u3d
  replace c3 := Lib.hid c3; clear h3
  have u4 := rdJ_range s.data.toList 1099511627776 ⟨p3, e3, f3⟩ (by omega) (by simp only; omega) (by simp only; omega)
  have c4 := fun w h => number_any b s p3 e3 f3 1099511627776 hs (by omega) (by omega) (by omega) w h
  obtain ⟨⟨n4, ⟨p4, e4, f4⟩⟩, h4⟩ : ∃ x, rdJ s.data.toList 1099511627776 ⟨p3, e3, f3⟩ = x := ⟨_, rfl⟩
  simp only [h4] at u4 c4 hX
  obtain ⟨u4a, u4b, u4c, u4d⟩ := u4
  rw [hl] at u4d
  replace c4 := Lib.hid c4; clear h4
  have u5 := rdJ_range s.data.toList 1048576 ⟨p4, e4, f4⟩ (by omega) (by simp only; omega) (by simp only; omega)
  have c5 := fun w h => number_any b s p4 e4 f4 1048576 hs (by omega) (by omega) (by omega) w h
  obtain ⟨⟨n5, ⟨p5, e5, f5⟩⟩, h5⟩ : ∃ x, rdJ s.data.toList 1048576 ⟨p4, e4, f4⟩ = x := ⟨_, rfl⟩
  simp only [h5] at u5 c5 hX
  obtain ⟨u5a, u5b, u5c, u5d⟩ := u5
  rw [hl] at u5d
  replace c5 := Lib.hid c5; clear h5
  have u6 := rdJ_range s.data.toList 20000 ⟨p5, e5, f5⟩ (by omega) (by simp only; omega) (by simp only; omega)
  have c6 := fun w h => number_any b s p5 e5 f5 20000 hs (by omega) (by omega) (by omega) w h
  obtain ⟨⟨n6, ⟨p6, e6, f6⟩⟩, h6⟩ : ∃ x, rdJ s.data.toList 20000 ⟨p5, e5, f5⟩ = x := ⟨_, rfl⟩
  simp only [h6] at u6 c6 hX
  obtain ⟨u6a, u6b, u6c, u6d⟩ := u6
  rw [hl] at u6d
  replace c6 := Lib.hid c6; clear h6
  have u7 := rdJ_range s.data.toList 20000 ⟨p6, e6, f6⟩ (by omega) (by simp only; omega) (by simp only; omega)
  have c7 := fun w h => number_any b s p6 e6 f6 20000 hs (by omega) (by omega) (by omega) w h
  obtain ⟨⟨n7, ⟨p7, e7, f7⟩⟩, h7⟩ : ∃ x, rdJ s.data.toList 20000 ⟨p6, e6, f6⟩ = x := ⟨_, rfl⟩
  simp only [h7] at u7 c7 hX
  obtain ⟨u7a, u7b, u7c, u7d⟩ := u7
  rw [hl] at u7d
  replace c7 := Lib.hid c7; clear h7
  subst hX
  simp only
  have q2 : IntKind.u64.wrap n2 = n2 := IntWalk.u64_in _ (by omega)
  have knb := kn hb
  have hlt := blk_lt hb
  have z1 : s.toList.isEmpty = false := by
    have h1 : s.data.toList ≠ [] := by rw [← List.length_pos_iff]; simpa using hs0
    rw [ByteArray.toList_eq]; simpa using h1
  have k3 : ((k : Int) == 3) = false := by simp; omega
  have tm : (k : Int) % 4 = (pr : Int) := by rw [← hpr, Int.tmod_eq_emod_of_nonneg (by omega)]
  have ab : b ≠ w.heap.size := by omega
  have hkk : (k : Int) ≤ 6 := by omega
  have hfi : (k : Int) < 4 := by omega
  clear hfu hk3 hpr
  go_enter Tryd.func44, Tryd.ntmps44
  go_wp2_with fail
  (with_reducible refine (c1.out _ ?_).mono ?_)
  · (apply blk_to; (focus (repeat (first | (with_reducible assumption) | (with_reducible apply blk_drew) | (with_reducible apply blk_set) | ((with_reducible apply blk_other'); (first | (focus (dsimp only; assumption)) | (focus (simp; done)) | (focus (dsimp only; omega)))) | ((with_reducible apply blk_alloc_new); (first | (with_reducible rfl) | (focus (simp; done)) | (focus (simp; omega)))) | (with_reducible apply blk_alloc) | ((with_reducible apply blk_below); (with_reducible assumption))))); rfl)
  rintro q w1 ⟨rfl, k1, T1⟩
  have r1 : blk w1 w.heap.size = some (#[.int .i64 0, .int .u64 0, .int .i64 0, .int .i64 0, .int .i64 0, .int .i64 0, .int .i64 0, .int .i64 0, .string ⟨#[]⟩]) := T1.2.1 _ _ (by omega) (by (apply blk_to; (focus (repeat (first | (with_reducible assumption) | (with_reducible apply blk_drew) | (with_reducible apply blk_set) | ((with_reducible apply blk_other'); (first | (focus (dsimp only; assumption)) | (focus (simp; done)) | (focus (dsimp only; omega)))) | ((with_reducible apply blk_alloc_new); (first | (with_reducible rfl) | (focus (simp; done)) | (focus (simp; omega)))) | (with_reducible apply blk_alloc) | ((with_reducible apply blk_below); (with_reducible assumption))))); rfl))
  have y1 : blk w1 (w.heap.size + 1) = some (#[.int .i64 0, .int .u64 0, .int .i64 0, .int .i64 0, .int .i64 (pr : Int), .int .i64 0, .int .i64 0, .int .i64 0, .string ⟨#[]⟩]) := T1.2.1 _ _ (by omega) (by (apply blk_to; (focus (repeat (first | (with_reducible assumption) | (with_reducible apply blk_drew) | (with_reducible apply blk_set) | ((with_reducible apply blk_other'); (first | (focus (dsimp only; assumption)) | (focus (simp; done)) | (focus (dsimp only; omega)))) | ((with_reducible apply blk_alloc_new); (first | (with_reducible rfl) | (focus (simp; done)) | (focus (simp; omega)))) | (with_reducible apply blk_alloc) | ((with_reducible apply blk_below); (with_reducible assumption))))); rfl))
  have t1 : Touch b w w1 := by
    refine Touch.trans ?_ T1
    (repeat (first | (with_reducible assumption) | (with_reducible exact Touch.refl _ _) | (with_reducible refine Touch.drew ?_) | (with_reducible refine Touch.set ?_) | ((with_reducible refine Touch.setNew' ?_ hlt ?_); (focus (first | exact Nat.le_refl _ | exact Nat.le_succ _ | omega))) | (with_reducible refine Touch.alloc ?_ hlt)))
  clear T1
  have kn1 := kn k1; have kr1 := kn r1; have ky1 := kn y1
  clear knb
  go_wp2_with fail
  (with_reducible refine (c2.out _ ?_).mono ?_)
  · exact blk_other k1 (by simp; omega)
  rintro q w2 ⟨rfl, k2, T2⟩
  have r2 : blk w2 w.heap.size = some (#[.int .i64 0, .int .u64 0, .int .i64 0, .int .i64 0, .int .i64 0, .int .i64 0, .int .i64 0, .int .i64 0, .string ⟨#[]⟩]) := T2.2.1 _ _ (by omega) (blk_other r1 (by simp))
  have y2 : blk w2 (w.heap.size + 1) = some (#[.int .i64 n1, .int .u64 0, .int .i64 0, .int .i64 0, .int .i64 (pr : Int), .int .i64 0, .int .i64 0, .int .i64 0, .string ⟨#[]⟩]) := T2.2.1 _ _ (by omega) (blk_to (blk_set y1) rfl)
  have t2 : Touch b w w2 := (t1.setNew (by omega) hlt).trans T2
  clear k1 r1 y1 t1 kn1 kr1 ky1
  clear T2
  have kn2 := kn k2; have kr2 := kn r2; have ky2 := kn y2
  go_wp2_with fail
  (with_reducible refine (c3.out _ ?_).mono ?_)
  · exact blk_other k2 (by simp; omega)
  rintro q w3 ⟨rfl, k3, T3⟩
  have r3 : blk w3 w.heap.size = some (#[.int .i64 0, .int .u64 0, .int .i64 0, .int .i64 0, .int .i64 0, .int .i64 0, .int .i64 0, .int .i64 0, .string ⟨#[]⟩]) := T3.2.1 _ _ (by omega) (blk_other r2 (by simp))
  have y3 : blk w3 (w.heap.size + 1) = some (#[.int .i64 n1, .int .u64 n2, .int .i64 0, .int .i64 0, .int .i64 (pr : Int), .int .i64 0, .int .i64 0, .int .i64 0, .string ⟨#[]⟩]) := T3.2.1 _ _ (by omega) (blk_to (blk_set y2) rfl)
  have t3 : Touch b w w3 := (t2.setNew (by omega) hlt).trans T3
  clear k2 r2 y2 t2 kn2 kr2 ky2
  clear T3
  have kn3 := kn k3; have kr3 := kn r3; have ky3 := kn y3
  go_wp2_with fail
  (with_reducible refine (c4.out _ ?_).mono ?_)
  · exact blk_other k3 (by simp; omega)
  rintro q w4 ⟨rfl, k4, T4⟩
  have r4 : blk w4 w.heap.size = some (#[.int .i64 0, .int .u64 0, .int .i64 0, .int .i64 0, .int .i64 0, .int .i64 0, .int .i64 0, .int .i64 0, .string ⟨#[]⟩]) := T4.2.1 _ _ (by omega) (blk_other r3 (by simp))
  have y4 : blk w4 (w.heap.size + 1) = some (#[.int .i64 n1, .int .u64 n2, .int .i64 0, .int .i64 n3, .int .i64 (pr : Int), .int .i64 0, .int .i64 0, .int .i64 0, .string ⟨#[]⟩]) := T4.2.1 _ _ (by omega) (blk_to (blk_set y3) rfl)
  have t4 : Touch b w w4 := (t3.setNew (by omega) hlt).trans T4
  clear k3 r3 y3 t3 kn3 kr3 ky3
  clear T4
  have kn4 := kn k4; have kr4 := kn r4; have ky4 := kn y4
  go_wp2_with fail
  (with_reducible refine (c5.out _ ?_).mono ?_)
  · exact blk_other k4 (by simp; omega)
  rintro q w5 ⟨rfl, k5, T5⟩
  have r5 : blk w5 w.heap.size = some (#[.int .i64 0, .int .u64 0, .int .i64 0, .int .i64 0, .int .i64 0, .int .i64 0, .int .i64 0, .int .i64 0, .string ⟨#[]⟩]) := T5.2.1 _ _ (by omega) (blk_other r4 (by simp))
  have y5 : blk w5 (w.heap.size + 1) = some (#[.int .i64 n1, .int .u64 n2, .int .i64 0, .int .i64 n3, .int .i64 (pr : Int), .int .i64 n4, .int .i64 0, .int .i64 0, .string ⟨#[]⟩]) := T5.2.1 _ _ (by omega) (blk_to (blk_set y4) rfl)
  have t5 : Touch b w w5 := (t4.setNew (by omega) hlt).trans T5
  clear k4 r4 y4 t4 kn4 kr4 ky4
  clear T5
  have kn5 := kn k5; have kr5 := kn r5; have ky5 := kn y5
  go_wp2_with fail
  (with_reducible refine (c6.out _ ?_).mono ?_)
  · exact blk_other k5 (by simp; omega)
  rintro q w6 ⟨rfl, k6, T6⟩
  have r6 : blk w6 w.heap.size = some (#[.int .i64 0, .int .u64 0, .int .i64 0, .int .i64 0, .int .i64 0, .int .i64 0, .int .i64 0, .int .i64 0, .string ⟨#[]⟩]) := T6.2.1 _ _ (by omega) (blk_other r5 (by simp))
  have y6 : blk w6 (w.heap.size + 1) = some (#[.int .i64 n1, .int .u64 n2, .int .i64 0, .int .i64 n3, .int .i64 (pr : Int), .int .i64 n4, .int .i64 n5, .int .i64 0, .string ⟨#[]⟩]) := T6.2.1 _ _ (by omega) (blk_to (blk_set y5) rfl)
  have t6 : Touch b w w6 := (t5.setNew (by omega) hlt).trans T6
  clear k5 r5 y5 t5 kn5 kr5 ky5
  clear T6
  have kn6 := kn k6; have kr6 := kn r6; have ky6 := kn y6
  go_wp2_with fail
  (with_reducible refine (c7.out _ ?_).mono ?_)
  · exact blk_other k6 (by simp; omega)
  rintro q w7 ⟨rfl, k7, T7⟩
  have r7 : blk w7 w.heap.size = some (#[.int .i64 0, .int .u64 0, .int .i64 0, .int .i64 0, .int .i64 0, .int .i64 0, .int .i64 0, .int .i64 0, .string ⟨#[]⟩]) := T7.2.1 _ _ (by omega) (blk_other r6 (by simp))
  have y7 : blk w7 (w.heap.size + 1) = some (#[.int .i64 n1, .int .u64 n2, .int .i64 n6, .int .i64 n3, .int .i64 (pr : Int), .int .i64 n4, .int .i64 n5, .int .i64 0, .string ⟨#[]⟩]) := T7.2.1 _ _ (by omega) (blk_to (blk_set y6) rfl)
  have t7 : Touch b w w7 := (t6.setNew (by omega) hlt).trans T7
  clear k6 r6 y6 t6 kn6 kr6 ky6
  clear T7
  have kn7 := kn k7; have kr7 := kn r7; have ky7 := kn y7
  go_wp2
  refine ret_blk1 (b := w.heap.size) (c := #[.int .i64 n1, .int .u64 n2, .int .i64 n6, .int .i64 n3, .int .i64 (pr : Int), .int .i64 n4, .int .i64 n5, .int .i64 n7, .string ⟨#[]⟩]) (v := .tuple #[.agg #[.int .i64 n1, .int .u64 n2, .int .i64 n6, .int .i64 n3, .int .i64 (pr : Int), .int .i64 n4, .int .i64 n5, .int .i64 n7, .string ⟨#[]⟩], .bool false]) (by (apply blk_to; (focus (repeat (first | (with_reducible assumption) | (with_reducible apply blk_drew) | (with_reducible apply blk_set) | ((with_reducible apply blk_other'); (first | (focus (dsimp only; assumption)) | (focus (simp; done)) | (focus (dsimp only; omega)))) | ((with_reducible apply blk_alloc_new); (first | (with_reducible rfl) | (focus (simp; done)) | (focus (simp; omega)))) | (with_reducible apply blk_alloc) | ((with_reducible apply blk_below); (with_reducible assumption))))); rfl)) (fun W' e1 => by simp [results, Tryd.results44, go_sem, e1, hfi]) rfl ⟨rfl, by (apply blk_to; (focus (repeat (first | (with_reducible assumption) | (with_reducible apply blk_drew) | (with_reducible apply blk_set) | ((with_reducible apply blk_other'); (first | (focus (dsimp only; assumption)) | (focus (simp; done)) | (focus (dsimp only; omega)))) | ((with_reducible apply blk_alloc_new); (first | (with_reducible rfl) | (focus (simp; done)) | (focus (simp; omega)))) | (with_reducible apply blk_alloc) | ((with_reducible apply blk_below); (with_reducible assumption))))); rfl), ?_⟩
  (repeat (first | (with_reducible assumption) | (with_reducible exact Touch.refl _ _) | (with_reducible refine Touch.drew ?_) | (with_reducible refine Touch.set ?_) | ((with_reducible refine Touch.setNew' ?_ hlt ?_); (focus (first | exact Nat.le_refl _ | exact Nat.le_succ _ | omega))) | (with_reducible refine Touch.alloc ?_ hlt)))
end Go.Proofs.YtiphddlakbbfiaaDoor
