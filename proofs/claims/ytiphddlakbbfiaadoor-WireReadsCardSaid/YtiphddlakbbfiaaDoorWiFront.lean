/- The first pieces of a bundle's form: whole and front, both sides. -/
import Derived.Test.YtiphddlakbbfiaaDoorWiMath
import Derived.Test.YtiphddlakbbfiaaDoorWiNums
import Derived.Test.YtiphddlakbbfiaaDoorBuCheck3
import Derived.Test.YtiphddlakbbfiaaDoorReg
namespace Go.Proofs.YtiphddlakbbfiaaDoor
set_option linter.unusedVariables false
open Go.RowKit

set_option maxRecDepth 100000 in
set_option maxHeartbeats 800000 in
theorem whole_any (no sq of de pr bo li to : Int) (da : ByteArray) (hda : da.size ≤ maxLen) (w : World) :
    Calls Tryd.prog 43 #[buv no sq of de pr bo li to da] w fun e w' => e = .returned (.bool (wholeB of to da.size)) ∧ Below w.heap.size w w' := by
  unfold maxLen at hda
  unfold wholeB
  by_cases h1 : of = 0
  · subst h1
    by_cases h2 : to = (da.size : Int)
    · rw [show decide ((0 : Int) = 0 ∧ to = (da.size : Int)) = true by simp [h2]]
      subst h2
      go_enter Tryd.func43, Tryd.ntmps43
      go_wp2
      go_ret
      exact ⟨rfl, by (repeat (first | (with_reducible assumption) | (with_reducible exact Below.refl _ _) | (with_reducible refine beld_drew ?_) | ((with_reducible refine bset' ?_ ?_); (first | (focus (dsimp only; assumption)) | (focus (simp; done)) | (focus (dsimp only; omega)))) | (with_reducible refine belt_alloc ?_) | ((with_reducible refine zeroed_below' ?_ ?_); (first | (focus (simp; done)) | (focus (dsimp only; omega)))) | (with_reducible refine bt ?_ (by assumption))))⟩
    · rw [show decide ((0 : Int) = 0 ∧ to = (da.size : Int)) = false by simp [h2]]
      have e2 : (to == (da.size : Int)) = false := by simp [h2]
      go_enter Tryd.func43, Tryd.ntmps43
      go_wp2
      go_ret
      exact ⟨rfl, by (repeat (first | (with_reducible assumption) | (with_reducible exact Below.refl _ _) | (with_reducible refine beld_drew ?_) | ((with_reducible refine bset' ?_ ?_); (first | (focus (dsimp only; assumption)) | (focus (simp; done)) | (focus (dsimp only; omega)))) | (with_reducible refine belt_alloc ?_) | ((with_reducible refine zeroed_below' ?_ ?_); (first | (focus (simp; done)) | (focus (dsimp only; omega)))) | (with_reducible refine bt ?_ (by assumption))))⟩
  · rw [show decide (of = 0 ∧ to = (da.size : Int)) = false by simp [h1]]
    have e1 : (of == 0) = false := by simp [h1]
    go_enter Tryd.func43, Tryd.ntmps43
    go_wp2
    go_ret
    exact ⟨rfl, by (repeat (first | (with_reducible assumption) | (with_reducible exact Below.refl _ _) | (with_reducible refine beld_drew ?_) | ((with_reducible refine bset' ?_ ?_); (first | (focus (dsimp only; assumption)) | (focus (simp; done)) | (focus (dsimp only; omega)))) | (with_reducible refine belt_alloc ?_) | ((with_reducible refine zeroed_below' ?_ ?_); (first | (focus (simp; done)) | (focus (dsimp only; omega)))) | (with_reducible refine bt ?_ (by assumption))))⟩
set_option maxRecDepth 100000 in
set_option maxHeartbeats 800000 in
theorem refWhole_any (no sq of de pr bo li to : Int) (da : ByteArray) (hda : da.size ≤ maxLen) (w : World) :
    Calls Tryd.prog 46 #[buv no sq of de pr bo li to da] w fun e w' => e = .returned (.bool (wholeB of to da.size)) ∧ Below w.heap.size w w' := by
  unfold maxLen at hda
  unfold wholeB
  by_cases h1 : of = 0
  · subst h1
    by_cases h2 : to = (da.size : Int)
    · rw [show decide ((0 : Int) = 0 ∧ to = (da.size : Int)) = true by simp [h2]]
      subst h2
      go_enter Tryd.func46, Tryd.ntmps46
      go_wp2
      go_ret
      exact ⟨rfl, by (repeat (first | (with_reducible assumption) | (with_reducible exact Below.refl _ _) | (with_reducible refine beld_drew ?_) | ((with_reducible refine bset' ?_ ?_); (first | (focus (dsimp only; assumption)) | (focus (simp; done)) | (focus (dsimp only; omega)))) | (with_reducible refine belt_alloc ?_) | ((with_reducible refine zeroed_below' ?_ ?_); (first | (focus (simp; done)) | (focus (dsimp only; omega)))) | (with_reducible refine bt ?_ (by assumption))))⟩
    · rw [show decide ((0 : Int) = 0 ∧ to = (da.size : Int)) = false by simp [h2]]
      have e2 : (to == (da.size : Int)) = false := by simp [h2]
      go_enter Tryd.func46, Tryd.ntmps46
      go_wp2
      go_ret
      exact ⟨rfl, by (repeat (first | (with_reducible assumption) | (with_reducible exact Below.refl _ _) | (with_reducible refine beld_drew ?_) | ((with_reducible refine bset' ?_ ?_); (first | (focus (dsimp only; assumption)) | (focus (simp; done)) | (focus (dsimp only; omega)))) | (with_reducible refine belt_alloc ?_) | ((with_reducible refine zeroed_below' ?_ ?_); (first | (focus (simp; done)) | (focus (dsimp only; omega)))) | (with_reducible refine bt ?_ (by assumption))))⟩
  · rw [show decide (of = 0 ∧ to = (da.size : Int)) = false by simp [h1]]
    have e1 : (of == 0) = false := by simp [h1]
    go_enter Tryd.func46, Tryd.ntmps46
    go_wp2
    go_ret
    exact ⟨rfl, by (repeat (first | (with_reducible assumption) | (with_reducible exact Below.refl _ _) | (with_reducible refine beld_drew ?_) | ((with_reducible refine bset' ?_ ?_); (first | (focus (dsimp only; assumption)) | (focus (simp; done)) | (focus (dsimp only; omega)))) | (with_reducible refine belt_alloc ?_) | ((with_reducible refine zeroed_below' ?_ ?_); (first | (focus (simp; done)) | (focus (dsimp only; omega)))) | (with_reducible refine bt ?_ (by assumption))))⟩
theorem refPut_str (n : Nat) (hn : n < 9223372036854775808) : ∃ p : ByteArray, p.data.toList = putN n ∧ p.size ≤ 11 ∧ ∀ w, Calls Tryd.prog 57 #[.int .u64 (n : Int)] w fun e w' => e = .returned (.string p) ∧ Below w.heap.size w w' :=
  ⟨⟨(putN n).toArray⟩, rfl, by rw [bsize]; exact (putN_length n).2, fun w => refPut_any n w (by omega)⟩
theorem numPut_str (n : Nat) (hn : n < 9223372036854775808) : ∃ p : ByteArray, p.data.toList = putN n ∧ p.size ≤ 11 ∧ ∀ w, Calls Tryd.prog 54 #[.int .u64 (n : Int)] w fun e w' => e = .returned (.string p) ∧ Below w.heap.size w w' :=
  ⟨⟨(putN n).toArray⟩, rfl, by rw [bsize]; exact (putN_length n).2, fun w => numPut_any n (by omega) w⟩
set_option maxRecDepth 100000 in
set_option maxHeartbeats 3200000 in
theorem refFront_whole (no sq of de pr bo li to : Nat) (da : ByteArray) (hda : da.size ≤ maxLen) (h1 : no < 9223372036854775808) (h2 : sq < 9223372036854775808) (h3 : of < 9223372036854775808) (h4 : de < 9223372036854775808) (h5 : pr ≤ 2) (h6 : bo < 9223372036854775808) (h7 : li < 9223372036854775808) (h8 : to < 9223372036854775808)
    (hw : wholeB of to da.size = true) (w : World) :
    Calls Tryd.prog 32 #[buv no sq of de pr bo li to da] w fun e w' => e = .returned (bstr (frontL no sq of de pr bo li to true)) ∧ Below w.heap.size w w' := by
  have g1 := fun w => refWhole_any no sq of de pr bo li to da hda w
  rw [hw] at g1
  replace g1 := Lib.hid g1
  obtain ⟨p1, y1, z1, c1⟩ := refPut_str no h1
  obtain ⟨p2, y2, z2, c2⟩ := refPut_str sq h2
  obtain ⟨p3, y3, z3, c3⟩ := refPut_str de h4
  obtain ⟨p4, y4, z4, c4⟩ := refPut_str bo h6
  obtain ⟨p5, y5, z5, c5⟩ := refPut_str li h7
  replace c1 := Lib.hid c1; replace c2 := Lib.hid c2; replace c3 := Lib.hid c3; replace c4 := Lib.hid c4; replace c5 := Lib.hid c5
  have q1 : IntKind.u64.wrap (no : Int) = (no : Int) := IntWalk.u64_in _ (by omega)
  have q3 : IntKind.u64.wrap (de : Int) = (de : Int) := IntWalk.u64_in _ (by omega)
  have q4 : IntKind.u64.wrap (bo : Int) = (bo : Int) := IntWalk.u64_in _ (by omega)
  have q5 : IntKind.u64.wrap (li : Int) = (li : Int) := IntWalk.u64_in _ (by omega)
  have q0 : IntKind.u8.wrap (176 + (pr : Int) + 4) = ((180 + pr : Nat) : Int) := by rw [IntKind.wrap_u8']; omega
  have hob := fun x w => one_byte (P := Tryd.prog) Tryd.underlying43 Tryd.underlying5 Tryd.underlying9 x w
  obtain ⟨R, hR⟩ : ∃ R, frontL no sq of de pr bo li to true = R := ⟨_, rfl⟩
  rw [hR]
  have fin : ∀ b : UInt8, b = UInt8.ofNat (180 + pr) → bstr R = .string (((((⟨#[b]⟩ ++ p1) ++ p2) ++ p3) ++ p4) ++ p5) := fun b hb => by
    rw [← hR, hb]
    refine (vstr ?_).symm
    simp [frontL, y1, y2, y3, y4, y5, show 176 + pr + 4 = 180 + pr by omega]
  have u8p : 180 + UInt8.ofNat pr = UInt8.ofNat (180 + pr) := by rw [UInt8.ofNat_add]; rfl
  have Fin := Lib.hid fin
  replace u8p := Lib.hid u8p
  clear fin hR y1 y2 y3 y4 y5 hw
  go_enter Tryd.func32, Tryd.ntmps32
  go_wp2_with fail
  (with_reducible refine (g1.out _).mono ?_)
  rintro e w1 ⟨rfl, hw1⟩
  have kk1 : blk w1 (w.heap.size) = some #[.int .i64 (no : Int), .int .u64 (sq : Int), .int .i64 (of : Int), .int .i64 (de : Int), .int .i64 (pr : Int), .int .i64 (bo : Int), .int .i64 (li : Int), .int .i64 (to : Int), .string da] := (by (apply blk_to; (focus (repeat (first | (with_reducible assumption) | (with_reducible apply blk_drew) | (with_reducible apply blk_set) | ((with_reducible apply blk_other'); (first | (focus (dsimp only; assumption)) | (focus (simp; done)) | (focus (dsimp only; omega)))) | ((with_reducible apply blk_alloc_new); (first | (with_reducible rfl) | (focus (simp; done)) | (focus (simp; omega)))) | (with_reducible apply blk_alloc) | ((with_reducible apply blk_below); (with_reducible assumption))))); rfl))
  have kn1 := kn kk1
  have bw1 : Below w.heap.size w w1 := (by (repeat (first | (with_reducible assumption) | (with_reducible exact Below.refl _ _) | (with_reducible refine beld_drew ?_) | ((with_reducible refine bset' ?_ ?_); (first | (focus (dsimp only; assumption)) | (focus (simp; done)) | (focus (dsimp only; omega)))) | (with_reducible refine belt_alloc ?_) | ((with_reducible refine zeroed_below' ?_ ?_); (first | (focus (simp; done)) | (focus (dsimp only; omega)))) | (with_reducible refine bt ?_ (by assumption)))))
  have sw1 := bw1.size
  clear hw1
  go_wp2_with fail
  refine wp_region_in (by kernel_rfl) (by kernel_rfl) ?_
  intro W0_2 hE_2 hN_2
  have bW0_2 : Below w.heap.size w W0_2 := (by rw [hE_2.out]; (repeat (first | (with_reducible assumption) | (with_reducible exact Below.refl _ _) | (with_reducible refine beld_drew ?_) | ((with_reducible refine bset' ?_ ?_); (first | (focus (dsimp only; assumption)) | (focus (simp; done)) | (focus (dsimp only; omega)))) | (with_reducible refine belt_alloc ?_) | ((with_reducible refine zeroed_below' ?_ ?_); (first | (focus (simp; done)) | (focus (dsimp only; omega)))) | (with_reducible refine bt ?_ (by assumption)))))
  have kk3 : blk W0_2 (w.heap.size) = some #[.int .i64 (no : Int), .int .u64 (sq : Int), .int .i64 (of : Int), .int .i64 (de : Int), .int .i64 (pr : Int), .int .i64 (bo : Int), .int .i64 (li : Int), .int .i64 (to : Int), .string da] := (by rw [hE_2.out]; (apply blk_to; (focus (repeat (first | (with_reducible assumption) | (with_reducible apply blk_drew) | (with_reducible apply blk_set) | ((with_reducible apply blk_other'); (first | (focus (dsimp only; assumption)) | (focus (simp; done)) | (focus (dsimp only; omega)))) | ((with_reducible apply blk_alloc_new); (first | (with_reducible rfl) | (focus (simp; done)) | (focus (simp; omega)))) | (with_reducible apply blk_alloc) | ((with_reducible apply blk_below); (with_reducible assumption))))); rfl))
  clear kk1 kn1
  have kn3 := calm_kn kk3
  clear hE_2
  repeat (go_big_quiet_step ((first | (go_at_call 57; (with_reducible refine Class.go _ (c1.out _))) | (go_at_call 57; (with_reducible refine Class.go _ (c2.out _))) | (go_at_call 57; (with_reducible refine Class.go _ (c3.out _))) | (go_at_call 57; (with_reducible refine Class.go _ (c4.out _))) | (go_at_call 57; (with_reducible refine Class.go _ (c5.out _))))))
  refine wpQuiet_nil ?_
  rintro _ ⟨x_2, rfl⟩
  have hx_2 : Calm W0_2 x_2.wd := x_2.ok
  have bw2 : Below w.heap.size w x_2.wd := bt bW0_2 hx_2
  clear kn3; replace kk3 := blk_below hx_2 kk3; have kn3 := kn kk3
  clear hx_2 bW0_2 hN_2 bw1
  generalize x_2.wd = w2 at *
  have sw2 := bw2.size
  go_wp2_with fail
  (with_reducible refine (g1.out _).mono ?_)
  rintro e w3 ⟨rfl, hw3⟩
  have kk4 : blk w3 (w.heap.size) = some #[.int .i64 (no : Int), .int .u64 (sq : Int), .int .i64 (of : Int), .int .i64 (de : Int), .int .i64 (pr : Int), .int .i64 (bo : Int), .int .i64 (li : Int), .int .i64 (to : Int), .string da] := (by (apply blk_to; (focus (repeat (first | (with_reducible assumption) | (with_reducible apply blk_drew) | (with_reducible apply blk_set) | ((with_reducible apply blk_other'); (first | (focus (dsimp only; assumption)) | (focus (simp; done)) | (focus (dsimp only; omega)))) | ((with_reducible apply blk_alloc_new); (first | (with_reducible rfl) | (focus (simp; done)) | (focus (simp; omega)))) | (with_reducible apply blk_alloc) | ((with_reducible apply blk_below); (with_reducible assumption))))); rfl))
  clear kk3 kn3
  have kn4 := kn kk4
  have bw3 : Below w.heap.size w w3 := (by (repeat (first | (with_reducible assumption) | (with_reducible exact Below.refl _ _) | (with_reducible refine beld_drew ?_) | ((with_reducible refine bset' ?_ ?_); (first | (focus (dsimp only; assumption)) | (focus (simp; done)) | (focus (dsimp only; omega)))) | (with_reducible refine belt_alloc ?_) | ((with_reducible refine zeroed_below' ?_ ?_); (first | (focus (simp; done)) | (focus (dsimp only; omega)))) | (with_reducible refine bt ?_ (by assumption)))))
  have sw3 := bw3.size
  clear hw3 bw2
  go_wp2
  go_ret
  exact ⟨(congrArg Ending.returned (Fin.out _ u8p.out)).symm, by (repeat (first | (with_reducible assumption) | (with_reducible exact Below.refl _ _) | (with_reducible refine beld_drew ?_) | ((with_reducible refine bset' ?_ ?_); (first | (focus (dsimp only; assumption)) | (focus (simp; done)) | (focus (dsimp only; omega)))) | (with_reducible refine belt_alloc ?_) | ((with_reducible refine zeroed_below' ?_ ?_); (first | (focus (simp; done)) | (focus (dsimp only; omega)))) | (with_reducible refine bt ?_ (by assumption))))⟩
set_option maxRecDepth 100000 in
set_option maxHeartbeats 3200000 in
theorem refFront_part (no sq of de pr bo li to : Nat) (da : ByteArray) (hda : da.size ≤ maxLen) (h1 : no < 9223372036854775808) (h2 : sq < 9223372036854775808) (h3 : of < 9223372036854775808) (h4 : de < 9223372036854775808) (h5 : pr ≤ 2) (h6 : bo < 9223372036854775808) (h7 : li < 9223372036854775808) (h8 : to < 9223372036854775808)
    (hw : wholeB of to da.size = false) (w : World) :
    Calls Tryd.prog 32 #[buv no sq of de pr bo li to da] w fun e w' => e = .returned (bstr (frontL no sq of de pr bo li to false)) ∧ Below w.heap.size w w' := by
  have g1 := fun w => refWhole_any no sq of de pr bo li to da hda w
  rw [hw] at g1
  replace g1 := Lib.hid g1
  obtain ⟨p1, y1, z1, c1⟩ := refPut_str no h1
  obtain ⟨p2, y2, z2, c2⟩ := refPut_str sq h2
  obtain ⟨p3, y3, z3, c3⟩ := refPut_str de h4
  obtain ⟨p4, y4, z4, c4⟩ := refPut_str bo h6
  obtain ⟨p5, y5, z5, c5⟩ := refPut_str li h7
  obtain ⟨p6, y6, z6, c6⟩ := refPut_str of h3
  obtain ⟨p7, y7, z7, c7⟩ := refPut_str to h8
  replace c1 := Lib.hid c1; replace c2 := Lib.hid c2; replace c3 := Lib.hid c3; replace c4 := Lib.hid c4; replace c5 := Lib.hid c5; replace c6 := Lib.hid c6; replace c7 := Lib.hid c7
  have q1 : IntKind.u64.wrap (no : Int) = (no : Int) := IntWalk.u64_in _ (by omega)
  have q3 : IntKind.u64.wrap (de : Int) = (de : Int) := IntWalk.u64_in _ (by omega)
  have q4 : IntKind.u64.wrap (bo : Int) = (bo : Int) := IntWalk.u64_in _ (by omega)
  have q5 : IntKind.u64.wrap (li : Int) = (li : Int) := IntWalk.u64_in _ (by omega)
  have q6 : IntKind.u64.wrap (of : Int) = (of : Int) := IntWalk.u64_in _ (by omega)
  have q7 : IntKind.u64.wrap (to : Int) = (to : Int) := IntWalk.u64_in _ (by omega)
  have q0 : IntKind.u8.wrap (176 + (pr : Int)) = ((176 + pr : Nat) : Int) := by rw [IntKind.wrap_u8']; omega
  have hob := fun x w => one_byte (P := Tryd.prog) Tryd.underlying43 Tryd.underlying5 Tryd.underlying9 x w
  obtain ⟨R, hR⟩ : ∃ R, frontL no sq of de pr bo li to false = R := ⟨_, rfl⟩
  rw [hR]
  have fin : ∀ b : UInt8, b = UInt8.ofNat (176 + pr) → bstr R = .string (((((((⟨#[b]⟩ ++ p1) ++ p2) ++ p3) ++ p4) ++ p5) ++ p6) ++ p7) := fun b hb => by
    rw [← hR, hb]
    refine (vstr ?_).symm
    simp [frontL, y1, y2, y3, y4, y5, y6, y7]
  have u8p : 176 + UInt8.ofNat pr = UInt8.ofNat (176 + pr) := by rw [UInt8.ofNat_add]; rfl
  have Fin := Lib.hid fin
  replace u8p := Lib.hid u8p
  clear fin hR y1 y2 y3 y4 y5 y6 y7 hw
  go_enter Tryd.func32, Tryd.ntmps32
  go_wp2_with fail
  (with_reducible refine (g1.out _).mono ?_)
  rintro e w1 ⟨rfl, hw1⟩
  have kk5 : blk w1 (w.heap.size) = some #[.int .i64 (no : Int), .int .u64 (sq : Int), .int .i64 (of : Int), .int .i64 (de : Int), .int .i64 (pr : Int), .int .i64 (bo : Int), .int .i64 (li : Int), .int .i64 (to : Int), .string da] := (by (apply blk_to; (focus (repeat (first | (with_reducible assumption) | (with_reducible apply blk_drew) | (with_reducible apply blk_set) | ((with_reducible apply blk_other'); (first | (focus (dsimp only; assumption)) | (focus (simp; done)) | (focus (dsimp only; omega)))) | ((with_reducible apply blk_alloc_new); (first | (with_reducible rfl) | (focus (simp; done)) | (focus (simp; omega)))) | (with_reducible apply blk_alloc) | ((with_reducible apply blk_below); (with_reducible assumption))))); rfl))
  have kn5 := kn kk5
  have bw1 : Below w.heap.size w w1 := (by (repeat (first | (with_reducible assumption) | (with_reducible exact Below.refl _ _) | (with_reducible refine beld_drew ?_) | ((with_reducible refine bset' ?_ ?_); (first | (focus (dsimp only; assumption)) | (focus (simp; done)) | (focus (dsimp only; omega)))) | (with_reducible refine belt_alloc ?_) | ((with_reducible refine zeroed_below' ?_ ?_); (first | (focus (simp; done)) | (focus (dsimp only; omega)))) | (with_reducible refine bt ?_ (by assumption)))))
  have sw1 := bw1.size
  clear hw1
  go_wp2_with fail
  refine wp_region_in (by kernel_rfl) (by kernel_rfl) ?_
  intro W0_6 hE_6 hN_6
  have bW0_6 : Below w.heap.size w W0_6 := (by rw [hE_6.out]; (repeat (first | (with_reducible assumption) | (with_reducible exact Below.refl _ _) | (with_reducible refine beld_drew ?_) | ((with_reducible refine bset' ?_ ?_); (first | (focus (dsimp only; assumption)) | (focus (simp; done)) | (focus (dsimp only; omega)))) | (with_reducible refine belt_alloc ?_) | ((with_reducible refine zeroed_below' ?_ ?_); (first | (focus (simp; done)) | (focus (dsimp only; omega)))) | (with_reducible refine bt ?_ (by assumption)))))
  have kk7 : blk W0_6 (w.heap.size) = some #[.int .i64 (no : Int), .int .u64 (sq : Int), .int .i64 (of : Int), .int .i64 (de : Int), .int .i64 (pr : Int), .int .i64 (bo : Int), .int .i64 (li : Int), .int .i64 (to : Int), .string da] := (by rw [hE_6.out]; (apply blk_to; (focus (repeat (first | (with_reducible assumption) | (with_reducible apply blk_drew) | (with_reducible apply blk_set) | ((with_reducible apply blk_other'); (first | (focus (dsimp only; assumption)) | (focus (simp; done)) | (focus (dsimp only; omega)))) | ((with_reducible apply blk_alloc_new); (first | (with_reducible rfl) | (focus (simp; done)) | (focus (simp; omega)))) | (with_reducible apply blk_alloc) | ((with_reducible apply blk_below); (with_reducible assumption))))); rfl))
  clear kk5 kn5
  have kn7 := calm_kn kk7
  clear hE_6
  repeat (go_big_quiet_step ((first | (go_at_call 57; (with_reducible refine Class.go _ (c1.out _))) | (go_at_call 57; (with_reducible refine Class.go _ (c2.out _))) | (go_at_call 57; (with_reducible refine Class.go _ (c3.out _))) | (go_at_call 57; (with_reducible refine Class.go _ (c4.out _))) | (go_at_call 57; (with_reducible refine Class.go _ (c5.out _))))))
  refine wpQuiet_nil ?_
  rintro _ ⟨x_6, rfl⟩
  have hx_6 : Calm W0_6 x_6.wd := x_6.ok
  have bw2 : Below w.heap.size w x_6.wd := bt bW0_6 hx_6
  clear kn7; replace kk7 := blk_below hx_6 kk7; have kn7 := kn kk7
  clear hx_6 bW0_6 hN_6 bw1
  generalize x_6.wd = w2 at *
  have sw2 := bw2.size
  go_wp2_with fail
  (with_reducible refine (g1.out _).mono ?_)
  rintro e w3 ⟨rfl, hw3⟩
  have kk8 : blk w3 (w.heap.size) = some #[.int .i64 (no : Int), .int .u64 (sq : Int), .int .i64 (of : Int), .int .i64 (de : Int), .int .i64 (pr : Int), .int .i64 (bo : Int), .int .i64 (li : Int), .int .i64 (to : Int), .string da] := (by (apply blk_to; (focus (repeat (first | (with_reducible assumption) | (with_reducible apply blk_drew) | (with_reducible apply blk_set) | ((with_reducible apply blk_other'); (first | (focus (dsimp only; assumption)) | (focus (simp; done)) | (focus (dsimp only; omega)))) | ((with_reducible apply blk_alloc_new); (first | (with_reducible rfl) | (focus (simp; done)) | (focus (simp; omega)))) | (with_reducible apply blk_alloc) | ((with_reducible apply blk_below); (with_reducible assumption))))); rfl))
  clear kk7 kn7
  have kn8 := kn kk8
  have bw3 : Below w.heap.size w w3 := (by (repeat (first | (with_reducible assumption) | (with_reducible exact Below.refl _ _) | (with_reducible refine beld_drew ?_) | ((with_reducible refine bset' ?_ ?_); (first | (focus (dsimp only; assumption)) | (focus (simp; done)) | (focus (dsimp only; omega)))) | (with_reducible refine belt_alloc ?_) | ((with_reducible refine zeroed_below' ?_ ?_); (first | (focus (simp; done)) | (focus (dsimp only; omega)))) | (with_reducible refine bt ?_ (by assumption)))))
  have sw3 := bw3.size
  clear hw3 bw2
  go_wp2_with fail
  refine wp_region_in (by kernel_rfl) (by kernel_rfl) ?_
  intro W0_9 hE_9 hN_9
  have bW0_9 : Below w.heap.size w W0_9 := (by rw [hE_9.out]; (repeat (first | (with_reducible assumption) | (with_reducible exact Below.refl _ _) | (with_reducible refine beld_drew ?_) | ((with_reducible refine bset' ?_ ?_); (first | (focus (dsimp only; assumption)) | (focus (simp; done)) | (focus (dsimp only; omega)))) | (with_reducible refine belt_alloc ?_) | ((with_reducible refine zeroed_below' ?_ ?_); (first | (focus (simp; done)) | (focus (dsimp only; omega)))) | (with_reducible refine bt ?_ (by assumption)))))
  have kk10 : blk W0_9 (w.heap.size) = some #[.int .i64 (no : Int), .int .u64 (sq : Int), .int .i64 (of : Int), .int .i64 (de : Int), .int .i64 (pr : Int), .int .i64 (bo : Int), .int .i64 (li : Int), .int .i64 (to : Int), .string da] := (by rw [hE_9.out]; (apply blk_to; (focus (repeat (first | (with_reducible assumption) | (with_reducible apply blk_drew) | (with_reducible apply blk_set) | ((with_reducible apply blk_other'); (first | (focus (dsimp only; assumption)) | (focus (simp; done)) | (focus (dsimp only; omega)))) | ((with_reducible apply blk_alloc_new); (first | (with_reducible rfl) | (focus (simp; done)) | (focus (simp; omega)))) | (with_reducible apply blk_alloc) | ((with_reducible apply blk_below); (with_reducible assumption))))); rfl))
  clear kk8 kn8
  have kn10 := calm_kn kk10
  clear hE_9
  repeat (go_big_quiet_step ((first | (go_at_call 57; (with_reducible refine Class.go _ (c6.out _))) | (go_at_call 57; (with_reducible refine Class.go _ (c7.out _))))))
  refine wpQuiet_nil ?_
  rintro _ ⟨x_9, rfl⟩
  have hx_9 : Calm W0_9 x_9.wd := x_9.ok
  have bw4 : Below w.heap.size w x_9.wd := bt bW0_9 hx_9
  clear kn10; replace kk10 := blk_below hx_9 kk10; have kn10 := kn kk10
  clear hx_9 bW0_9 hN_9 bw3
  generalize x_9.wd = w4 at *
  have sw4 := bw4.size
  go_wp2
  go_ret
  exact ⟨(congrArg Ending.returned (Fin.out _ u8p.out)).symm, by (repeat (first | (with_reducible assumption) | (with_reducible exact Below.refl _ _) | (with_reducible refine beld_drew ?_) | ((with_reducible refine bset' ?_ ?_); (first | (focus (dsimp only; assumption)) | (focus (simp; done)) | (focus (dsimp only; omega)))) | (with_reducible refine belt_alloc ?_) | ((with_reducible refine zeroed_below' ?_ ?_); (first | (focus (simp; done)) | (focus (dsimp only; omega)))) | (with_reducible refine bt ?_ (by assumption))))⟩
end Go.Proofs.YtiphddlakbbfiaaDoor
