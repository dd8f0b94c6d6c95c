/- Size and Room, both sides. -/
import Derived.Test.YtiphddlakbbfiaaDoorWiEnc
namespace Go.Proofs.YtiphddlakbbfiaaDoor
set_option linter.unusedVariables false
open Go.RowKit

theorem size_two (n : Nat) (h : n ≤ 1000) : (∀ w, Calls Tryd.prog 36 #[.int .u64 (n : Int)] w fun e w' => e = .returned (.int .i64 ((putN n).length : Nat)) ∧ Below w.heap.size w w') ∧
    (∀ w, Calls Tryd.prog 37 #[.int .u64 (n : Int)] w fun e w' => e = .returned (.int .i64 ((putN n).length : Nat)) ∧ w = w') :=
  ⟨fun w => numSize_any n (by omega) w, fun w => refSize_any n w (by omega)⟩
set_option maxRecDepth 100000 in
set_option maxHeartbeats 1600000 in
theorem size_err (no sq of de pr bo li to : Int) (da : ByteArray) (hda : da.size ≤ maxLen) (c : Int) (hc : buC no sq of de pr bo li to da.size = c) (hc0 : c ≠ 0) (w : World) :
    Calls Tryd.prog 13 #[buv no sq of de pr bo li to da] w fun e w' => e = .returned (.tuple #[.int .i64 0, .int .i64 c]) ∧ Below w.heap.size w w' := by
  have g1 := fun w => check_any no sq of de pr bo li to da hda w
  rw [hc] at g1
  have e1 : (c != 0) = true := by simp [hc0]
  clear hc0 hc
  replace g1 := Lib.hid g1
  go_enter Tryd.func13, Tryd.ntmps13
  go_wp2_with fail
  (with_reducible refine (g1.out _).mono ?_)
  rintro e w1 ⟨rfl, hw1⟩
  have kk1 : blk w1 (w.heap.size) = some #[.int .i64 no, .int .u64 sq, .int .i64 of, .int .i64 de, .int .i64 pr, .int .i64 bo, .int .i64 li, .int .i64 to, .string da] := (by (apply blk_to; (focus (repeat (first | (with_reducible assumption) | (with_reducible apply blk_drew) | (with_reducible apply blk_set) | ((with_reducible apply blk_other'); (first | (focus (dsimp only; assumption)) | (focus (simp; done)) | (focus (dsimp only; omega)))) | ((with_reducible apply blk_alloc_new); (first | (with_reducible rfl) | (focus (simp; done)) | (focus (simp; omega)))) | (with_reducible apply blk_alloc) | ((with_reducible apply blk_below); (with_reducible assumption))))); rfl))
  have kn1 := kn kk1
  have bw1 : Below w.heap.size w w1 := (by (repeat (first | (with_reducible assumption) | (with_reducible exact Below.refl _ _) | (with_reducible refine beld_drew ?_) | ((with_reducible refine bset' ?_ ?_); (first | (focus (dsimp only; assumption)) | (focus (simp; done)) | (focus (dsimp only; omega)))) | (with_reducible refine belt_alloc ?_) | ((with_reducible refine zeroed_below' ?_ ?_); (first | (focus (simp; done)) | (focus (dsimp only; omega)))) | (with_reducible refine bt ?_ (by assumption)))))
  have sw1 := bw1.size
  clear hw1
  go_wp2
  go_ret2
  exact ⟨rfl, bw1⟩
set_option maxRecDepth 100000 in
set_option maxHeartbeats 1600000 in
theorem refSizeB_err (no sq of de pr bo li to : Int) (da : ByteArray) (hda : da.size ≤ maxLen) (c : Int) (hc : buC no sq of de pr bo li to da.size = c) (hc0 : c ≠ 0) (w : World) :
    Calls Tryd.prog 14 #[buv no sq of de pr bo li to da] w fun e w' => e = .returned (.tuple #[.int .i64 0, .int .i64 c]) ∧ Below w.heap.size w w' := by
  have g1 : ∀ w, Calls Tryd.prog 12 #[buv no sq of de pr bo li to da] w fun e w' => e = .returned (.tuple #[.string ⟨#[]⟩, .int .i64 c]) ∧ Below w.heap.size w w' := fun w => refEncode_err no sq of de pr bo li to da hda c hc hc0 w
  replace g1 := Lib.hid g1
  go_enter Tryd.func14, Tryd.ntmps14
  go_wp2_with fail
  (with_reducible refine (g1.out _).mono ?_)
  rintro e w1 ⟨rfl, hw1⟩
  have bw1 : Below w.heap.size w w1 := (by (repeat (first | (with_reducible assumption) | (with_reducible exact Below.refl _ _) | (with_reducible refine beld_drew ?_) | ((with_reducible refine bset' ?_ ?_); (first | (focus (dsimp only; assumption)) | (focus (simp; done)) | (focus (dsimp only; omega)))) | (with_reducible refine belt_alloc ?_) | ((with_reducible refine zeroed_below' ?_ ?_); (first | (focus (simp; done)) | (focus (dsimp only; omega)))) | (with_reducible refine bt ?_ (by assumption)))))
  have sw1 := bw1.size
  clear hw1
  go_wp2
  go_ret2
  exact ⟨rfl, bw1⟩
set_option maxRecDepth 100000 in
set_option maxHeartbeats 1600000 in
theorem size_ok (no sq of de pr bo li to : Nat) (da : ByteArray) (hv : buC no sq of de pr bo li to da.size = 0) (w : World) (hH : HTab w) :
    Calls Tryd.prog 13 #[buv no sq of de pr bo li to da] w fun e w' => e = .returned (.tuple #[.int .i64 (szN (frLen no sq of de pr bo li to (wholeB of to da.size)) da.size : Nat), .int .i64 0]) ∧ Below w.heap.size w w' := by
  obtain ⟨v1, v2, v3, v4, v5, v6, v7, v8, v9, v10, v11, v12, v13, v14, v15⟩ := buC_nat hv
  obtain ⟨f, f1, f2, f3, cf, _⟩ := front_str no sq of de pr bo li to da hv
  have ct := (size_two da.size v14).1
  have g1 := fun w => check_any no sq of de pr bo li to da (by unfold maxLen; omega) w
  rw [hv] at g1
  rw [← f2]
  have hp := putN_length da.size
  obtain ⟨s, hs⟩ : ∃ s, (putN da.size).length = s := ⟨_, rfl⟩
  have fin : szN f.size da.size = f.size + s + da.size + 4 := by unfold szN; rw [hs]
  rw [fin]
  rw [hs] at ct hp
  obtain ⟨hp1, hp2⟩ := hp
  have q1 : IntKind.u64.wrap (da.size : Int) = (da.size : Int) := IntWalk.u64_in _ (by omega)
  have q2 : IntKind.i64.wrap ((f.size : Int) + (s : Int)) = (f.size : Int) + (s : Int) := IntWalk.i64_in _ (by omega)
  have q3 : IntKind.i64.wrap ((f.size : Int) + (s : Int) + (da.size : Int)) = (f.size : Int) + (s : Int) + (da.size : Int) := IntWalk.i64_in _ (by omega)
  have q4 : IntKind.i64.wrap ((f.size : Int) + (s : Int) + (da.size : Int) + 4) = (f.size : Int) + (s : Int) + (da.size : Int) + 4 := IntWalk.i64_in _ (by omega)
  replace g1 := Lib.hid g1; replace cf := Lib.hid cf; replace ct := Lib.hid ct
  have HT := Lib.hid hH
  clear fin f1 f2 hs hv hH v1 v2 v3 v4 v5 v6 v7 v8 v9 v10 v11 v12 v13 v15
  go_enter Tryd.func13, Tryd.ntmps13
  go_wp2_with fail
  (with_reducible refine (g1.out _).mono ?_)
  rintro e w1 ⟨rfl, hw1⟩
  have kk2 : blk w1 (w.heap.size) = some #[.int .i64 (no : Int), .int .u64 (sq : Int), .int .i64 (of : Int), .int .i64 (de : Int), .int .i64 (pr : Int), .int .i64 (bo : Int), .int .i64 (li : Int), .int .i64 (to : Int), .string da] := (by (apply blk_to; (focus (repeat (first | (with_reducible assumption) | (with_reducible apply blk_drew) | (with_reducible apply blk_set) | ((with_reducible apply blk_other'); (first | (focus (dsimp only; assumption)) | (focus (simp; done)) | (focus (dsimp only; omega)))) | ((with_reducible apply blk_alloc_new); (first | (with_reducible rfl) | (focus (simp; done)) | (focus (simp; omega)))) | (with_reducible apply blk_alloc) | ((with_reducible apply blk_below); (with_reducible assumption))))); rfl))
  have kn2 := kn kk2
  have bw1 : Below w.heap.size w w1 := (by (repeat (first | (with_reducible assumption) | (with_reducible exact Below.refl _ _) | (with_reducible refine beld_drew ?_) | ((with_reducible refine bset' ?_ ?_); (first | (focus (dsimp only; assumption)) | (focus (simp; done)) | (focus (dsimp only; omega)))) | (with_reducible refine belt_alloc ?_) | ((with_reducible refine zeroed_below' ?_ ?_); (first | (focus (simp; done)) | (focus (dsimp only; omega)))) | (with_reducible refine bt ?_ (by assumption)))))
  have sw1 := bw1.size
  clear hw1
  go_wp2_with fail
  refine wp_region_in (by kernel_rfl) (by kernel_rfl) ?_
  intro W0_3 hE_3 hN_3
  have bW0_3 : Below w.heap.size w W0_3 := (by rw [hE_3.out]; (repeat (first | (with_reducible assumption) | (with_reducible exact Below.refl _ _) | (with_reducible refine beld_drew ?_) | ((with_reducible refine bset' ?_ ?_); (first | (focus (dsimp only; assumption)) | (focus (simp; done)) | (focus (dsimp only; omega)))) | (with_reducible refine belt_alloc ?_) | ((with_reducible refine zeroed_below' ?_ ?_); (first | (focus (simp; done)) | (focus (dsimp only; omega)))) | (with_reducible refine bt ?_ (by assumption)))))
  have kk4 : blk W0_3 (w.heap.size) = some #[.int .i64 (no : Int), .int .u64 (sq : Int), .int .i64 (of : Int), .int .i64 (de : Int), .int .i64 (pr : Int), .int .i64 (bo : Int), .int .i64 (li : Int), .int .i64 (to : Int), .string da] := (by rw [hE_3.out]; (apply blk_to; (focus (repeat (first | (with_reducible assumption) | (with_reducible apply blk_drew) | (with_reducible apply blk_set) | ((with_reducible apply blk_other'); (first | (focus (dsimp only; assumption)) | (focus (simp; done)) | (focus (dsimp only; omega)))) | ((with_reducible apply blk_alloc_new); (first | (with_reducible rfl) | (focus (simp; done)) | (focus (simp; omega)))) | (with_reducible apply blk_alloc) | ((with_reducible apply blk_below); (with_reducible assumption))))); rfl))
  clear kk2 kn2
  have kn4 := calm_kn kk4
  clear hE_3
  repeat (go_big_quiet_step ((first | (go_at_call 29; (with_reducible refine Class.go _ (cf.out _ (HT.out.on (bt (by assumption) (Class.ok _)))))) | (go_at_call 36; (with_reducible refine Class.go _ (ct.out _))))))
  refine wpQuiet_nil ?_
  rintro _ ⟨x_3, rfl⟩
  have hx_3 : Calm W0_3 x_3.wd := x_3.ok
  have bw2 : Below w.heap.size w x_3.wd := bt bW0_3 hx_3
  clear kn4; replace kk4 := blk_below hx_3 kk4; have kn4 := kn kk4
  clear hx_3 bW0_3 hN_3 bw1
  generalize x_3.wd = w2 at *
  have sw2 := bw2.size
  go_wp2
  go_ret2
  exact ⟨ret_2 (by push_cast; rfl) rfl, bw2⟩
set_option maxRecDepth 100000 in
set_option maxHeartbeats 1600000 in
theorem refSizeB_ok (no sq of de pr bo li to : Nat) (da : ByteArray) (hv : buC no sq of de pr bo li to da.size = 0) (w : World) :
    Calls Tryd.prog 14 #[buv no sq of de pr bo li to da] w fun e w' => e = .returned (.tuple #[.int .i64 (szN (frLen no sq of de pr bo li to (wholeB of to da.size)) da.size : Nat), .int .i64 0]) ∧ Below w.heap.size w w' := by
  obtain ⟨v1, v2, v3, v4, v5, v6, v7, v8, v9, v10, v11, v12, v13, v14, v15⟩ := buC_nat hv
  have g1 := fun w => refEncode_ok no sq of de pr bo li to da hv w
  have hl := encL_len no sq of de pr bo li to da.data.toList
  rw [show (da.data.toList).length = da.size by simp] at hl
  obtain ⟨q, hq⟩ : ∃ q : ByteArray, q = ⟨(encL no sq of de pr bo li to da.data.toList).toArray⟩ := ⟨_, rfl⟩
  have hqs : q.size = szN (frLen no sq of de pr bo li to (wholeB of to da.size)) da.size := by rw [hq, bsize, hl]
  have hqb : q.size ≤ 2000 := by
    rw [hqs]; unfold szN
    have h1 := frLen_le no sq of de pr bo li to (wholeB of to da.size)
    have h2 := putN_length da.size
    omega
  have g2 : ∀ w, Calls Tryd.prog 12 #[buv no sq of de pr bo li to da] w fun e w' => e = .returned (.tuple #[.string q, .int .i64 0]) ∧ Below w.heap.size w w' := fun w => by rw [hq]; exact g1 w
  rw [← hqs]
  replace g2 := Lib.hid g2
  clear g1 hl hq hqs hv
  go_enter Tryd.func14, Tryd.ntmps14
  go_wp2_with fail
  (with_reducible refine (g2.out _).mono ?_)
  rintro e w1 ⟨rfl, hw1⟩
  have bw1 : Below w.heap.size w w1 := (by (repeat (first | (with_reducible assumption) | (with_reducible exact Below.refl _ _) | (with_reducible refine beld_drew ?_) | ((with_reducible refine bset' ?_ ?_); (first | (focus (dsimp only; assumption)) | (focus (simp; done)) | (focus (dsimp only; omega)))) | (with_reducible refine belt_alloc ?_) | ((with_reducible refine zeroed_below' ?_ ?_); (first | (focus (simp; done)) | (focus (dsimp only; omega)))) | (with_reducible refine bt ?_ (by assumption)))))
  have sw1 := bw1.size
  clear hw1
  go_wp2
  go_ret2
  exact ⟨rfl, bw1⟩

/-! ### Room -/
set_option maxRecDepth 100000 in
set_option maxHeartbeats 1600000 in
theorem room_err (no sq of de pr bo li to sz : Int) (da : ByteArray) (hda : da.size ≤ maxLen) (c : Int) (hc : buC no sq of de pr bo li to da.size = c) (hc0 : c ≠ 0) (w : World) :
    Calls Tryd.prog 15 #[buv no sq of de pr bo li to da, .int .i64 sz] w fun e w' => e = .returned (.tuple #[.int .i64 0, .int .i64 c]) ∧ Below w.heap.size w w' := by
  have g1 := fun w => check_any no sq of de pr bo li to da hda w
  rw [hc] at g1
  have e1 : (c != 0) = true := by simp [hc0]
  clear hc0 hc
  replace g1 := Lib.hid g1
  go_enter Tryd.func15, Tryd.ntmps15
  go_wp2_with fail
  (with_reducible refine (g1.out _).mono ?_)
  rintro e w1 ⟨rfl, hw1⟩
  have kk5 : blk w1 (w.heap.size) = some #[.int .i64 no, .int .u64 sq, .int .i64 of, .int .i64 de, .int .i64 pr, .int .i64 bo, .int .i64 li, .int .i64 to, .string da] := (by (apply blk_to; (focus (repeat (first | (with_reducible assumption) | (with_reducible apply blk_drew) | (with_reducible apply blk_set) | ((with_reducible apply blk_other'); (first | (focus (dsimp only; assumption)) | (focus (simp; done)) | (focus (dsimp only; omega)))) | ((with_reducible apply blk_alloc_new); (first | (with_reducible rfl) | (focus (simp; done)) | (focus (simp; omega)))) | (with_reducible apply blk_alloc) | ((with_reducible apply blk_below); (with_reducible assumption))))); rfl))
  have kn5 := kn kk5
  have bw1 : Below w.heap.size w w1 := (by (repeat (first | (with_reducible assumption) | (with_reducible exact Below.refl _ _) | (with_reducible refine beld_drew ?_) | ((with_reducible refine bset' ?_ ?_); (first | (focus (dsimp only; assumption)) | (focus (simp; done)) | (focus (dsimp only; omega)))) | (with_reducible refine belt_alloc ?_) | ((with_reducible refine zeroed_below' ?_ ?_); (first | (focus (simp; done)) | (focus (dsimp only; omega)))) | (with_reducible refine bt ?_ (by assumption)))))
  have sw1 := bw1.size
  clear hw1
  go_wp2
  go_ret2
  exact ⟨rfl, bw1⟩
set_option maxRecDepth 100000 in
set_option maxHeartbeats 1600000 in
theorem refRoom_err (no sq of de pr bo li to sz : Int) (da : ByteArray) (hda : da.size ≤ maxLen) (c : Int) (hc : buC no sq of de pr bo li to da.size = c) (hc0 : c ≠ 0) (w : World) :
    Calls Tryd.prog 16 #[buv no sq of de pr bo li to da, .int .i64 sz] w fun e w' => e = .returned (.tuple #[.int .i64 0, .int .i64 c]) ∧ Below w.heap.size w w' := by
  have g1 := fun w => refCheck_any no sq of de pr bo li to da hda w
  rw [hc] at g1
  have e1 : (c != 0) = true := by simp [hc0]
  clear hc0 hc
  replace g1 := Lib.hid g1
  go_enter Tryd.func16, Tryd.ntmps16
  go_wp2_with fail
  (with_reducible refine (g1.out _).mono ?_)
  rintro e w1 ⟨rfl, hw1⟩
  have kk6 : blk w1 (w.heap.size) = some #[.int .i64 no, .int .u64 sq, .int .i64 of, .int .i64 de, .int .i64 pr, .int .i64 bo, .int .i64 li, .int .i64 to, .string da] := (by (apply blk_to; (focus (repeat (first | (with_reducible assumption) | (with_reducible apply blk_drew) | (with_reducible apply blk_set) | ((with_reducible apply blk_other'); (first | (focus (dsimp only; assumption)) | (focus (simp; done)) | (focus (dsimp only; omega)))) | ((with_reducible apply blk_alloc_new); (first | (with_reducible rfl) | (focus (simp; done)) | (focus (simp; omega)))) | (with_reducible apply blk_alloc) | ((with_reducible apply blk_below); (with_reducible assumption))))); rfl))
  have kn6 := kn kk6
  have bw1 : Below w.heap.size w w1 := (by (repeat (first | (with_reducible assumption) | (with_reducible exact Below.refl _ _) | (with_reducible refine beld_drew ?_) | ((with_reducible refine bset' ?_ ?_); (first | (focus (dsimp only; assumption)) | (focus (simp; done)) | (focus (dsimp only; omega)))) | (with_reducible refine belt_alloc ?_) | ((with_reducible refine zeroed_below' ?_ ?_); (first | (focus (simp; done)) | (focus (dsimp only; omega)))) | (with_reducible refine bt ?_ (by assumption)))))
  have sw1 := bw1.size
  clear hw1
  go_wp2
  go_ret2
  exact ⟨rfl, bw1⟩
set_option maxRecDepth 100000 in
set_option maxHeartbeats 1600000 in
theorem room_neg (no sq of de pr bo li to sz : Int) (da : ByteArray) (hda : da.size ≤ maxLen) (hv : buC no sq of de pr bo li to da.size = 0) (hs : sz < 0) (w : World) :
    Calls Tryd.prog 15 #[buv no sq of de pr bo li to da, .int .i64 sz] w fun e w' => e = .returned (.tuple #[.int .i64 0, .int .i64 2]) ∧ Below w.heap.size w w' := by
  have g1 := fun w => check_any no sq of de pr bo li to da hda w
  rw [hv] at g1
  clear hv
  replace g1 := Lib.hid g1
  go_enter Tryd.func15, Tryd.ntmps15
  go_wp2_with fail
  (with_reducible refine (g1.out _).mono ?_)
  rintro e w1 ⟨rfl, hw1⟩
  have kk7 : blk w1 (w.heap.size) = some #[.int .i64 no, .int .u64 sq, .int .i64 of, .int .i64 de, .int .i64 pr, .int .i64 bo, .int .i64 li, .int .i64 to, .string da] := (by (apply blk_to; (focus (repeat (first | (with_reducible assumption) | (with_reducible apply blk_drew) | (with_reducible apply blk_set) | ((with_reducible apply blk_other'); (first | (focus (dsimp only; assumption)) | (focus (simp; done)) | (focus (dsimp only; omega)))) | ((with_reducible apply blk_alloc_new); (first | (with_reducible rfl) | (focus (simp; done)) | (focus (simp; omega)))) | (with_reducible apply blk_alloc) | ((with_reducible apply blk_below); (with_reducible assumption))))); rfl))
  have kn7 := kn kk7
  have bw1 : Below w.heap.size w w1 := (by (repeat (first | (with_reducible assumption) | (with_reducible exact Below.refl _ _) | (with_reducible refine beld_drew ?_) | ((with_reducible refine bset' ?_ ?_); (first | (focus (dsimp only; assumption)) | (focus (simp; done)) | (focus (dsimp only; omega)))) | (with_reducible refine belt_alloc ?_) | ((with_reducible refine zeroed_below' ?_ ?_); (first | (focus (simp; done)) | (focus (dsimp only; omega)))) | (with_reducible refine bt ?_ (by assumption)))))
  have sw1 := bw1.size
  clear hw1
  go_wp2
  go_ret2
  exact ⟨rfl, bw1⟩
set_option maxRecDepth 100000 in
set_option maxHeartbeats 1600000 in
theorem refRoom_neg (no sq of de pr bo li to sz : Int) (da : ByteArray) (hda : da.size ≤ maxLen) (hv : buC no sq of de pr bo li to da.size = 0) (hs : sz < 0) (w : World) :
    Calls Tryd.prog 16 #[buv no sq of de pr bo li to da, .int .i64 sz] w fun e w' => e = .returned (.tuple #[.int .i64 0, .int .i64 2]) ∧ Below w.heap.size w w' := by
  have g1 := fun w => refCheck_any no sq of de pr bo li to da hda w
  rw [hv] at g1
  clear hv
  replace g1 := Lib.hid g1
  go_enter Tryd.func16, Tryd.ntmps16
  go_wp2_with fail
  (with_reducible refine (g1.out _).mono ?_)
  rintro e w1 ⟨rfl, hw1⟩
  have kk8 : blk w1 (w.heap.size) = some #[.int .i64 no, .int .u64 sq, .int .i64 of, .int .i64 de, .int .i64 pr, .int .i64 bo, .int .i64 li, .int .i64 to, .string da] := (by (apply blk_to; (focus (repeat (first | (with_reducible assumption) | (with_reducible apply blk_drew) | (with_reducible apply blk_set) | ((with_reducible apply blk_other'); (first | (focus (dsimp only; assumption)) | (focus (simp; done)) | (focus (dsimp only; omega)))) | ((with_reducible apply blk_alloc_new); (first | (with_reducible rfl) | (focus (simp; done)) | (focus (simp; omega)))) | (with_reducible apply blk_alloc) | ((with_reducible apply blk_below); (with_reducible assumption))))); rfl))
  have kn8 := kn kk8
  have bw1 : Below w.heap.size w w1 := (by (repeat (first | (with_reducible assumption) | (with_reducible exact Below.refl _ _) | (with_reducible refine beld_drew ?_) | ((with_reducible refine bset' ?_ ?_); (first | (focus (dsimp only; assumption)) | (focus (simp; done)) | (focus (dsimp only; omega)))) | (with_reducible refine belt_alloc ?_) | ((with_reducible refine zeroed_below' ?_ ?_); (first | (focus (simp; done)) | (focus (dsimp only; omega)))) | (with_reducible refine bt ?_ (by assumption)))))
  have sw1 := bw1.size
  clear hw1
  go_wp2
  go_ret2
  exact ⟨rfl, bw1⟩
set_option maxRecDepth 100000 in
set_option maxHeartbeats 3200000 in
theorem room_ok (no sq of de pr bo li to : Nat) (sz : Int) (da : ByteArray) (hv : buC no sq of de pr bo li to da.size = 0) (hs : 0 ≤ sz) (w : World) (hH : HTab w) :
    Calls Tryd.prog 15 #[buv no sq of de pr bo li to da, .int .i64 sz] w fun e w' => e = .returned (.tuple #[.int .i64 (roomGo (frLen no sq of de pr bo li to (wholeB of to da.size)) sz 1000 : Nat), .int .i64 0]) ∧ Below w.heap.size w w' := by
  obtain ⟨f, f1, f2, f3, cf, _⟩ := front_str no sq of de pr bo li to da hv
  have g1 := fun w => check_any no sq of de pr bo li to da (by unfold maxLen; have := buC_nat hv; omega) w
  rw [hv] at g1
  rw [← f2]
  have ct := Lib.hid fun n h => (size_two n h).1
  replace g1 := Lib.hid g1; replace cf := Lib.hid cf
  have HT := Lib.hid hH
  have hsz : ∀ n, szN f.size n = f.size + (putN n).length + n + 4 := fun n => rfl
  replace hsz := Lib.hid hsz
  have hF : f.size ≤ 78 := f3
  clear f1 f2 f3 hv hH
  go_enter Tryd.func15, Tryd.ntmps15
  go_wp2_with fail
  (with_reducible refine (g1.out _).mono ?_)
  rintro e w1 ⟨rfl, hw1⟩
  have kk9 : blk w1 (w.heap.size) = some #[.int .i64 (no : Int), .int .u64 (sq : Int), .int .i64 (of : Int), .int .i64 (de : Int), .int .i64 (pr : Int), .int .i64 (bo : Int), .int .i64 (li : Int), .int .i64 (to : Int), .string da] := (by (apply blk_to; (focus (repeat (first | (with_reducible assumption) | (with_reducible apply blk_drew) | (with_reducible apply blk_set) | ((with_reducible apply blk_other'); (first | (focus (dsimp only; assumption)) | (focus (simp; done)) | (focus (dsimp only; omega)))) | ((with_reducible apply blk_alloc_new); (first | (with_reducible rfl) | (focus (simp; done)) | (focus (simp; omega)))) | (with_reducible apply blk_alloc) | ((with_reducible apply blk_below); (with_reducible assumption))))); rfl))
  have kn9 := kn kk9
  have bw1 : Below w.heap.size w w1 := (by (repeat (first | (with_reducible assumption) | (with_reducible exact Below.refl _ _) | (with_reducible refine beld_drew ?_) | ((with_reducible refine bset' ?_ ?_); (first | (focus (dsimp only; assumption)) | (focus (simp; done)) | (focus (dsimp only; omega)))) | (with_reducible refine belt_alloc ?_) | ((with_reducible refine zeroed_below' ?_ ?_); (first | (focus (simp; done)) | (focus (dsimp only; omega)))) | (with_reducible refine bt ?_ (by assumption)))))
  have sw1 := bw1.size
  clear hw1
  go_wp2
  go_loopw [7] (fun n wr => ∃ k : Nat, n = .int .i64 k ∧ k ≤ 1000 ∧ roomGo f.size sz 1000 = roomGo f.size sz k ∧ blk wr w.heap.size = some (#[.int .i64 (no : Int), .int .u64 (sq : Int), .int .i64 (of : Int), .int .i64 (de : Int), .int .i64 (pr : Int), .int .i64 (bo : Int), .int .i64 (li : Int), .int .i64 (to : Int), .string da]) ∧ Below w.heap.size w wr) (fun n _ => (intOf n).toNat)
  case atStart => exact ⟨1000, rfl, Nat.le_refl _, rfl, by assumption, bw1⟩
  case round =>
    obtain ⟨k, rfl, hk, hr, hbk, hb⟩ := hrel
    have Hr := Lib.hid hr; clear hr
    have knr := kn hbk
    have hsr := hb.size
    match k, hk with
    | 0, _ =>
      go_wp2
      go_ret2
      exact ⟨ret_2 (by rw [Hr.out]; rfl) rfl, hb⟩
    | k + 1, hk =>
      have ctk := ct.out (k + 1) hk
      push_cast at ctk
      have hz := hsz.out (k + 1)
      have hp := (putN_length (k + 1)).2
      obtain ⟨s, hs'⟩ : ∃ s, (putN (k + 1)).length = s := ⟨_, rfl⟩
      rw [hs'] at ctk hz hp
      replace ctk := Lib.hid ctk
      clear hs'
      have q1 : IntKind.u64.wrap ((k : Int) + 1) = (k : Int) + 1 := IntWalk.u64_in _ (by omega)
      have e0 : decide ((0 : Int) < (k : Int) + 1) = true := by simp
      by_cases hfit : ((szN f.size (k + 1) : Nat) : Int) ≤ sz
      · have hr' : roomGo f.size sz 1000 = k + 1 := by rw [Hr.out]; unfold roomGo; rw [if_pos hfit]
        have hfit' : (f.size : Int) + (s : Int) + ((k : Int) + 1) + 4 ≤ sz := by rw [hz] at hfit; push_cast at hfit; omega
        have Hf := Lib.hid hr'; clear hr' hz hfit Hr
        go_wp2_with (first
          | (go_at_call 29; (with_reducible refine (cf.out _ (HT.out.on (by assumption))).mono ?_); rintro e wa ⟨rfl, ha⟩; have kk11 : blk wa (w.heap.size) = some #[.int .i64 (no : Int), .int .u64 (sq : Int), .int .i64 (of : Int), .int .i64 (de : Int), .int .i64 (pr : Int), .int .i64 (bo : Int), .int .i64 (li : Int), .int .i64 (to : Int), .string da] := (by (apply blk_to; (focus (repeat (first | (with_reducible assumption) | (with_reducible apply blk_drew) | (with_reducible apply blk_set) | ((with_reducible apply blk_other'); (first | (focus (dsimp only; assumption)) | (focus (simp; done)) | (focus (dsimp only; omega)))) | ((with_reducible apply blk_alloc_new); (first | (with_reducible rfl) | (focus (simp; done)) | (focus (simp; omega)))) | (with_reducible apply blk_alloc) | ((with_reducible apply blk_below); (with_reducible assumption))))); rfl)); have kn11 := kn kk11)
          | (go_at_call 36; (with_reducible refine (ctk.out _).mono ?_); rintro e wb ⟨rfl, hb2⟩; have kk12 : blk wb (w.heap.size) = some #[.int .i64 (no : Int), .int .u64 (sq : Int), .int .i64 (of : Int), .int .i64 (de : Int), .int .i64 (pr : Int), .int .i64 (bo : Int), .int .i64 (li : Int), .int .i64 (to : Int), .string da] := (by (apply blk_to; (focus (repeat (first | (with_reducible assumption) | (with_reducible apply blk_drew) | (with_reducible apply blk_set) | ((with_reducible apply blk_other'); (first | (focus (dsimp only; assumption)) | (focus (simp; done)) | (focus (dsimp only; omega)))) | ((with_reducible apply blk_alloc_new); (first | (with_reducible rfl) | (focus (simp; done)) | (focus (simp; omega)))) | (with_reducible apply blk_alloc) | ((with_reducible apply blk_below); (with_reducible assumption))))); rfl)); have kn12 := kn kk12))
        go_ret2
        exact ⟨ret_2 (by rw [Hf.out]; push_cast; rfl) rfl, by (repeat (first | (with_reducible assumption) | (with_reducible exact Below.refl _ _) | (with_reducible refine beld_drew ?_) | ((with_reducible refine bset' ?_ ?_); (first | (focus (dsimp only; assumption)) | (focus (simp; done)) | (focus (dsimp only; omega)))) | (with_reducible refine belt_alloc ?_) | ((with_reducible refine zeroed_below' ?_ ?_); (first | (focus (simp; done)) | (focus (dsimp only; omega)))) | (with_reducible refine bt ?_ (by assumption))))⟩
      · have hr' : roomGo f.size sz 1000 = roomGo f.size sz k := by rw [Hr.out]; conv => lhs; unfold roomGo; rw [if_neg hfit]
        have hfit' : sz < (f.size : Int) + (s : Int) + ((k : Int) + 1) + 4 := by rw [hz] at hfit; push_cast at hfit; omega
        have Hf := Lib.hid hr'; clear hr' hz hfit Hr
        go_wp2_with (first
          | (go_at_call 29; (with_reducible refine (cf.out _ (HT.out.on (by assumption))).mono ?_); rintro e wa ⟨rfl, ha⟩; have kk13 : blk wa (w.heap.size) = some #[.int .i64 (no : Int), .int .u64 (sq : Int), .int .i64 (of : Int), .int .i64 (de : Int), .int .i64 (pr : Int), .int .i64 (bo : Int), .int .i64 (li : Int), .int .i64 (to : Int), .string da] := (by (apply blk_to; (focus (repeat (first | (with_reducible assumption) | (with_reducible apply blk_drew) | (with_reducible apply blk_set) | ((with_reducible apply blk_other'); (first | (focus (dsimp only; assumption)) | (focus (simp; done)) | (focus (dsimp only; omega)))) | ((with_reducible apply blk_alloc_new); (first | (with_reducible rfl) | (focus (simp; done)) | (focus (simp; omega)))) | (with_reducible apply blk_alloc) | ((with_reducible apply blk_below); (with_reducible assumption))))); rfl)); have kn13 := kn kk13)
          | (go_at_call 36; (with_reducible refine (ctk.out _).mono ?_); rintro e wb ⟨rfl, hb2⟩; have kk14 : blk wb (w.heap.size) = some #[.int .i64 (no : Int), .int .u64 (sq : Int), .int .i64 (of : Int), .int .i64 (de : Int), .int .i64 (pr : Int), .int .i64 (bo : Int), .int .i64 (li : Int), .int .i64 (to : Int), .string da] := (by (apply blk_to; (focus (repeat (first | (with_reducible assumption) | (with_reducible apply blk_drew) | (with_reducible apply blk_set) | ((with_reducible apply blk_other'); (first | (focus (dsimp only; assumption)) | (focus (simp; done)) | (focus (dsimp only; omega)))) | ((with_reducible apply blk_alloc_new); (first | (with_reducible rfl) | (focus (simp; done)) | (focus (simp; omega)))) | (with_reducible apply blk_alloc) | ((with_reducible apply blk_below); (with_reducible assumption))))); rfl)); have kn14 := kn kk14))
        go_roundw
        case rel => exact ⟨k, by go_num, by omega, Hf.out, by assumption, by (repeat (first | (with_reducible assumption) | (with_reducible exact Below.refl _ _) | (with_reducible refine beld_drew ?_) | ((with_reducible refine bset' ?_ ?_); (first | (focus (dsimp only; assumption)) | (focus (simp; done)) | (focus (dsimp only; omega)))) | (with_reducible refine belt_alloc ?_) | ((with_reducible refine zeroed_below' ?_ ?_); (first | (focus (simp; done)) | (focus (dsimp only; omega)))) | (with_reducible refine bt ?_ (by assumption))))⟩
        case measure => simp [intOf]
theorem roomGo_next (F : Nat) (sz : Int) (k : Nat) : roomGo F sz k = if ((szN F k : Nat) : Int) ≤ sz then k else roomGo F sz (k - 1) := by
  cases k with
  | zero => simp [roomGo]
  | succ k => rfl
set_option maxRecDepth 100000 in
set_option maxHeartbeats 3200000 in
theorem refRoom_ok (no sq of de pr bo li to : Nat) (sz : Int) (da : ByteArray) (hv : buC no sq of de pr bo li to da.size = 0) (hs : 0 ≤ sz) (w : World) :
    Calls Tryd.prog 16 #[buv no sq of de pr bo li to da, .int .i64 sz] w fun e w' => e = .returned (.tuple #[.int .i64 (roomGo (frLen no sq of de pr bo li to (wholeB of to da.size)) sz 1000 : Nat), .int .i64 0]) ∧ Below w.heap.size w w' := by
  obtain ⟨f, f1, f2, f3, _, cf⟩ := front_str no sq of de pr bo li to da hv
  have g1 := fun w => refCheck_any no sq of de pr bo li to da (by unfold maxLen; have := buC_nat hv; omega) w
  rw [hv] at g1
  rw [← f2]
  have ct := Lib.hid fun n h => (size_two n h).2
  replace g1 := Lib.hid g1; replace cf := Lib.hid cf
  have hsz : ∀ n, szN f.size n = f.size + (putN n).length + n + 4 := fun n => rfl
  replace hsz := Lib.hid hsz
  have hF : f.size ≤ 78 := f3
  clear f1 f2 f3 hv
  go_enter Tryd.func16, Tryd.ntmps16
  go_wp2_with fail
  (with_reducible refine (g1.out _).mono ?_)
  rintro e w1 ⟨rfl, hw1⟩
  have kk10 : blk w1 (w.heap.size) = some #[.int .i64 (no : Int), .int .u64 (sq : Int), .int .i64 (of : Int), .int .i64 (de : Int), .int .i64 (pr : Int), .int .i64 (bo : Int), .int .i64 (li : Int), .int .i64 (to : Int), .string da] := (by (apply blk_to; (focus (repeat (first | (with_reducible assumption) | (with_reducible apply blk_drew) | (with_reducible apply blk_set) | ((with_reducible apply blk_other'); (first | (focus (dsimp only; assumption)) | (focus (simp; done)) | (focus (dsimp only; omega)))) | ((with_reducible apply blk_alloc_new); (first | (with_reducible rfl) | (focus (simp; done)) | (focus (simp; omega)))) | (with_reducible apply blk_alloc) | ((with_reducible apply blk_below); (with_reducible assumption))))); rfl))
  have kn10 := kn kk10
  have bw1 : Below w.heap.size w w1 := (by (repeat (first | (with_reducible assumption) | (with_reducible exact Below.refl _ _) | (with_reducible refine beld_drew ?_) | ((with_reducible refine bset' ?_ ?_); (first | (focus (dsimp only; assumption)) | (focus (simp; done)) | (focus (dsimp only; omega)))) | (with_reducible refine belt_alloc ?_) | ((with_reducible refine zeroed_below' ?_ ?_); (first | (focus (simp; done)) | (focus (dsimp only; omega)))) | (with_reducible refine bt ?_ (by assumption)))))
  have sw1 := bw1.size
  clear hw1
  go_wp2
  go_loopw [7, 8] (fun m n wr => ∃ k b : Nat, n = .int .i64 k ∧ m = .int .i64 b ∧ k ≤ 1001 ∧ Hid (b = roomGo f.size sz (k - 1)) ∧ blk wr w.heap.size = some (#[.int .i64 (no : Int), .int .u64 (sq : Int), .int .i64 (of : Int), .int .i64 (de : Int), .int .i64 (pr : Int), .int .i64 (bo : Int), .int .i64 (li : Int), .int .i64 (to : Int), .string da]) ∧ Below w.heap.size w wr) (fun _ n _ => 1001 - (intOf n).toNat)
  case atStart => exact ⟨0, 0, rfl, rfl, by omega, Lib.hid rfl, by assumption, bw1⟩
  case round =>
    obtain ⟨k, b, rfl, rfl, hk, hr, hbk, hb⟩ := hrel
    have knr := kn hbk
    have hsr := hb.size
    by_cases h1 : k ≤ 1000
    · have ctk := ct.out k h1
      have hz := hsz.out k
      have hp := (putN_length k).2
      have hn := roomGo_next f.size sz k
      obtain ⟨s, hs'⟩ : ∃ s, (putN k).length = s := ⟨_, rfl⟩
      rw [hs'] at ctk hz hp
      clear hs'
      replace ctk := Lib.hid ctk
      have q1 : IntKind.u64.wrap (k : Int) = (k : Int) := IntWalk.u64_in _ (by omega)
      by_cases hfit : ((szN f.size k : Nat) : Int) ≤ sz
      · rw [if_pos hfit] at hn
        have hfit' : (f.size : Int) + (s : Int) + (k : Int) + 4 ≤ sz := by rw [hz] at hfit; push_cast at hfit; omega
        replace hn := Lib.hid hn
        clear hz hfit
        go_wp2_with (first
          | (go_at_call 32; (with_reducible refine (cf.out _).mono ?_); rintro e wa ⟨rfl, ha⟩; have kk15 : blk wa (w.heap.size) = some #[.int .i64 (no : Int), .int .u64 (sq : Int), .int .i64 (of : Int), .int .i64 (de : Int), .int .i64 (pr : Int), .int .i64 (bo : Int), .int .i64 (li : Int), .int .i64 (to : Int), .string da] := (by (apply blk_to; (focus (repeat (first | (with_reducible assumption) | (with_reducible apply blk_drew) | (with_reducible apply blk_set) | ((with_reducible apply blk_other'); (first | (focus (dsimp only; assumption)) | (focus (simp; done)) | (focus (dsimp only; omega)))) | ((with_reducible apply blk_alloc_new); (first | (with_reducible rfl) | (focus (simp; done)) | (focus (simp; omega)))) | (with_reducible apply blk_alloc) | ((with_reducible apply blk_below); (with_reducible assumption))))); rfl)); have kn15 := kn kk15)
          | (go_at_call 37; (with_reducible refine (ctk.out _).mono ?_); rintro e wb ⟨rfl, rfl⟩))
        go_roundw
        case rel => exact ⟨k + 1, k, by go_num, rfl, by omega, Lib.hid (by rw [Nat.add_sub_cancel]; exact hn.out.symm), by assumption, by (repeat (first | (with_reducible assumption) | (with_reducible exact Below.refl _ _) | (with_reducible refine beld_drew ?_) | ((with_reducible refine bset' ?_ ?_); (first | (focus (dsimp only; assumption)) | (focus (simp; done)) | (focus (dsimp only; omega)))) | (with_reducible refine belt_alloc ?_) | ((with_reducible refine zeroed_below' ?_ ?_); (first | (focus (simp; done)) | (focus (dsimp only; omega)))) | (with_reducible refine bt ?_ (by assumption))))⟩
        case measure => simp [intOf]; omega
      · rw [if_neg hfit] at hn
        have hfit' : sz < (f.size : Int) + (s : Int) + (k : Int) + 4 := by rw [hz] at hfit; push_cast at hfit; omega
        replace hn := Lib.hid hn
        clear hz hfit
        go_wp2_with (first
          | (go_at_call 32; (with_reducible refine (cf.out _).mono ?_); rintro e wa ⟨rfl, ha⟩; have kk16 : blk wa (w.heap.size) = some #[.int .i64 (no : Int), .int .u64 (sq : Int), .int .i64 (of : Int), .int .i64 (de : Int), .int .i64 (pr : Int), .int .i64 (bo : Int), .int .i64 (li : Int), .int .i64 (to : Int), .string da] := (by (apply blk_to; (focus (repeat (first | (with_reducible assumption) | (with_reducible apply blk_drew) | (with_reducible apply blk_set) | ((with_reducible apply blk_other'); (first | (focus (dsimp only; assumption)) | (focus (simp; done)) | (focus (dsimp only; omega)))) | ((with_reducible apply blk_alloc_new); (first | (with_reducible rfl) | (focus (simp; done)) | (focus (simp; omega)))) | (with_reducible apply blk_alloc) | ((with_reducible apply blk_below); (with_reducible assumption))))); rfl)); have kn16 := kn kk16)
          | (go_at_call 37; (with_reducible refine (ctk.out _).mono ?_); rintro e wb ⟨rfl, rfl⟩))
        go_roundw
        case rel => exact ⟨k + 1, b, by go_num, rfl, by omega, Lib.hid (by rw [Nat.add_sub_cancel, hn.out]; exact hr.out), by assumption, by (repeat (first | (with_reducible assumption) | (with_reducible exact Below.refl _ _) | (with_reducible refine beld_drew ?_) | ((with_reducible refine bset' ?_ ?_); (first | (focus (dsimp only; assumption)) | (focus (simp; done)) | (focus (dsimp only; omega)))) | (with_reducible refine belt_alloc ?_) | ((with_reducible refine zeroed_below' ?_ ?_); (first | (focus (simp; done)) | (focus (dsimp only; omega)))) | (with_reducible refine bt ?_ (by assumption))))⟩
        case measure => simp [intOf]; omega
    · obtain rfl : k = 1001 := by omega
      go_wp2
      go_ret2
      exact ⟨ret_2 (by rw [hr.out]) rfl, hb⟩

/-! ### For all bundles -/
/-- What Size gives. -/
def sizeC (no sq of de pr bo li to n : Int) : Int × Int :=
  if buC no sq of de pr bo li to n = 0 then ((szN (frLen no.toNat sq.toNat of.toNat de.toNat pr.toNat bo.toNat li.toNat to.toNat (wholeB of to n.toNat)) n.toNat : Nat), 0) else (0, buC no sq of de pr bo li to n)
/-- What Room gives. -/
def roomC (no sq of de pr bo li to n sz : Int) : Int × Int :=
  if buC no sq of de pr bo li to n = 0 then (if sz < 0 then (0, 2) else ((roomGo (frLen no.toNat sq.toNat of.toNat de.toNat pr.toNat bo.toNat li.toNat to.toNat (wholeB of to n.toNat)) sz 1000 : Nat), 0)) else (0, buC no sq of de pr bo li to n)
theorem nats_of {no sq of de pr bo li to n : Int} (h : buC no sq of de pr bo li to n = 0) (hsq : 0 ≤ sq) :
    ∃ no' sq' of' de' pr' bo' li' to' : Nat, no = no' ∧ sq = sq' ∧ of = of' ∧ de = de' ∧ pr = pr' ∧ bo = bo' ∧ li = li' ∧ to = to' := by
  obtain ⟨⟨a1, a2, a3, a4, a5⟩, ⟨b1, b2, b3, b4, b5, b6, b7, b8, b9, b10⟩, c1, c2, c3⟩ := buC_ok h
  exact ⟨no.toNat, sq.toNat, of.toNat, de.toNat, pr.toNat, bo.toNat, li.toNat, to.toNat, by omega, by omega, by omega, by omega, by omega, by omega, by omega, by omega⟩
theorem encode_any (no sq of de pr bo li to : Int) (da : ByteArray) (hda : da.size ≤ maxLen) (hsq : 0 ≤ sq) (w : World) (hH : HTab w) (hT : STab w) :
    Calls Tryd.prog 11 #[buv no sq of de pr bo li to da] w fun e w' => e = .returned (.tuple #[bstr (encC no sq of de pr bo li to da.data.toList).1, .int .i64 (encC no sq of de pr bo li to da.data.toList).2]) ∧ Below w.heap.size w w' := by
  have hl : (da.data.toList).length = da.size := by simp
  unfold encC; rw [hl]
  by_cases h : buC no sq of de pr bo li to da.size = 0
  · rw [if_pos h]
    obtain ⟨no, sq, of, de, pr, bo, li, to, rfl, rfl, rfl, rfl, rfl, rfl, rfl, rfl⟩ := nats_of h hsq
    exact encode_ok no sq of de pr bo li to da h w hH hT
  · rw [if_neg h]; exact encode_err no sq of de pr bo li to da hda _ rfl h w
theorem refEncode_any (no sq of de pr bo li to : Int) (da : ByteArray) (hda : da.size ≤ maxLen) (hsq : 0 ≤ sq) (w : World) :
    Calls Tryd.prog 12 #[buv no sq of de pr bo li to da] w fun e w' => e = .returned (.tuple #[bstr (encC no sq of de pr bo li to da.data.toList).1, .int .i64 (encC no sq of de pr bo li to da.data.toList).2]) ∧ Below w.heap.size w w' := by
  have hl : (da.data.toList).length = da.size := by simp
  unfold encC; rw [hl]
  by_cases h : buC no sq of de pr bo li to da.size = 0
  · rw [if_pos h]
    obtain ⟨no, sq, of, de, pr, bo, li, to, rfl, rfl, rfl, rfl, rfl, rfl, rfl, rfl⟩ := nats_of h hsq
    exact refEncode_ok no sq of de pr bo li to da h w
  · rw [if_neg h]; exact refEncode_err no sq of de pr bo li to da hda _ rfl h w
theorem sizeB_any (no sq of de pr bo li to : Int) (da : ByteArray) (hda : da.size ≤ maxLen) (hsq : 0 ≤ sq) (w : World) (hH : HTab w) :
    Calls Tryd.prog 13 #[buv no sq of de pr bo li to da] w fun e w' => e = .returned (.tuple #[.int .i64 (sizeC no sq of de pr bo li to da.size).1, .int .i64 (sizeC no sq of de pr bo li to da.size).2]) ∧ Below w.heap.size w w' := by
  unfold sizeC
  by_cases h : buC no sq of de pr bo li to da.size = 0
  · rw [if_pos h]
    obtain ⟨no, sq, of, de, pr, bo, li, to, rfl, rfl, rfl, rfl, rfl, rfl, rfl, rfl⟩ := nats_of h hsq
    exact size_ok no sq of de pr bo li to da h w hH
  · rw [if_neg h]; exact size_err no sq of de pr bo li to da hda _ rfl h w
theorem refSizeB_any (no sq of de pr bo li to : Int) (da : ByteArray) (hda : da.size ≤ maxLen) (hsq : 0 ≤ sq) (w : World) :
    Calls Tryd.prog 14 #[buv no sq of de pr bo li to da] w fun e w' => e = .returned (.tuple #[.int .i64 (sizeC no sq of de pr bo li to da.size).1, .int .i64 (sizeC no sq of de pr bo li to da.size).2]) ∧ Below w.heap.size w w' := by
  unfold sizeC
  by_cases h : buC no sq of de pr bo li to da.size = 0
  · rw [if_pos h]
    obtain ⟨no, sq, of, de, pr, bo, li, to, rfl, rfl, rfl, rfl, rfl, rfl, rfl, rfl⟩ := nats_of h hsq
    exact refSizeB_ok no sq of de pr bo li to da h w
  · rw [if_neg h]; exact refSizeB_err no sq of de pr bo li to da hda _ rfl h w
theorem room_any (no sq of de pr bo li to sz : Int) (da : ByteArray) (hda : da.size ≤ maxLen) (hsq : 0 ≤ sq) (w : World) (hH : HTab w) :
    Calls Tryd.prog 15 #[buv no sq of de pr bo li to da, .int .i64 sz] w fun e w' => e = .returned (.tuple #[.int .i64 (roomC no sq of de pr bo li to da.size sz).1, .int .i64 (roomC no sq of de pr bo li to da.size sz).2]) ∧ Below w.heap.size w w' := by
  unfold roomC
  by_cases h : buC no sq of de pr bo li to da.size = 0
  · rw [if_pos h]
    by_cases hs : sz < 0
    · rw [if_pos hs]; exact room_neg no sq of de pr bo li to sz da hda h hs w
    · rw [if_neg hs]
      obtain ⟨no, sq, of, de, pr, bo, li, to, rfl, rfl, rfl, rfl, rfl, rfl, rfl, rfl⟩ := nats_of h hsq
      exact room_ok no sq of de pr bo li to sz da h (by omega) w hH
  · rw [if_neg h]; exact room_err no sq of de pr bo li to sz da hda _ rfl h w
theorem refRoom_any (no sq of de pr bo li to sz : Int) (da : ByteArray) (hda : da.size ≤ maxLen) (hsq : 0 ≤ sq) (w : World) :
    Calls Tryd.prog 16 #[buv no sq of de pr bo li to da, .int .i64 sz] w fun e w' => e = .returned (.tuple #[.int .i64 (roomC no sq of de pr bo li to da.size sz).1, .int .i64 (roomC no sq of de pr bo li to da.size sz).2]) ∧ Below w.heap.size w w' := by
  unfold roomC
  by_cases h : buC no sq of de pr bo li to da.size = 0
  · rw [if_pos h]
    by_cases hs : sz < 0
    · rw [if_pos hs]; exact refRoom_neg no sq of de pr bo li to sz da hda h hs w
    · rw [if_neg hs]
      obtain ⟨no, sq, of, de, pr, bo, li, to, rfl, rfl, rfl, rfl, rfl, rfl, rfl, rfl⟩ := nats_of h hsq
      exact refRoom_ok no sq of de pr bo li to sz da h (by omega) w
  · rw [if_neg h]; exact refRoom_err no sq of de pr bo li to sz da hda _ rfl h w
end Go.Proofs.YtiphddlakbbfiaaDoor
