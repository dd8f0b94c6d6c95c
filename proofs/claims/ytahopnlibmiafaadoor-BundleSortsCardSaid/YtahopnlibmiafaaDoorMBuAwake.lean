/- Parts of a proof, printed by a program of mine out of my texts: BuAwake. -/
import Derived.Test.YtahopnlibmiafaaDoorMB
import Derived.Test.YtahopnlibmiafaaDoorMU
set_option linter.unusedSimpArgs false
set_option linter.unusedVariables false
namespace Go.Proofs.YtahopnlibmiafaaDoor
open Go.RowKit
set_option maxRecDepth 100000 in
theorem small3 (w : World) : Calls Tryd.prog 127 #[.int .i64 3] w fun e w' => e = .returned (.string ⟨#[51]⟩) ∧ w = w' := by
  go_enter Tryd.func127, Tryd.ntmps127
  go_wp2
  go_ret
  exact ⟨rfl, rfl⟩
set_option maxRecDepth 100000 in
theorem small0 (w : World) : Calls Tryd.prog 127 #[.int .i64 0] w fun e w' => e = .returned (.string ⟨#[48]⟩) ∧ w = w' := by
  go_enter Tryd.func127, Tryd.ntmps127
  go_wp2
  go_ret
  exact ⟨rfl, rfl⟩
set_option maxRecDepth 100000 in
theorem small17 (w : World) : Calls Tryd.prog 127 #[.int .i64 17] w fun e w' => e = .returned (.string ⟨#[49, 55]⟩) ∧ w = w' := by
  go_enter Tryd.func127, Tryd.ntmps127
  go_wp2
  go_ret
  exact ⟨rfl, rfl⟩
set_option maxRecDepth 100000 in
theorem itoa_of (n : Int) (s : ByteArray) (h1 : 0 ≤ n) (h2 : n < 100) (hs : ∀ w, Calls Tryd.prog 127 #[.int .i64 n] w fun e w' => e = .returned (.string s) ∧ w = w') (w : World) :
    Calls Tryd.prog 88 #[.int .i64 n] w fun e w' => e = .returned (.string s) ∧ w = w' := by
  have Hs := Lib.hid hs; clear hs
  go_enter Tryd.func88, Tryd.ntmps88
  go_wp2_with (first | (go_at_call 127; (with_reducible refine (Hs.out _).mono ?_); rintro e wx ⟨rfl, rfl⟩) | go_in)
  go_ret
  exact ⟨rfl, rfl⟩
set_option maxRecDepth 100000 in
theorem uint_of (n : Int) (s : ByteArray) (h1 : 0 ≤ n) (h2 : n < 100) (hs : ∀ w, Calls Tryd.prog 127 #[.int .i64 n] w fun e w' => e = .returned (.string s) ∧ w = w') (w : World) :
    Calls Tryd.prog 89 #[.int .u64 n, .int .i64 10] w fun e w' => e = .returned (.string s) ∧ w = w' := by
  have Hs := Lib.hid hs; clear hs
  go_enter Tryd.func89, Tryd.ntmps89
  go_wp2_with (first | (go_at_call 127; (with_reducible refine (Hs.out _).mono ?_); rintro e wx ⟨rfl, rfl⟩) | go_in)
  go_ret
  exact ⟨rfl, rfl⟩
set_option maxRecDepth 100000 in
set_option maxHeartbeats 800000 in
theorem key317 (w : World) : Calls Tryd.prog 52 #[idv 3 17 0] w fun e w' => e = .returned (.tuple #[.string ⟨#[51, 46, 49, 55, 46, 48]⟩, .int .i64 0]) ∧ Below w.heap.size w w' := by
  have Hc := Lib.hid fun w => checkID_any 3 17 0 w
  rw [show idC 3 17 0 = 0 by decide] at Hc
  have g1 := Lib.hid (itoa_of 3 _ (by decide) (by decide) small3)
  have g2 := Lib.hid (uint_of 17 _ (by decide) (by decide) small17)
  have g3 := Lib.hid (itoa_of 0 _ (by decide) (by decide) small0)
  go_enter Tryd.func52, Tryd.ntmps52
  go_wp2_with (go_at_call 87; (with_reducible refine (Hc.out _).mono ?_); rintro e wb ⟨rfl, hb⟩; have kk3 : blk wb (w.heap.size) = some #[.int .i64 3, .int .u64 17, .int .i64 0] := (by (apply blk_to; (focus (repeat (first | (with_reducible assumption) | (with_reducible apply blk_drew) | (with_reducible apply blk_set) | ((with_reducible apply blk_other'); (first | (focus (dsimp only; assumption)) | (focus (simp; done)) | (focus (dsimp only; omega)))) | ((with_reducible apply blk_alloc_new); (first | (with_reducible rfl) | (focus (simp; done)) | (focus (simp; omega)))) | (with_reducible apply blk_alloc) | ((with_reducible apply blk_below); (with_reducible assumption))))); rfl)); have kn3 := kn kk3)
  refine wp_region_in (by kernel_rfl) (by kernel_rfl) ?_
  intro W0_1 hE_1 hN_1
  have bW0_1 : Below w.heap.size w W0_1 := (by rw [hE_1.out]; (repeat (first | (with_reducible assumption) | (with_reducible exact Below.refl _ _) | (with_reducible refine beld_drew ?_) | ((with_reducible refine bset' ?_ ?_); (first | (focus (dsimp only; assumption)) | (focus (simp; done)) | (focus (dsimp only; omega)))) | (with_reducible refine belt_alloc ?_) | ((with_reducible refine zeroed_below' ?_ ?_); (first | (focus (simp; done)) | (focus (dsimp only; omega)))) | (with_reducible refine bt ?_ (by assumption)))))
  have kk2 : blk W0_1 (w.heap.size) = some #[.int .i64 3, .int .u64 17, .int .i64 0] := (by rw [hE_1.out]; (apply blk_to; (focus (repeat (first | (with_reducible assumption) | (with_reducible apply blk_drew) | (with_reducible apply blk_set) | ((with_reducible apply blk_other'); (first | (focus (dsimp only; assumption)) | (focus (simp; done)) | (focus (dsimp only; omega)))) | ((with_reducible apply blk_alloc_new); (first | (with_reducible rfl) | (focus (simp; done)) | (focus (simp; omega)))) | (with_reducible apply blk_alloc) | ((with_reducible apply blk_below); (with_reducible assumption))))); rfl))
  have kn2 := calm_kn kk2
  clear hE_1
  repeat (go_big_quiet_step ((first | (go_at_call 88; (with_reducible refine Class.same _ (g1.out _))) | (go_at_call 89; (with_reducible refine Class.same _ (g2.out _))) | (go_at_call 88; (with_reducible refine Class.same _ (g3.out _))))))
  refine wpQuiet_nil ?_
  rintro _ ⟨x_1, rfl⟩
  have hx_1 : Calm W0_1 x_1.wd := x_1.ok
  have bwn : Below w.heap.size w x_1.wd := bt bW0_1 hx_1
  clear kn2; replace kk2 := blk_below hx_1 kk2; have kn2 := kn kk2
  clear hx_1 bW0_1 hN_1
  generalize x_1.wd = wn at *
  go_wp2
  go_ret2
  exact ⟨rfl, bwn⟩
set_option maxRecDepth 100000 in
theorem example_any (w : World) : Calls Tryd.prog 51 #[] w fun e w' => e = .returned (buv 3 17 0 5 1 10 20 4 ⟨#[97, 98, 99, 100]⟩) ∧ Below w.heap.size w w' := by
  go_enter Tryd.func51, Tryd.ntmps51
  go_wp2
  refine ret_blk (b := w.heap.size) (c := #[.int .i64 3, .int .u64 17, .int .i64 0, .int .i64 5, .int .i64 1, .int .i64 10, .int .i64 20, .int .i64 4, .string ⟨#[97, 98, 99, 100]⟩]) (v := buv 3 17 0 5 1 10 20 4 ⟨#[97, 98, 99, 100]⟩) (by (apply blk_to; (focus (repeat (first | (with_reducible assumption) | (with_reducible apply blk_drew) | (with_reducible apply blk_set) | ((with_reducible apply blk_other'); (first | (focus (dsimp only; assumption)) | (focus (simp; done)) | (focus (dsimp only; omega)))) | ((with_reducible apply blk_alloc_new); (first | (with_reducible rfl) | (focus (simp; done)) | (focus (simp; omega)))) | (with_reducible apply blk_alloc) | ((with_reducible apply blk_below); (with_reducible assumption))))); rfl)) (fun W' hc => by simp [results, Tryd.results51, go_sem, hc]) rfl ⟨rfl, by (repeat (first | (with_reducible exact Below.refl _ _) | (with_reducible refine beld_drew ?_) | ((with_reducible refine bset' ?_ ?_); (first | (focus (dsimp only; assumption)) | (focus (simp; done)) | (focus (dsimp only; omega)))) | (with_reducible refine belt_alloc ?_) | ((with_reducible refine zeroed_below' ?_ ?_); (first | (focus (simp; done)) | (focus (dsimp only; omega)))) | (with_reducible refine bt ?_ (by assumption))))⟩
set_option maxRecDepth 100000 in
set_option maxHeartbeats 800000 in
theorem awake_any (w : World) : Calls Tryd.prog 12 #[] w fun e w' => e = .returned (.bool true) ∧ Below w.heap.size w w' := by
  have Hl := Lib.hid fun w => left'_any 3 17 0 5 1 10 20 4 12 ⟨#[97, 98, 99, 100]⟩ (by decide) w
  rw [show leftM 3 17 0 5 1 10 20 4 (ByteArray.size ⟨#[97, 98, 99, 100]⟩ : Nat) 12 = (18, 0) by decide] at Hl
  have Hc := Lib.hid fun w => compare_any 4 0 0 3 17 4 w
  rw [show cmpI 4 0 0 3 17 4 = 1 by decide] at Hc
  go_enter Tryd.func12, Tryd.ntmps12
  go_wp2_with (first
    | (go_at_call 51; (with_reducible refine (example_any _).mono ?_); rintro e w1 ⟨rfl, h1⟩)
    | (go_at_call 50; (with_reducible refine (Hl.out _).mono ?_); rintro e w2 ⟨rfl, h2⟩)
    | (go_at_call 52; (with_reducible refine (key317 _).mono ?_); rintro e w3 ⟨rfl, h3⟩)
    | (go_at_call 53; (with_reducible refine (Hc.out _).mono ?_); rintro e w4 ⟨rfl, h4⟩))
  go_ret
  exact ⟨rfl, by (repeat (first | (with_reducible assumption) | (with_reducible exact Below.refl _ _) | (with_reducible refine beld_drew ?_) | ((with_reducible refine bset' ?_ ?_); (first | (focus (dsimp only; assumption)) | (focus (simp; done)) | (focus (dsimp only; omega)))) | (with_reducible refine belt_alloc ?_) | ((with_reducible refine zeroed_below' ?_ ?_); (first | (focus (simp; done)) | (focus (dsimp only; omega)))) | (with_reducible refine bt ?_ (by assumption))))⟩
end Go.Proofs.YtahopnlibmiafaaDoor
