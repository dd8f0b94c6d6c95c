/- Valid bundles, expiry, errors: the program and the reference answer alike. -/
import Derived.Test.YtdbmiijnedkipaaDoorBuAwake
import Derived.Test.YtdbmiijnedkipaaDoorReg
namespace Go.Proofs.YtdbmiijnedkipaaDoor
set_option linter.unusedVariables false
open Go.RowKit

set_option maxRecDepth 100000 in
set_option maxHeartbeats 3200000 in
theorem bundleChecks_walk (no sq of de pr bo li to : Int) (da : ByteArray) (now : Int) (hda : da.size ≤ maxLen) (w : World) :
    Calls Tryd.prog 3 #[buv no sq of de pr bo li to da, .int .i64 now] w fun e w' => e = .returned (.bool true) ∧ Below w.heap.size w w' := by
  have g0 := Lib.hid awake_any
  have g1 := fun w => expired_any no sq of de pr bo li to now da hda w
  have g2 := fun w => refExpired_any no sq of de pr bo li to now da hda w
  have g3 := fun w => left'_any no sq of de pr bo li to now da hda w
  have g4 := fun w => refLeft_any no sq of de pr bo li to now da hda w
  have g5 := fun w => checkID_any no sq of w
  have g6 := fun w => refCheckID_any no sq of w
  have g7 := fun w => check_any no sq of de pr bo li to da hda w
  have g8 := fun w => refCheck_any no sq of de pr bo li to da hda w
  obtain ⟨⟨ex, ee⟩, he⟩ : ∃ r, expM no sq of de pr bo li to da.size now = r := ⟨_, rfl⟩
  obtain ⟨⟨lx, le⟩, hl⟩ : ∃ r, leftM no sq of de pr bo li to da.size now = r := ⟨_, rfl⟩
  obtain ⟨ix, hi⟩ : ∃ r, idC no sq of = r := ⟨_, rfl⟩
  obtain ⟨bx, hb⟩ : ∃ r, buC no sq of de pr bo li to da.size = r := ⟨_, rfl⟩
  rw [he] at g1 g2; rw [hl] at g3 g4; rw [hi] at g5 g6; rw [hb] at g7 g8
  clear he hl hi hb
  replace g1 := Lib.hid g1; replace g2 := Lib.hid g2; replace g3 := Lib.hid g3; replace g4 := Lib.hid g4
  replace g5 := Lib.hid g5; replace g6 := Lib.hid g6; replace g7 := Lib.hid g7; replace g8 := Lib.hid g8
  unfold maxLen at hda
  by_cases hlong : 1100 < da.size
  · go_enter Tryd.func3, Tryd.ntmps3
    go_wp2_with (go_at_call 12; (with_reducible refine (g0.out _).mono ?_); rintro e wa ⟨rfl, ha⟩)
    go_ret
    exact ⟨rfl, bta ha⟩
  · go_enter Tryd.func3, Tryd.ntmps3
    go_wp2_with (first
      | (go_at_call 13; (with_reducible refine (g1.out _).mono ?_); rintro e w1 ⟨rfl, h1⟩; have kk3 : blk w1 (w.heap.size) = some #[.int .i64 no, .int .u64 sq, .int .i64 of, .int .i64 de, .int .i64 pr, .int .i64 bo, .int .i64 li, .int .i64 to, .string da] := (by (apply blk_to; (focus (repeat (first | (with_reducible assumption) | (with_reducible apply blk_drew) | (with_reducible apply blk_set) | ((with_reducible apply blk_other'); (first | (focus (dsimp only; assumption)) | (focus (simp; done)) | (focus (dsimp only; omega)))) | ((with_reducible apply blk_alloc_new); (first | (with_reducible rfl) | (focus (simp; done)) | (focus (simp; omega)))) | (with_reducible apply blk_alloc) | ((with_reducible apply blk_below); (with_reducible assumption))))); rfl)); have kn3 := kn kk3)
      | (go_at_call 14; (with_reducible refine (g2.out _).mono ?_); rintro e w2 ⟨rfl, h2⟩; have kk4 : blk w2 (w.heap.size) = some #[.int .i64 no, .int .u64 sq, .int .i64 of, .int .i64 de, .int .i64 pr, .int .i64 bo, .int .i64 li, .int .i64 to, .string da] := (by (apply blk_to; (focus (repeat (first | (with_reducible assumption) | (with_reducible apply blk_drew) | (with_reducible apply blk_set) | ((with_reducible apply blk_other'); (first | (focus (dsimp only; assumption)) | (focus (simp; done)) | (focus (dsimp only; omega)))) | ((with_reducible apply blk_alloc_new); (first | (with_reducible rfl) | (focus (simp; done)) | (focus (simp; omega)))) | (with_reducible apply blk_alloc) | ((with_reducible apply blk_below); (with_reducible assumption))))); rfl)); have kn4 := kn kk4)
      | (go_at_call 15; (with_reducible refine (g3.out _).mono ?_); rintro e w3 ⟨rfl, h3⟩; have kk5 : blk w3 (w.heap.size) = some #[.int .i64 no, .int .u64 sq, .int .i64 of, .int .i64 de, .int .i64 pr, .int .i64 bo, .int .i64 li, .int .i64 to, .string da] := (by (apply blk_to; (focus (repeat (first | (with_reducible assumption) | (with_reducible apply blk_drew) | (with_reducible apply blk_set) | ((with_reducible apply blk_other'); (first | (focus (dsimp only; assumption)) | (focus (simp; done)) | (focus (dsimp only; omega)))) | ((with_reducible apply blk_alloc_new); (first | (with_reducible rfl) | (focus (simp; done)) | (focus (simp; omega)))) | (with_reducible apply blk_alloc) | ((with_reducible apply blk_below); (with_reducible assumption))))); rfl)); have kn5 := kn kk5)
      | (go_at_call 16; (with_reducible refine (g4.out _).mono ?_); rintro e w4 ⟨rfl, h4⟩; have kk6 : blk w4 (w.heap.size) = some #[.int .i64 no, .int .u64 sq, .int .i64 of, .int .i64 de, .int .i64 pr, .int .i64 bo, .int .i64 li, .int .i64 to, .string da] := (by (apply blk_to; (focus (repeat (first | (with_reducible assumption) | (with_reducible apply blk_drew) | (with_reducible apply blk_set) | ((with_reducible apply blk_other'); (first | (focus (dsimp only; assumption)) | (focus (simp; done)) | (focus (dsimp only; omega)))) | ((with_reducible apply blk_alloc_new); (first | (with_reducible rfl) | (focus (simp; done)) | (focus (simp; omega)))) | (with_reducible apply blk_alloc) | ((with_reducible apply blk_below); (with_reducible assumption))))); rfl)); have kn6 := kn kk6))
    refine wp_region_in (by kernel_rfl) (by kernel_rfl) ?_
    intro W0_1 hE_1 hN_1
    have bW0_1 : Below w.heap.size w W0_1 := (by rw [hE_1.out]; (repeat (first | (with_reducible assumption) | (with_reducible exact Below.refl _ _) | (with_reducible refine beld_drew ?_) | ((with_reducible refine bset' ?_ ?_); (first | (focus (dsimp only; assumption)) | (focus (simp; done)) | (focus (dsimp only; omega)))) | (with_reducible refine belt_alloc ?_) | ((with_reducible refine zeroed_below' ?_ ?_); (first | (focus (simp; done)) | (focus (dsimp only; omega)))) | (with_reducible refine bt ?_ (by assumption)))))
    have kk2 : blk W0_1 (w.heap.size) = some #[.int .i64 no, .int .u64 sq, .int .i64 of, .int .i64 de, .int .i64 pr, .int .i64 bo, .int .i64 li, .int .i64 to, .string da] := (by rw [hE_1.out]; (apply blk_to; (focus (repeat (first | (with_reducible assumption) | (with_reducible apply blk_drew) | (with_reducible apply blk_set) | ((with_reducible apply blk_other'); (first | (focus (dsimp only; assumption)) | (focus (simp; done)) | (focus (dsimp only; omega)))) | ((with_reducible apply blk_alloc_new); (first | (with_reducible rfl) | (focus (simp; done)) | (focus (simp; omega)))) | (with_reducible apply blk_alloc) | ((with_reducible apply blk_below); (with_reducible assumption))))); rfl))
    have kn2 := calm_kn kk2
    clear hE_1
    repeat (go_big_quiet_step ((first | (go_at_call 12; (with_reducible refine Class.go _ (g0.out _))) | (go_at_call 17; (with_reducible refine Class.go _ (g5.out _))) | (go_at_call 18; (with_reducible refine Class.go _ (g6.out _))) | (go_at_call 19; (with_reducible refine Class.go _ (g7.out _))) | (go_at_call 20; (with_reducible refine Class.go _ (g8.out _))))))
    refine wpQuiet_nil ?_
    rintro _ ⟨x_1, rfl⟩
    have hx_1 : Calm W0_1 x_1.wd := x_1.ok
    have bwn : Below w.heap.size w x_1.wd := bt bW0_1 hx_1
    clear kn2; replace kk2 := blk_below hx_1 kk2; have kn2 := kn kk2
    clear hx_1 bW0_1 hN_1
    generalize x_1.wd = wn at *
    go_wp2
    go_ret
    exact ⟨rfl, bwn⟩
end Go.Proofs.YtdbmiijnedkipaaDoor
