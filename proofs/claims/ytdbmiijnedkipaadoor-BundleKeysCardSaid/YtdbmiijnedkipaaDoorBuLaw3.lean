/- Comparisons: the program and the reference answer alike. -/
import Derived.Test.YtdbmiijnedkipaaDoorBuAwake
import Derived.Test.YtdbmiijnedkipaaDoorBuOrd2
import Derived.Test.YtdbmiijnedkipaaDoorReg
namespace Go.Proofs.YtdbmiijnedkipaaDoor
set_option linter.unusedVariables false
open Go.RowKit

set_option maxRecDepth 100000 in
set_option maxHeartbeats 3200000 in
theorem bundleOrders_walk (no sq of de pr bo li to : Int) (da : ByteArray) (no' sq' of' de' pr' bo' li' to' : Int) (da' : ByteArray) (wb : (Lit.int .i64 bo).wf = true) (wl : (Lit.int .i64 li).wf = true) (hda : da.size ≤ maxLen)
    (wb' : (Lit.int .i64 bo').wf = true) (wl' : (Lit.int .i64 li').wf = true) (hda' : da'.size ≤ maxLen) (w : World) :
    Calls Tryd.prog 6 #[buv no sq of de pr bo li to da, buv no' sq' of' de' pr' bo' li' to' da'] w fun e w' => e = .returned (.bool true) ∧ Below w.heap.size w w' := by
  have g0 := Lib.hid awake_any
  have g1 := fun w => compare_any no sq of no' sq' of' w
  have g2 := fun w => refCompare_any no sq of no' sq' of' w
  have g3 := fun w => less_any no sq of de pr bo li to da no' sq' of' de' pr' bo' li' to' da' (i64_of wb) (i64_of wl) (i64_of wb') (i64_of wl') w
  have g4 := fun w => refLess_any no sq of de pr bo li to da no' sq' of' de' pr' bo' li' to' da' (i64_of wb) (i64_of wl) (i64_of wb') (i64_of wl') w
  have g5 := fun w => same_any no sq of de pr bo li to da no' sq' of' de' pr' bo' li' to' da' w
  have g6 := fun w => refSame_any no sq of de pr bo li to da no' sq' of' de' pr' bo' li' to' da' w
  have g7 := fun w => same_any no sq of de pr bo li to da no sq of de pr bo li to da w
  rw [sameB_refl] at g7
  obtain ⟨c, hc⟩ : ∃ r, cmpI no sq of no' sq' of' = r := ⟨_, rfl⟩
  obtain ⟨l, hl⟩ : ∃ r, lessB no sq of pr bo li no' sq' of' pr' bo' li' = r := ⟨_, rfl⟩
  obtain ⟨s, hs⟩ : ∃ r, sameB no sq of de pr bo li to da no' sq' of' de' pr' bo' li' to' da' = r := ⟨_, rfl⟩
  rw [hc] at g1 g2; rw [hl] at g3 g4; rw [hs] at g5 g6
  clear hc hl hs wb wl wb' wl'
  replace g1 := Lib.hid g1; replace g2 := Lib.hid g2; replace g3 := Lib.hid g3; replace g4 := Lib.hid g4
  replace g5 := Lib.hid g5; replace g6 := Lib.hid g6; replace g7 := Lib.hid g7
  unfold maxLen at hda hda'
  by_cases h1 : 1100 < da.size
  · go_enter Tryd.func6, Tryd.ntmps6
    go_wp2_with (go_at_call 12; (with_reducible refine (g0.out _).mono ?_); rintro e wa ⟨rfl, ha⟩)
    go_ret
    exact ⟨rfl, by (repeat (first | (with_reducible assumption) | (with_reducible exact Below.refl _ _) | (with_reducible refine beld_drew ?_) | ((with_reducible refine bset' ?_ ?_); (first | (focus (dsimp only; assumption)) | (focus (simp; done)) | (focus (dsimp only; omega)))) | (with_reducible refine belt_alloc ?_) | ((with_reducible refine zeroed_below' ?_ ?_); (first | (focus (simp; done)) | (focus (dsimp only; omega)))) | (with_reducible refine bt ?_ (by assumption))))⟩
  · by_cases h2 : 1100 < da'.size
    · go_enter Tryd.func6, Tryd.ntmps6
      go_wp2_with (go_at_call 12; (with_reducible refine (g0.out _).mono ?_); rintro e wa ⟨rfl, ha⟩)
      go_ret
      exact ⟨rfl, by (repeat (first | (with_reducible assumption) | (with_reducible exact Below.refl _ _) | (with_reducible refine beld_drew ?_) | ((with_reducible refine bset' ?_ ?_); (first | (focus (dsimp only; assumption)) | (focus (simp; done)) | (focus (dsimp only; omega)))) | (with_reducible refine belt_alloc ?_) | ((with_reducible refine zeroed_below' ?_ ?_); (first | (focus (simp; done)) | (focus (dsimp only; omega)))) | (with_reducible refine bt ?_ (by assumption))))⟩
    · go_enter Tryd.func6, Tryd.ntmps6
      go_wp2
      refine wp_region_in (by kernel_rfl) (by kernel_rfl) ?_
      intro W0_1 hE_1 hN_1
      have bW0_1 : Below w.heap.size w W0_1 := (by rw [hE_1.out]; (repeat (first | (with_reducible assumption) | (with_reducible exact Below.refl _ _) | (with_reducible refine beld_drew ?_) | ((with_reducible refine bset' ?_ ?_); (first | (focus (dsimp only; assumption)) | (focus (simp; done)) | (focus (dsimp only; omega)))) | (with_reducible refine belt_alloc ?_) | ((with_reducible refine zeroed_below' ?_ ?_); (first | (focus (simp; done)) | (focus (dsimp only; omega)))) | (with_reducible refine bt ?_ (by assumption)))))
      have kk2 : blk W0_1 (w.heap.size) = some #[.int .i64 no, .int .u64 sq, .int .i64 of, .int .i64 de, .int .i64 pr, .int .i64 bo, .int .i64 li, .int .i64 to, .string da] := (by rw [hE_1.out]; (apply blk_to; (focus (repeat (first | (with_reducible assumption) | (with_reducible apply blk_drew) | (with_reducible apply blk_set) | ((with_reducible apply blk_other'); (first | (focus (dsimp only; assumption)) | (focus (simp; done)) | (focus (dsimp only; omega)))) | ((with_reducible apply blk_alloc_new); (first | (with_reducible rfl) | (focus (simp; done)) | (focus (simp; omega)))) | (with_reducible apply blk_alloc) | ((with_reducible apply blk_below); (with_reducible assumption))))); rfl))
      have kn2 := calm_kn kk2
      have kk3 : blk W0_1 (w.heap.size + 1) = some #[.int .i64 no', .int .u64 sq', .int .i64 of', .int .i64 de', .int .i64 pr', .int .i64 bo', .int .i64 li', .int .i64 to', .string da'] := (by rw [hE_1.out]; (apply blk_to; (focus (repeat (first | (with_reducible assumption) | (with_reducible apply blk_drew) | (with_reducible apply blk_set) | ((with_reducible apply blk_other'); (first | (focus (dsimp only; assumption)) | (focus (simp; done)) | (focus (dsimp only; omega)))) | ((with_reducible apply blk_alloc_new); (first | (with_reducible rfl) | (focus (simp; done)) | (focus (simp; omega)))) | (with_reducible apply blk_alloc) | ((with_reducible apply blk_below); (with_reducible assumption))))); rfl))
      have kn3 := calm_kn kk3
      clear hE_1
      repeat (go_big_quiet_step ((first | (go_at_call 12; (with_reducible refine Class.go _ (g0.out _))) | (go_at_call 23; (with_reducible refine Class.go _ (g1.out _))) | (go_at_call 25; (with_reducible refine Class.go _ (g2.out _))) | (go_at_call 24; (with_reducible refine Class.go _ (g3.out _))) | (go_at_call 26; (with_reducible refine Class.go _ (g4.out _))) | (go_at_call 27; (with_reducible refine Class.go _ (g5.out _))) | (go_at_call 28; (with_reducible refine Class.go _ (g6.out _))) | (go_at_call 27; (with_reducible refine Class.go _ (g7.out _))))))
      refine wpQuiet_nil ?_
      rintro _ ⟨x_1, rfl⟩
      have hx_1 : Calm W0_1 x_1.wd := x_1.ok
      have bwn : Below w.heap.size w x_1.wd := bt bW0_1 hx_1
      clear kn2; replace kk2 := blk_below hx_1 kk2; have kn2 := kn kk2
      clear kn3; replace kk3 := blk_below hx_1 kk3; have kn3 := kn kk3
      clear hx_1 bW0_1 hN_1
      generalize x_1.wd = wn at *
      go_wp2
      go_ret
      exact ⟨rfl, bwn⟩
end Go.Proofs.YtdbmiijnedkipaaDoor
