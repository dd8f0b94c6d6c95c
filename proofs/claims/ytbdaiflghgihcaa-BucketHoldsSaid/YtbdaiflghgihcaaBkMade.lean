/- The walk of made: a bucket made of numbers. -/
import Derived.Test.YtbdaiflghgihcaaBkLaw1
namespace Go.Proofs.Ytbdaiflghgihcaa
set_option linter.unusedVariables false
open Go.RowKit

theorem Class.call_same {C : World → Prop} {P : Program} {f : FuncId} {args : Array Value} {v : Value} (x : Class C)
    (h : Calls P f args x.wd fun e w' => e = .returned v ∧ x.wd = w') : Calls P f args x.wd fun e w' => e = .returned v ∧ ∃ y : Class C, w' = y.wd :=
  h.mono fun e w' ⟨he, hb⟩ => ⟨he, x, hb.symm⟩

set_option maxRecDepth 100000 in
set_option maxHeartbeats 1600000 in
theorem made_any (a : Option Addr) (cap : Nat) (zs : List Int) (hrow : ∀ z ∈ zs, (Lit.int .i64 z).wf = true) : ∃ rn rd bu lv : Int, (0 ≤ rn ∧ rn ≤ 11) ∧ (1 ≤ rd ∧ rd ≤ 7) ∧ (1 ≤ bu ∧ bu ≤ 30) ∧ (0 ≤ lv ∧ lv ≤ bu * rd) ∧
    ∀ w : World, Row .i64 w a cap zs → Calls Try.prog 24 #[.slice a zs.length cap] w fun x w' => x = .returned (bkv rn rd bu lv 5) ∧ Below w.heap.size w w' := by
  refine ⟨zs.getD 0 0 % 12, 1 + zs.getD 1 0 % 7, 1 + zs.getD 2 0 % 30, zs.getD 3 0 % ((1 + zs.getD 2 0 % 30) * (1 + zs.getD 1 0 % 7) + 1), by omega, by omega, by omega, ?_, ?_⟩
  · have hp := prod_bd (show 0 ≤ 1 + zs.getD 2 0 % 30 by omega) (show 1 + zs.getD 2 0 % 30 ≤ 30 by omega) (show 0 ≤ 1 + zs.getD 1 0 % 7 by omega) (show 1 + zs.getD 1 0 % 7 ≤ 7 by omega) 210 (by omega)
    have h1 := Int.emod_nonneg (zs.getD 3 0) (show (1 + zs.getD 2 0 % 30) * (1 + zs.getD 1 0 % 7) + 1 ≠ 0 by omega)
    have h2 := Int.emod_lt_of_pos (zs.getD 3 0) (show 0 < (1 + zs.getD 2 0 % 30) * (1 + zs.getD 1 0 % 7) + 1 by omega)
    omega
  intro w hw
  have Hw := Lib.hid hw
  have cap0 := hw.2.1
  have cap1 := hw.1
  unfold maxLen at cap0
  clear hw
  obtain ⟨z0, hz0⟩ : ∃ z, z = zs.getD 0 0 := ⟨_, rfl⟩
  obtain ⟨z1, hz1⟩ : ∃ z, z = zs.getD 1 0 := ⟨_, rfl⟩
  obtain ⟨z2, hz2⟩ : ∃ z, z = zs.getD 2 0 := ⟨_, rfl⟩
  obtain ⟨z3, hz3⟩ : ∃ z, z = zs.getD 3 0 := ⟨_, rfl⟩
  have a0 : ∀ W, Row .i64 W a cap zs → Calls Try.prog 55 #[.slice a zs.length cap, .int .i64 0] W fun e w' => e = .returned (.int .i64 z0) ∧ W = w' := fun W h => by rw [hz0]; exact at_any a cap zs 0 W h (by omega)
  have a1 : ∀ W, Row .i64 W a cap zs → Calls Try.prog 55 #[.slice a zs.length cap, .int .i64 1] W fun e w' => e = .returned (.int .i64 z1) ∧ W = w' := fun W h => by rw [hz1]; exact at_any a cap zs 1 W h (by omega)
  have a2 : ∀ W, Row .i64 W a cap zs → Calls Try.prog 55 #[.slice a zs.length cap, .int .i64 2] W fun e w' => e = .returned (.int .i64 z2) ∧ W = w' := fun W h => by rw [hz2]; exact at_any a cap zs 2 W h (by omega)
  have a3 : ∀ W, Row .i64 W a cap zs → Calls Try.prog 55 #[.slice a zs.length cap, .int .i64 3] W fun e w' => e = .returned (.int .i64 z3) ∧ W = w' := fun W h => by rw [hz3]; exact at_any a cap zs 3 W h (by omega)
  rw [← hz0, ← hz1, ← hz2, ← hz3]
  clear hz0 hz1 hz2 hz3
  have A0 := Lib.hid a0; clear a0
  have A1 := Lib.hid a1; clear a1
  have A2 := Lib.hid a2; clear a2
  have A3 := Lib.hid a3; clear a3
  have hp := prod_bd (show 0 ≤ 1 + z2 % 30 by omega) (show 1 + z2 % 30 ≤ 30 by omega) (show 0 ≤ 1 + z1 % 7 by omega) (show 1 + z1 % 7 ≤ 7 by omega) 210 (by omega)
  obtain ⟨rd, hrd⟩ : ∃ r, r = 1 + z1 % 7 := ⟨_, rfl⟩
  obtain ⟨bu, hbu⟩ : ∃ r, r = 1 + z2 % 30 := ⟨_, rfl⟩
  have m0 := fun W => mod_any z0 12 W (by omega) (by omega)
  have m1 := fun W => mod_any z1 7 W (by omega) (by omega)
  have m2 := fun W => mod_any z2 30 W (by omega) (by omega)
  have e1 : IntKind.i64.wrap (1 + z1 % 7) = rd := by rw [hrd]; exact IntWalk.i64_in _ (by omega)
  have e2 : IntKind.i64.wrap (1 + z2 % 30) = bu := by rw [hbu]; exact IntWalk.i64_in _ (by omega)
  rw [← hrd, ← hbu] at hp
  rw [← hrd, ← hbu]
  have e3 : IntKind.i64.wrap (bu * rd) = bu * rd := IntWalk.i64_in _ (by omega)
  have e4 : IntKind.i64.wrap (bu * rd + 1) = bu * rd + 1 := IntWalk.i64_in _ (by omega)
  have m3 := fun W => mod_any z3 (bu * rd + 1) W (by omega) (by omega)
  obtain ⟨rn, hrn⟩ : ∃ r, r = z0 % 12 := ⟨_, rfl⟩
  rw [← hrn] at m0
  rw [← hrn]
  obtain ⟨lv, hlv⟩ : ∃ r, r = z3 % (bu * rd + 1) := ⟨_, rfl⟩
  rw [← hlv] at m3
  rw [← hlv]
  have M0 := Lib.hid m0; clear m0
  have M1 := Lib.hid m1; clear m1
  have M2 := Lib.hid m2; clear m2
  have M3 := Lib.hid m3; clear m3
  clear hrd hbu hrn hlv
  go_enter Try.func24, Try.ntmps24
  go_wp2_with (first | (go_at_call 55; (with_reducible refine (A0.out _ (Hw.out.below (by (repeat (first | (with_reducible exact Below.refl _ _) | (with_reducible refine beld_drew ?_) | ((with_reducible refine bset' ?_ ?_); (first | (focus (simp; done)) | (focus (dsimp only; omega)))) | (with_reducible refine belt_alloc ?_) | ((with_reducible refine zeroed_below' ?_ ?_); (first | (focus (simp; done)) | (focus (dsimp only; omega)))) | (with_reducible refine bt ?_ (by assumption))))))).mono ?_); rintro e wx ⟨rfl, rfl⟩) | (go_at_call 55; (with_reducible refine (A1.out _ (Hw.out.below (by (repeat (first | (with_reducible exact Below.refl _ _) | (with_reducible refine beld_drew ?_) | ((with_reducible refine bset' ?_ ?_); (first | (focus (simp; done)) | (focus (dsimp only; omega)))) | (with_reducible refine belt_alloc ?_) | ((with_reducible refine zeroed_below' ?_ ?_); (first | (focus (simp; done)) | (focus (dsimp only; omega)))) | (with_reducible refine bt ?_ (by assumption))))))).mono ?_); rintro e wx ⟨rfl, rfl⟩) | (go_at_call 55; (with_reducible refine (A2.out _ (Hw.out.below (by (repeat (first | (with_reducible exact Below.refl _ _) | (with_reducible refine beld_drew ?_) | ((with_reducible refine bset' ?_ ?_); (first | (focus (simp; done)) | (focus (dsimp only; omega)))) | (with_reducible refine belt_alloc ?_) | ((with_reducible refine zeroed_below' ?_ ?_); (first | (focus (simp; done)) | (focus (dsimp only; omega)))) | (with_reducible refine bt ?_ (by assumption))))))).mono ?_); rintro e wx ⟨rfl, rfl⟩) | (go_at_call 25; (with_reducible refine (M0.out _).mono ?_); rintro e wx ⟨rfl, rfl⟩) | (go_at_call 25; (with_reducible refine (M1.out _).mono ?_); rintro e wx ⟨rfl, rfl⟩) | (go_at_call 25; (with_reducible refine (M2.out _).mono ?_); rintro e wx ⟨rfl, rfl⟩))
  let C0 : World → Prop := fun W => Below w.heap.size w W ∧ blk W w.heap.size = some #[.int .i64 0, .int .i64 0, .int .i64 0, .int .i64 0, .int .i64 0] ∧ blk W (w.heap.size + 1) = some #[.int .i64 rn, .int .i64 rd, .int .i64 bu, .int .i64 0, .int .i64 5]
  have hU : ∀ x : Class C0, Below w.heap.size w x.wd ∧ blk x.wd w.heap.size = some #[.int .i64 0, .int .i64 0, .int .i64 0, .int .i64 0, .int .i64 0] ∧ blk x.wd (w.heap.size + 1) = some #[.int .i64 rn, .int .i64 rd, .int .i64 bu, .int .i64 0, .int .i64 5] := fun x => x.ok
  have hR : ∀ x : Class C0, Row .i64 x.wd a cap zs := fun x => Hw.out.below x.ok.1
  have HR := Lib.hid hR; clear hR
  have hp5 : ∀ x : Class C0, _ := fun x => blk5 x.ok.2.2
  have hC : C0 ((w.alloc (.cells #[.int .i64 0, .int .i64 0, .int .i64 0, .int .i64 0, .int .i64 0] 37)).alloc (.cells #[.int .i64 rn, .int .i64 rd, .int .i64 bu, .int .i64 0, .int .i64 5] 37)).drew := ⟨by (repeat (first | (with_reducible exact Below.refl _ _) | (with_reducible refine beld_drew ?_) | ((with_reducible refine bset' ?_ ?_); (first | (focus (simp; done)) | (focus (dsimp only; omega)))) | (with_reducible refine belt_alloc ?_) | ((with_reducible refine zeroed_below' ?_ ?_); (first | (focus (simp; done)) | (focus (dsimp only; omega)))) | (with_reducible refine bt ?_ (by assumption)))), by (apply blk_to; (focus (repeat (first | (with_reducible assumption) | (with_reducible apply blk_drew) | (with_reducible apply blk_set) | ((with_reducible apply blk_other'); (first | (focus (simp; done)) | (focus (dsimp only; omega)) | (focus (dsimp only; assumption)))) | ((with_reducible apply blk_alloc_new); (first | rfl | (focus (simp; done)) | (focus (simp; omega)))) | (with_reducible apply blk_alloc) | ((with_reducible apply blk_below); (with_reducible assumption))))); rfl), by (apply blk_to; (focus (repeat (first | (with_reducible assumption) | (with_reducible apply blk_drew) | (with_reducible apply blk_set) | ((with_reducible apply blk_other'); (first | (focus (simp; done)) | (focus (dsimp only; omega)) | (focus (dsimp only; assumption)))) | ((with_reducible apply blk_alloc_new); (first | rfl | (focus (simp; done)) | (focus (simp; omega)))) | (with_reducible apply blk_alloc) | ((with_reducible apply blk_below); (with_reducible assumption))))); rfl)⟩
  haveI : Nonempty (Class C0) := ⟨⟨_, hC⟩⟩
  clear_value C0
  refine wp_region_qtail0 (C := fun w' => ∃ x : Class C0, w' = x.wd) 9 (by kernel_rfl) (by kernel_rfl) (by kernel_rfl) (by decide) (by kernel_rfl) ⟨⟨_, hC⟩, rfl⟩ ?_
  simp only [List.take_succ_cons, List.take_zero, List.drop_succ_cons, List.drop_zero]
  repeat (go_big_quiet_step (first | (go_at_call 55; exact Class.call_same _ (A3.out _ (HR.out _))) | (go_at_call 25; exact Class.call_same _ (M3.out _))))
  refine wpQuiet_nil ?_
  rintro _ ⟨x, rfl⟩
  obtain ⟨hW, k0, k1⟩ := hU x
  have k05 := blk5 k0
  have k15 := blk5 k1
  clear hU hp5 hC HR
  generalize x.wd = W at *
  go_wp2
  refine ret_blk (b := w.heap.size) (c := #[.int .i64 rn, .int .i64 rd, .int .i64 bu, .int .i64 lv, .int .i64 5]) (v := bkv rn rd bu lv 5) (by (apply blk_to; (focus (repeat (first | (with_reducible assumption) | (with_reducible apply blk_drew) | (with_reducible apply blk_set) | ((with_reducible apply blk_other'); (first | (focus (simp; done)) | (focus (dsimp only; omega)) | (focus (dsimp only; assumption)))) | ((with_reducible apply blk_alloc_new); (first | rfl | (focus (simp; done)) | (focus (simp; omega)))) | (with_reducible apply blk_alloc) | ((with_reducible apply blk_below); (with_reducible assumption))))); rfl)) (fun W' hc => by simp [results, Try.results24, go_sem, hc]) rfl ⟨rfl, by (repeat (first | (with_reducible exact Below.refl _ _) | (with_reducible refine beld_drew ?_) | ((with_reducible refine bset' ?_ ?_); (first | (focus (simp; done)) | (focus (dsimp only; omega)))) | (with_reducible refine belt_alloc ?_) | ((with_reducible refine zeroed_below' ?_ ?_); (first | (focus (simp; done)) | (focus (dsimp only; omega)))) | (with_reducible refine bt ?_ (by assumption))))⟩
end Go.Proofs.Ytbdaiflghgihcaa
