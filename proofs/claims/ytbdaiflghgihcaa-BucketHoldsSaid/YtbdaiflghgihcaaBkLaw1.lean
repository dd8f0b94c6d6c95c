/- The walks of what the bucket's statements use: Mod, At, made, example, waits, awake. -/
import Derived.Test.YtbdaiflghgihcaaBkProg2
import Derived.Test.YtbdaiflghgihcaaSlice
namespace Go.Proofs.Ytbdaiflghgihcaa
set_option linter.unusedVariables false
open Go.RowKit

theorem beld_drew {B : Nat} {w W : World} (h : Below B w W) : Below B w W.drew := h.drew

theorem emod_tmod (a n : Int) (h : 1 ≤ n) : (a.tmod n < 0 → a % n = a.tmod n + n) ∧ (¬ a.tmod n < 0 → a % n = a.tmod n) ∧ -n < a.tmod n ∧ a.tmod n < n := by
  have h1 := Int.emod_nonneg a (show n ≠ 0 by omega)
  have h2 := Int.emod_lt_of_pos a (show 0 < n by omega)
  have h3 := Int.tmod_eq_emod (a := a) (b := n)
  split at h3 <;> omega

set_option maxRecDepth 100000 in
theorem mod_any (a n : Int) (w : World) (h1 : 1 ≤ n) (h2 : n ≤ 1152921504606846976) :
    Calls Try.prog 25 #[.int .i64 a, .int .i64 n] w fun e w' => e = .returned (.int .i64 (a % n)) ∧ w = w' := by
  obtain ⟨m1, m2, m3, m4⟩ := emod_tmod a n h1
  have hz : (n == 0) = false := by simp; omega
  have e1 : IntKind.i64.wrap (a.tmod n) = a.tmod n := IntWalk.i64_in _ (by omega)
  have e2 : IntKind.i64.wrap (a.tmod n + n) = a.tmod n + n := IntWalk.i64_in _ (by omega)
  by_cases c : a.tmod n < 0
  · rw [m1 c]
    clear m1 m2
    go_enter Try.func25, Try.ntmps25
    go_wp2
    go_ret
    exact ⟨rfl, rfl⟩
  · rw [m2 c]
    clear m1 m2
    go_enter Try.func25, Try.ntmps25
    go_wp2
    go_ret
    exact ⟨rfl, rfl⟩

set_option maxRecDepth 100000 in
theorem at_any (a : Option Addr) (cap : Nat) (zs : List Int) (k : Nat) (w : World) (h : Row .i64 w a cap zs) (hk : k ≤ 100) :
    Calls Try.prog 55 #[.slice a zs.length cap, .int .i64 k] w fun e w' => e = .returned (.int .i64 (zs.getD k 0)) ∧ w = w' := by
  obtain ⟨r1, r2, _, _, r3⟩ := h
  unfold maxLen at r2
  by_cases c : k < zs.length
  · obtain ⟨b, off, rfl, _, hc⟩ := r3 (by omega)
    have hk1 := hc k c
    clear hc r3
    obtain ⟨x, hx⟩ : ∃ x, x = zs[k] := ⟨_, rfl⟩
    have hv : zs.getD k 0 = x := by rw [hx, List.getD_eq_getElem?_getD, List.getElem?_eq_getElem c]; rfl
    rw [← hx] at hk1
    rw [hv]
    clear hv hx
    have c' : (k : Int) < (zs.length : Int) := by omega
    go_enter Try.func55, Try.ntmps55
    go_wp2
    go_ret
    exact ⟨rfl, rfl⟩
  · have hv : zs.getD k 0 = 0 := by rw [List.getD_eq_getElem?_getD, List.getElem?_eq_none (by omega)]; rfl
    rw [hv]
    clear hv r3
    have c' : (zs.length : Int) ≤ (k : Int) := by omega
    go_enter Try.func55, Try.ntmps55
    go_wp2
    go_ret
    exact ⟨rfl, rfl⟩

theorem cmake (w : World) : Calls Try.prog 33 #[.int .i64 3, .int .i64 2, .int .i64 10, .int .i64 0] w fun e w' => e = .returned (.tuple #[bkv 3 2 10 20 0, .int .i64 0]) ∧ Below w.heap.size w w' := by
  have := make_any 3 2 10 0 w; rwa [show makeB 3 2 10 0 = ((3, 2, 10, 20, 0), 0) by decide] at this
theorem ctake (w : World) : Calls Try.prog 29 #[bkv 3 2 10 20 0, .int .i64 10] w fun e w' => e = .returned (.tuple #[bkv 3 2 10 0 0, .int .i64 0]) ∧ Below w.heap.size w w' := by
  have := take_any 3 2 10 20 0 10 w; rwa [show takeB 3 2 10 20 0 10 = ((3, 2, 10, 0, 0), 0) by decide] at this

set_option maxRecDepth 100000 in
set_option maxHeartbeats 1600000 in
theorem example_any (w : World) : Calls Try.prog 30 #[] w fun e w' => e = .returned (.tuple #[bkv 3 2 10 0 0, .bool true]) ∧ Below w.heap.size w w' := by
  go_enter Try.func30, Try.ntmps30
  go_wp2_with (first | (go_at_call 33; refine (cmake _).mono ?_; rintro e wb ⟨rfl, hb⟩; have k0 : blk wb w.heap.size = some #[.int .i64 0, .int .i64 0, .int .i64 0, .int .i64 0, .int .i64 0] := (by (apply blk_to; (focus (repeat (first | (with_reducible assumption) | (with_reducible apply blk_set) | ((with_reducible apply blk_other'); (first | (focus (simp; done)) | (focus (dsimp only; omega)) | (focus (dsimp only; assumption)))) | ((with_reducible apply blk_alloc_new); (first | rfl | (focus (simp; done)) | (focus (simp; omega)))) | (with_reducible apply blk_alloc) | ((with_reducible apply blk_below); (with_reducible assumption))))); rfl)); have k05 := blk5 k0) | (go_at_call 29; refine (ctake _).mono ?_; rintro e wd ⟨rfl, hd⟩; have kr : blk wd w.heap.size = some #[.int .i64 0, .int .i64 0, .int .i64 0, .int .i64 0, .int .i64 0] := (by (apply blk_to; (focus (repeat (first | (with_reducible assumption) | (with_reducible apply blk_set) | ((with_reducible apply blk_other'); (first | (focus (simp; done)) | (focus (dsimp only; omega)) | (focus (dsimp only; assumption)))) | ((with_reducible apply blk_alloc_new); (first | rfl | (focus (simp; done)) | (focus (simp; omega)))) | (with_reducible apply blk_alloc) | ((with_reducible apply blk_below); (with_reducible assumption))))); rfl)); have kr5 := blk5 kr; have kq : blk wd wb.heap.size = some #[.int .i64 3, .int .i64 2, .int .i64 10, .int .i64 20, .int .i64 0] := (by (apply blk_to; (focus (repeat (first | (with_reducible assumption) | (with_reducible apply blk_set) | ((with_reducible apply blk_other'); (first | (focus (simp; done)) | (focus (dsimp only; omega)) | (focus (dsimp only; assumption)))) | ((with_reducible apply blk_alloc_new); (first | rfl | (focus (simp; done)) | (focus (simp; omega)))) | (with_reducible apply blk_alloc) | ((with_reducible apply blk_below); (with_reducible assumption))))); rfl)); have kq5 := blk5 kq; have l1 := blk_lt k0; have l2 := blk_lt kq; have l3 := blk_lt kr; have n1 : w.heap.size ≠ wb.heap.size := Nat.ne_of_lt l1; have n2 : wb.heap.size ≠ wd.heap.size := Nat.ne_of_lt l2; have n3 : w.heap.size ≠ wd.heap.size := Nat.ne_of_lt l3; have m1 := n1.symm; have m2 := n2.symm; have m3 := n3.symm))
  go_region
  go_wp2
  refine ret_blk (b := w.heap.size) (c := #[.int .i64 3, .int .i64 2, .int .i64 10, .int .i64 0, .int .i64 0]) (v := .tuple #[bkv 3 2 10 0 0, .bool true]) (by (apply blk_to; (focus (repeat (first | (with_reducible assumption) | (with_reducible apply blk_drew) | (with_reducible apply blk_set) | ((with_reducible apply blk_other'); (first | (focus (simp; done)) | (focus (dsimp only; omega)) | (focus (dsimp only; assumption)))) | ((with_reducible apply blk_alloc_new); (first | rfl | (focus (simp; done)) | (focus (simp; omega)))) | (with_reducible apply blk_alloc) | ((with_reducible apply blk_below); (with_reducible assumption))))); rfl)) (fun W' hc => by simp [results, Try.results30, go_sem, hc]) rfl ⟨rfl, by (repeat (first | (with_reducible exact Below.refl _ _) | (with_reducible refine beld_drew ?_) | ((with_reducible refine bset' ?_ ?_); (first | (focus (simp; done)) | (focus (dsimp only; omega)))) | (with_reducible refine belt_alloc ?_) | ((with_reducible refine zeroed_below' ?_ ?_); (first | (focus (simp; done)) | (focus (dsimp only; omega)))) | (with_reducible refine bt ?_ (by assumption))))⟩

theorem wait_to {rn rd bu lv t n k e : Int} (h : waitB rn rd bu lv t n = (k, e)) (w : World) : Calls Try.prog 28 #[bkv rn rd bu lv t, .int .i64 n] w fun x w' => x = .returned (.tuple #[.int .i64 k, .int .i64 e]) ∧ Below w.heap.size w w' := by
  have := wait_any rn rd bu lv t n w; rwa [h] at this

set_option maxRecDepth 100000 in
set_option maxHeartbeats 1600000 in
theorem waits_any (rn rd bu lv t n k e : Int) (h : waitB rn rd bu lv t n = (k, e)) (w : World) :
    Calls Try.prog 32 #[bkv rn rd bu lv t, .int .i64 n, .int .i64 k, .int .i64 e] w fun x w' => x = .returned (.bool true) ∧ Below w.heap.size w w' := by
  have Hc := Lib.hid (wait_to h); clear h
  go_enter Try.func32, Try.ntmps32
  go_wp2_with (go_at_call 28; (with_reducible refine (Hc.out _).mono ?_); rintro e wb ⟨rfl, hb⟩)
  go_ret
  exact ⟨rfl, by (repeat (first | (with_reducible exact Below.refl _ _) | (with_reducible refine beld_drew ?_) | ((with_reducible refine bset' ?_ ?_); (first | (focus (simp; done)) | (focus (dsimp only; omega)))) | (with_reducible refine belt_alloc ?_) | ((with_reducible refine zeroed_below' ?_ ?_); (first | (focus (simp; done)) | (focus (dsimp only; omega)))) | (with_reducible refine bt ?_ (by assumption))))⟩

set_option maxRecDepth 100000 in
set_option maxHeartbeats 1600000 in
theorem awake_any (w : World) : Calls Try.prog 27 #[] w fun x w' => x = .returned (.bool true) ∧ Below w.heap.size w w' := by
  have g1 := Lib.hid (waits_any 3 2 10 0 0 1 1 0 (by decide))
  have g2 := Lib.hid (waits_any 3 2 10 0 0 10 7 0 (by decide))
  have g3 := Lib.hid (waits_any 3 2 10 0 0 11 0 5 (by decide))
  go_enter Try.func27, Try.ntmps27
  go_wp2_with (first
    | (go_at_call 30; (with_reducible refine (example_any _).mono ?_); rintro e wb ⟨rfl, hb⟩)
    | (go_at_call 32; (with_reducible refine (g1.out _).mono ?_); rintro e w1 ⟨rfl, hb1⟩; have k1 : blk w1 wb.heap.size = some #[.int .i64 3, .int .i64 2, .int .i64 10, .int .i64 0, .int .i64 0] := (by (apply blk_to; (focus (repeat (first | (with_reducible assumption) | (with_reducible apply blk_drew) | (with_reducible apply blk_set) | ((with_reducible apply blk_other'); (first | (focus (simp; done)) | (focus (dsimp only; omega)) | (focus (dsimp only; assumption)))) | ((with_reducible apply blk_alloc_new); (first | rfl | (focus (simp; done)) | (focus (simp; omega)))) | (with_reducible apply blk_alloc) | ((with_reducible apply blk_below); (with_reducible assumption))))); rfl)); have k15 := blk5 k1)
    | (go_at_call 32; (with_reducible refine (g2.out _).mono ?_); rintro e w2 ⟨rfl, hb2⟩; have k2 : blk w2 wb.heap.size = some #[.int .i64 3, .int .i64 2, .int .i64 10, .int .i64 0, .int .i64 0] := (by (apply blk_to; (focus (repeat (first | (with_reducible assumption) | (with_reducible apply blk_drew) | (with_reducible apply blk_set) | ((with_reducible apply blk_other'); (first | (focus (simp; done)) | (focus (dsimp only; omega)) | (focus (dsimp only; assumption)))) | ((with_reducible apply blk_alloc_new); (first | rfl | (focus (simp; done)) | (focus (simp; omega)))) | (with_reducible apply blk_alloc) | ((with_reducible apply blk_below); (with_reducible assumption))))); rfl)); have k25 := blk5 k2)
    | (go_at_call 32; (with_reducible refine (g3.out _).mono ?_); rintro e w3 ⟨rfl, hb3⟩))
  go_ret
  exact ⟨rfl, by (repeat (first | (with_reducible exact Below.refl _ _) | (with_reducible refine beld_drew ?_) | ((with_reducible refine bset' ?_ ?_); (first | (focus (simp; done)) | (focus (dsimp only; omega)))) | (with_reducible refine belt_alloc ?_) | ((with_reducible refine zeroed_below' ?_ ?_); (first | (focus (simp; done)) | (focus (dsimp only; omega)))) | (with_reducible refine bt ?_ (by assumption))))⟩

end Go.Proofs.Ytbdaiflghgihcaa
