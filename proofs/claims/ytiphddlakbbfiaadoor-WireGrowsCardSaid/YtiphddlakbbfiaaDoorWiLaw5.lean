/- WireGrows: how sizes grow, and what fits. Written by gen_wigrows.py. -/
import Derived.Test.YtiphddlakbbfiaaDoorWiLaw4
namespace Go.Proofs.YtiphddlakbbfiaaDoor
set_option linter.unusedVariables false
open Go.RowKit
set_option maxRecDepth 100000 in
set_option maxHeartbeats 800000 in
theorem lawWhole_any (no sq of de pr bo li to : Int) (da : ByteArray) (hda : da.size ≤ maxLen) (w : World) :
    Calls Tryd.prog 26 #[buv no sq of de pr bo li to da] w fun e w' => e = .returned (.bool (wholeB of to da.size)) ∧ Below w.heap.size w w' := by
  unfold maxLen at hda
  unfold wholeB
  by_cases h1 : of = 0
  · subst h1
    by_cases h2 : to = (da.size : Int)
    · rw [show decide ((0 : Int) = 0 ∧ to = (da.size : Int)) = true by simp [h2]]
      subst h2
      go_enter Tryd.func26, Tryd.ntmps26
      go_wp2
      go_ret
      exact ⟨rfl, by (repeat (first | (with_reducible assumption) | (with_reducible exact Below.refl _ _) | (with_reducible refine beld_drew ?_) | ((with_reducible refine bset' ?_ ?_); (first | (focus (dsimp only; assumption)) | (focus (simp; done)) | (focus (dsimp only; omega)))) | (with_reducible refine belt_alloc ?_) | ((with_reducible refine zeroed_below' ?_ ?_); (first | (focus (simp; done)) | (focus (dsimp only; omega)))) | (with_reducible refine bt ?_ (by assumption))))⟩
    · rw [show decide ((0 : Int) = 0 ∧ to = (da.size : Int)) = false by simp [h2]]
      have e2 : (to == (da.size : Int)) = false := by simp [h2]
      go_enter Tryd.func26, Tryd.ntmps26
      go_wp2
      go_ret
      exact ⟨rfl, by (repeat (first | (with_reducible assumption) | (with_reducible exact Below.refl _ _) | (with_reducible refine beld_drew ?_) | ((with_reducible refine bset' ?_ ?_); (first | (focus (dsimp only; assumption)) | (focus (simp; done)) | (focus (dsimp only; omega)))) | (with_reducible refine belt_alloc ?_) | ((with_reducible refine zeroed_below' ?_ ?_); (first | (focus (simp; done)) | (focus (dsimp only; omega)))) | (with_reducible refine bt ?_ (by assumption))))⟩
  · rw [show decide (of = 0 ∧ to = (da.size : Int)) = false by simp [h1]]
    have e1 : (of == 0) = false := by simp [h1]
    go_enter Tryd.func26, Tryd.ntmps26
    go_wp2
    go_ret
    exact ⟨rfl, by (repeat (first | (with_reducible assumption) | (with_reducible exact Below.refl _ _) | (with_reducible refine beld_drew ?_) | ((with_reducible refine bset' ?_ ?_); (first | (focus (dsimp only; assumption)) | (focus (simp; done)) | (focus (dsimp only; omega)))) | (with_reducible refine belt_alloc ?_) | ((with_reducible refine zeroed_below' ?_ ?_); (first | (focus (simp; done)) | (focus (dsimp only; omega)))) | (with_reducible refine bt ?_ (by assumption))))⟩
theorem putN_step : ∀ n, n < 302 → (putN (n + 1)).length = (putN n).length ∨ (putN (n + 1)).length = (putN n).length + 1 := by decide +kernel
theorem szN_step (F n : Nat) (h : n < 302) : szN F (n + 1) = szN F n + 1 ∨ szN F (n + 1) = szN F n + 2 := by
  unfold szN
  rcases putN_step n h with h | h <;> omega
set_option maxRecDepth 100000 in
set_option maxHeartbeats 3200000 in
theorem grows_A1 (a0 : Option Addr) (cap0 : Nat) (zs : List Int) (size : Int) (z1 : zs.length ≤ cap0) (z2 : cap0 ≤ 2 ^ 63 - 1) (hlong : ¬ 320 < zs.length) (no sq of de pr bo li to : Nat) (da dy : ByteArray) (hdy : da ++ ⟨#[121]⟩ = dy) (hv : buC no sq of de pr bo li to da.size = 0) (hd : da.size ≤ 300) (hc : (of : Int) + ((da.size : Int) + 1) ≤ (to : Int)) (hwb : wholeB of to da.size = true)
    (w : World) (hR : Row .i64 w a0 cap0 zs) (hH : HTab w) (hT : STab w) (gm : ∀ w, Row .i64 w a0 cap0 zs → Calls Tryd.prog 24 #[.slice a0 zs.length cap0] w fun e w' => e = .returned (buv no sq of de pr bo li to da) ∧ Below w.heap.size w w') :
    Calls Tryd.prog 9 #[.slice a0 zs.length cap0, .int .i64 size] w fun e w' => e = .returned (.bool true) ∧ Below w.heap.size w w' := by
  have HT := Lib.hid hH; have ST := Lib.hid hT; have HR := Lib.hid hR
  have g0 := Lib.hid known_any
  have hbn := buC_nat hv
  have hyz : dy.size = da.size + 1 := by rw [← hdy, ByteArray.size_append]; rfl
  obtain ⟨F, hF⟩ : ∃ F, frLen no sq of de pr bo li to (wholeB of to da.size) = F := ⟨_, rfl⟩
  have hFl := frLen_le no sq of de pr bo li to (wholeB of to da.size)
  rw [hF] at hFl
  have hP := putN_length da.size
  have gs := fun w h => size_ok no sq of de pr bo li to da hv w h
  rw [hF] at gs
  have hsz : szN F da.size ≤ 400 := by unfold szN; omega
  have gr1 := fun w h => room_ok no sq of de pr bo li to (szN F da.size : Nat) da hv (by omega) w h
  rw [hF, roomGo_exact F da.size (by omega)] at gr1
  obtain ⟨k, ek, lk⟩ := nat_mod size 1100 (by omega)
  have gn : ∀ w, Calls Tryd.prog 25 #[.int .i64 size, .int .i64 1100] w fun e w' => e = .returned (.int .i64 (k : Int)) ∧ w = w' := fun w => by have := mod_any size 1100 w (by omega) (by omega); rwa [ek] at this
  have gr2 := fun w h => room_ok no sq of de pr bo li to (k : Int) da hv (by omega) w h
  have gr3 := fun w h => room_ok no sq of de pr bo li to ((k : Int) + 1) da hv (by omega) w h
  rw [hF] at gr2 gr3
  have hst := roomGo_step F (k : Int)
  have hle := roomGo_le F ((k : Int) + 1) 1000
  obtain ⟨r2, hr2⟩ : ∃ r, roomGo F (k : Int) 1000 = r := ⟨_, rfl⟩
  obtain ⟨r3, hr3⟩ : ∃ r, roomGo F ((k : Int) + 1) 1000 = r := ⟨_, rfl⟩
  rw [hr2] at gr2 hst; rw [hr3] at gr3 hst hle
  obtain ⟨S, hS⟩ : ∃ S, szN F da.size = S := ⟨_, rfl⟩
  have hss := szN_step F da.size (by omega)
  rw [hS] at gs gr1 hsz hss
  have nn : (0 : Int) ≤ (of : Int) := by omega
  have n1 : ¬ (9223372036854775807 < da.size + (⟨#[121]⟩ : ByteArray).size) := by show ¬ (9223372036854775807 < da.size + 1); omega
  have q1 : IntKind.i64.wrap ((of : Int) + ((da.size : Int) + 1)) = (of : Int) + ((da.size : Int) + 1) := IntWalk.i64_in _ (by omega)
  have gw1 := fun w => lawWhole_any no sq of de pr bo li to da (by unfold maxLen; omega) w
  rw [hwb] at gw1
  replace gw1 := Lib.hid gw1
  replace gm := Lib.hid gm; replace gs := Lib.hid gs; replace gr1 := Lib.hid gr1; replace gr2 := Lib.hid gr2; replace gr3 := Lib.hid gr3; replace gn := Lib.hid gn
  have mx : max (to : Int) ((of : Int) + ((da.size : Int) + 1)) = (to : Int) := by omega
  have c0 : (0 : Int) ≤ (r2 : Int) := by omega
  have c1 : (r2 : Int) ≤ (r3 : Int) := by omega
  have c2 : (r3 : Int) ≤ (r2 : Int) + 1 := by omega
  have c3 : (r3 : Int) ≤ 1000 := by omega
  have hyz2 : (dy.size : Int) = (da.size : Int) + 1 := by omega
  clear hR hH hT hv hbn hF hFl hP ek hr2 hr3 hst hle hS hyz hss hwb
  go_enter Tryd.func9, Tryd.ntmps9
  go_wp2_with fail
  (with_reducible refine (g0.out _ HT.out ST.out).mono ?_)
  rintro e w1 ⟨rfl, hw1⟩
  have bw1 : Below w.heap.size w w1 := (by (repeat (first | (with_reducible assumption) | (with_reducible exact Below.refl _ _) | (with_reducible refine beld_drew ?_) | ((with_reducible refine bset' ?_ ?_); (first | (focus (dsimp only; assumption)) | (focus (simp; done)) | (focus (dsimp only; omega)))) | (with_reducible refine belt_alloc ?_) | ((with_reducible refine zeroed_below' ?_ ?_); (first | (focus (simp; done)) | (focus (dsimp only; omega)))) | (with_reducible refine bt ?_ (by assumption)))))
  have sw1 := bw1.size
  clear hw1
  go_wp2_with fail
  (with_reducible refine (gm.out _ (HR.out.below bw1)).mono ?_)
  rintro e w2 ⟨rfl, hw2⟩
  have bw2 : Below w.heap.size w w2 := (by (repeat (first | (with_reducible assumption) | (with_reducible exact Below.refl _ _) | (with_reducible refine beld_drew ?_) | ((with_reducible refine bset' ?_ ?_); (first | (focus (dsimp only; assumption)) | (focus (simp; done)) | (focus (dsimp only; omega)))) | (with_reducible refine belt_alloc ?_) | ((with_reducible refine zeroed_below' ?_ ?_); (first | (focus (simp; done)) | (focus (dsimp only; omega)))) | (with_reducible refine bt ?_ (by assumption)))))
  have sw2 := bw2.size
  clear hw2 bw1
  go_wp2_with fail
  have B2 : Below w.heap.size w (w2.alloc (.cells #[.int .i64 (no : Int), .int .u64 (sq : Int), .int .i64 (of : Int), .int .i64 (de : Int), .int .i64 (pr : Int), .int .i64 (bo : Int), .int .i64 (li : Int), .int .i64 (to : Int), .string da] 26)) := (bw2.alloc sw2 _)
  go_wp2_with fail
  (with_reducible refine (gs.out _ (HT.out.on B2)).mono ?_)
  rintro e w3 ⟨rfl, hw3⟩
  have kk1 : blk w3 (w2.heap.size) = some #[.int .i64 (no : Int), .int .u64 (sq : Int), .int .i64 (of : Int), .int .i64 (de : Int), .int .i64 (pr : Int), .int .i64 (bo : Int), .int .i64 (li : Int), .int .i64 (to : Int), .string da] := (by (apply blk_to; (focus (repeat (first | (with_reducible assumption) | (with_reducible apply blk_drew) | (with_reducible apply blk_set) | ((with_reducible apply blk_other'); (first | (focus (dsimp only; assumption)) | (focus (simp; done)) | (focus (dsimp only; omega)))) | ((with_reducible apply blk_alloc_new); (first | (with_reducible rfl) | (focus (simp; done)) | (focus (simp; omega)))) | (with_reducible apply blk_alloc) | ((with_reducible apply blk_below); (with_reducible assumption))))); rfl))
  have kn1 := kn kk1
  have bw3 : Below w.heap.size w w3 := (by (repeat (first | (with_reducible assumption) | (with_reducible exact Below.refl _ _) | (with_reducible refine beld_drew ?_) | ((with_reducible refine bset' ?_ ?_); (first | (focus (dsimp only; assumption)) | (focus (simp; done)) | (focus (dsimp only; omega)))) | (with_reducible refine belt_alloc ?_) | ((with_reducible refine zeroed_below' ?_ ?_); (first | (focus (simp; done)) | (focus (dsimp only; omega)))) | (with_reducible refine bt ?_ (by assumption)))))
  have sw3 := bw3.size
  clear hw3 bw2
  go_wp2_with fail
  (with_reducible refine (gr1.out _ (HT.out.on bw3)).mono ?_)
  rintro e w4 ⟨rfl, hw4⟩
  have kk2 : blk w4 (w2.heap.size) = some #[.int .i64 (no : Int), .int .u64 (sq : Int), .int .i64 (of : Int), .int .i64 (de : Int), .int .i64 (pr : Int), .int .i64 (bo : Int), .int .i64 (li : Int), .int .i64 (to : Int), .string da] := (by (apply blk_to; (focus (repeat (first | (with_reducible assumption) | (with_reducible apply blk_drew) | (with_reducible apply blk_set) | ((with_reducible apply blk_other'); (first | (focus (dsimp only; assumption)) | (focus (simp; done)) | (focus (dsimp only; omega)))) | ((with_reducible apply blk_alloc_new); (first | (with_reducible rfl) | (focus (simp; done)) | (focus (simp; omega)))) | (with_reducible apply blk_alloc) | ((with_reducible apply blk_below); (with_reducible assumption))))); rfl))
  clear kk1 kn1
  have kn2 := kn kk2
  have bw4 : Below w.heap.size w w4 := (by (repeat (first | (with_reducible assumption) | (with_reducible exact Below.refl _ _) | (with_reducible refine beld_drew ?_) | ((with_reducible refine bset' ?_ ?_); (first | (focus (dsimp only; assumption)) | (focus (simp; done)) | (focus (dsimp only; omega)))) | (with_reducible refine belt_alloc ?_) | ((with_reducible refine zeroed_below' ?_ ?_); (first | (focus (simp; done)) | (focus (dsimp only; omega)))) | (with_reducible refine bt ?_ (by assumption)))))
  have sw4 := bw4.size
  clear hw4 bw3
  have l4 : w2.heap.size < w4.heap.size := blk_lt (by assumption : blk w4 w2.heap.size = some (#[.int .i64 (no : Int), .int .u64 (sq : Int), .int .i64 (of : Int), .int .i64 (de : Int), .int .i64 (pr : Int), .int .i64 (bo : Int), .int .i64 (li : Int), .int .i64 (to : Int), .string da]))
  go_wp2_with fail
  have B4 : Below w.heap.size w (w4.alloc (.cells #[.int .i64 (no : Int), .int .u64 (sq : Int), .int .i64 (of : Int), .int .i64 (de : Int), .int .i64 (pr : Int), .int .i64 (bo : Int), .int .i64 (li : Int), .int .i64 (to : Int), .string dy] 26)) := (bw4.alloc sw4 _)
  go_wp2_with fail
  (with_reducible refine (gw1.out _).mono ?_)
  rintro e w5 ⟨rfl, hw5⟩
  have kk3 : blk w5 (w2.heap.size) = some #[.int .i64 (no : Int), .int .u64 (sq : Int), .int .i64 (of : Int), .int .i64 (de : Int), .int .i64 (pr : Int), .int .i64 (bo : Int), .int .i64 (li : Int), .int .i64 (to : Int), .string da] := (by (apply blk_to; (focus (repeat (first | (with_reducible assumption) | (with_reducible apply blk_drew) | (with_reducible apply blk_set) | ((with_reducible apply blk_other'); (first | (focus (dsimp only; assumption)) | (focus (simp; done)) | (focus (dsimp only; omega)))) | ((with_reducible apply blk_alloc_new); (first | (with_reducible rfl) | (focus (simp; done)) | (focus (simp; omega)))) | (with_reducible apply blk_alloc) | ((with_reducible apply blk_below); (with_reducible assumption))))); rfl))
  have kk4 : blk w5 (w4.heap.size) = some (#[.int .i64 (no : Int), .int .u64 (sq : Int), .int .i64 (of : Int), .int .i64 (de : Int), .int .i64 (pr : Int), .int .i64 (bo : Int), .int .i64 (li : Int), .int .i64 (to : Int), .string dy]) := (by (apply blk_to; (focus (repeat (first | (with_reducible assumption) | (with_reducible apply blk_drew) | (with_reducible apply blk_set) | ((with_reducible apply blk_other'); (first | (focus (dsimp only; assumption)) | (focus (simp; done)) | (focus (dsimp only; omega)))) | ((with_reducible apply blk_alloc_new); (first | (with_reducible rfl) | (focus (simp; done)) | (focus (simp; omega)))) | (with_reducible apply blk_alloc) | ((with_reducible apply blk_below); (with_reducible assumption))))); rfl))
  clear kk2 kn2
  have kn3 := kn kk3
  have kn4 := kn kk4
  have bw5 : Below w.heap.size w w5 := (by (repeat (first | (with_reducible assumption) | (with_reducible exact Below.refl _ _) | (with_reducible refine beld_drew ?_) | ((with_reducible refine bset' ?_ ?_); (first | (focus (dsimp only; assumption)) | (focus (simp; done)) | (focus (dsimp only; omega)))) | (with_reducible refine belt_alloc ?_) | ((with_reducible refine zeroed_below' ?_ ?_); (first | (focus (simp; done)) | (focus (dsimp only; omega)))) | (with_reducible refine bt ?_ (by assumption)))))
  have sw5 := bw5.size
  clear hw5 bw4
  go_wp2_with fail
  (with_reducible refine (gn.out _).mono ?_)
  rintro e wx ⟨rfl, rfl⟩
  go_wp2_with fail
  (with_reducible refine (gr2.out _ (HT.out.on bw5)).mono ?_)
  rintro e w8 ⟨rfl, hw8⟩
  have kk5 : blk w8 (w2.heap.size) = some #[.int .i64 (no : Int), .int .u64 (sq : Int), .int .i64 (of : Int), .int .i64 (de : Int), .int .i64 (pr : Int), .int .i64 (bo : Int), .int .i64 (li : Int), .int .i64 (to : Int), .string da] := (by (apply blk_to; (focus (repeat (first | (with_reducible assumption) | (with_reducible apply blk_drew) | (with_reducible apply blk_set) | ((with_reducible apply blk_other'); (first | (focus (dsimp only; assumption)) | (focus (simp; done)) | (focus (dsimp only; omega)))) | ((with_reducible apply blk_alloc_new); (first | (with_reducible rfl) | (focus (simp; done)) | (focus (simp; omega)))) | (with_reducible apply blk_alloc) | ((with_reducible apply blk_below); (with_reducible assumption))))); rfl))
  have kk6 : blk w8 (w4.heap.size) = some (#[.int .i64 (no : Int), .int .u64 (sq : Int), .int .i64 (of : Int), .int .i64 (de : Int), .int .i64 (pr : Int), .int .i64 (bo : Int), .int .i64 (li : Int), .int .i64 (to : Int), .string dy]) := (by (apply blk_to; (focus (repeat (first | (with_reducible assumption) | (with_reducible apply blk_drew) | (with_reducible apply blk_set) | ((with_reducible apply blk_other'); (first | (focus (dsimp only; assumption)) | (focus (simp; done)) | (focus (dsimp only; omega)))) | ((with_reducible apply blk_alloc_new); (first | (with_reducible rfl) | (focus (simp; done)) | (focus (simp; omega)))) | (with_reducible apply blk_alloc) | ((with_reducible apply blk_below); (with_reducible assumption))))); rfl))
  clear kk3 kn3 kk4 kn4
  have kn5 := kn kk5
  have kn6 := kn kk6
  have bw8 : Below w.heap.size w w8 := (by (repeat (first | (with_reducible assumption) | (with_reducible exact Below.refl _ _) | (with_reducible refine beld_drew ?_) | ((with_reducible refine bset' ?_ ?_); (first | (focus (dsimp only; assumption)) | (focus (simp; done)) | (focus (dsimp only; omega)))) | (with_reducible refine belt_alloc ?_) | ((with_reducible refine zeroed_below' ?_ ?_); (first | (focus (simp; done)) | (focus (dsimp only; omega)))) | (with_reducible refine bt ?_ (by assumption)))))
  have sw8 := bw8.size
  clear hw8 bw5
  go_wp2_with fail
  (with_reducible refine (gr3.out _ (HT.out.on bw8)).mono ?_)
  rintro e w9 ⟨rfl, hw9⟩
  have kk7 : blk w9 (w2.heap.size) = some #[.int .i64 (no : Int), .int .u64 (sq : Int), .int .i64 (of : Int), .int .i64 (de : Int), .int .i64 (pr : Int), .int .i64 (bo : Int), .int .i64 (li : Int), .int .i64 (to : Int), .string da] := (by (apply blk_to; (focus (repeat (first | (with_reducible assumption) | (with_reducible apply blk_drew) | (with_reducible apply blk_set) | ((with_reducible apply blk_other'); (first | (focus (dsimp only; assumption)) | (focus (simp; done)) | (focus (dsimp only; omega)))) | ((with_reducible apply blk_alloc_new); (first | (with_reducible rfl) | (focus (simp; done)) | (focus (simp; omega)))) | (with_reducible apply blk_alloc) | ((with_reducible apply blk_below); (with_reducible assumption))))); rfl))
  have kk8 : blk w9 (w4.heap.size) = some (#[.int .i64 (no : Int), .int .u64 (sq : Int), .int .i64 (of : Int), .int .i64 (de : Int), .int .i64 (pr : Int), .int .i64 (bo : Int), .int .i64 (li : Int), .int .i64 (to : Int), .string dy]) := (by (apply blk_to; (focus (repeat (first | (with_reducible assumption) | (with_reducible apply blk_drew) | (with_reducible apply blk_set) | ((with_reducible apply blk_other'); (first | (focus (dsimp only; assumption)) | (focus (simp; done)) | (focus (dsimp only; omega)))) | ((with_reducible apply blk_alloc_new); (first | (with_reducible rfl) | (focus (simp; done)) | (focus (simp; omega)))) | (with_reducible apply blk_alloc) | ((with_reducible apply blk_below); (with_reducible assumption))))); rfl))
  clear kk5 kn5 kk6 kn6
  have kn7 := kn kk7
  have kn8 := kn kk8
  have bw9 : Below w.heap.size w w9 := (by (repeat (first | (with_reducible assumption) | (with_reducible exact Below.refl _ _) | (with_reducible refine beld_drew ?_) | ((with_reducible refine bset' ?_ ?_); (first | (focus (dsimp only; assumption)) | (focus (simp; done)) | (focus (dsimp only; omega)))) | (with_reducible refine belt_alloc ?_) | ((with_reducible refine zeroed_below' ?_ ?_); (first | (focus (simp; done)) | (focus (dsimp only; omega)))) | (with_reducible refine bt ?_ (by assumption)))))
  have sw9 := bw9.size
  clear hw9 bw8
  go_wp2
  go_ret
  exact ⟨rfl, bw9⟩
set_option maxRecDepth 100000 in
set_option maxHeartbeats 3200000 in
theorem grows_A2 (a0 : Option Addr) (cap0 : Nat) (zs : List Int) (size : Int) (z1 : zs.length ≤ cap0) (z2 : cap0 ≤ 2 ^ 63 - 1) (hlong : ¬ 320 < zs.length) (no sq of de pr bo li to : Nat) (da dy : ByteArray) (hdy : da ++ ⟨#[121]⟩ = dy) (hv : buC no sq of de pr bo li to da.size = 0) (hd : da.size ≤ 300) (hc : (of : Int) + ((da.size : Int) + 1) ≤ (to : Int)) (hwb : wholeB of to da.size = false) (hwc : wholeB of to dy.size = true)
    (w : World) (hR : Row .i64 w a0 cap0 zs) (hH : HTab w) (hT : STab w) (gm : ∀ w, Row .i64 w a0 cap0 zs → Calls Tryd.prog 24 #[.slice a0 zs.length cap0] w fun e w' => e = .returned (buv no sq of de pr bo li to da) ∧ Below w.heap.size w w') :
    Calls Tryd.prog 9 #[.slice a0 zs.length cap0, .int .i64 size] w fun e w' => e = .returned (.bool true) ∧ Below w.heap.size w w' := by
  have HT := Lib.hid hH; have ST := Lib.hid hT; have HR := Lib.hid hR
  have g0 := Lib.hid known_any
  have hbn := buC_nat hv
  have hyz : dy.size = da.size + 1 := by rw [← hdy, ByteArray.size_append]; rfl
  obtain ⟨F, hF⟩ : ∃ F, frLen no sq of de pr bo li to (wholeB of to da.size) = F := ⟨_, rfl⟩
  have hFl := frLen_le no sq of de pr bo li to (wholeB of to da.size)
  rw [hF] at hFl
  have hP := putN_length da.size
  have gs := fun w h => size_ok no sq of de pr bo li to da hv w h
  rw [hF] at gs
  have hsz : szN F da.size ≤ 400 := by unfold szN; omega
  have gr1 := fun w h => room_ok no sq of de pr bo li to (szN F da.size : Nat) da hv (by omega) w h
  rw [hF, roomGo_exact F da.size (by omega)] at gr1
  obtain ⟨k, ek, lk⟩ := nat_mod size 1100 (by omega)
  have gn : ∀ w, Calls Tryd.prog 25 #[.int .i64 size, .int .i64 1100] w fun e w' => e = .returned (.int .i64 (k : Int)) ∧ w = w' := fun w => by have := mod_any size 1100 w (by omega) (by omega); rwa [ek] at this
  have gr2 := fun w h => room_ok no sq of de pr bo li to (k : Int) da hv (by omega) w h
  have gr3 := fun w h => room_ok no sq of de pr bo li to ((k : Int) + 1) da hv (by omega) w h
  rw [hF] at gr2 gr3
  have hst := roomGo_step F (k : Int)
  have hle := roomGo_le F ((k : Int) + 1) 1000
  obtain ⟨r2, hr2⟩ : ∃ r, roomGo F (k : Int) 1000 = r := ⟨_, rfl⟩
  obtain ⟨r3, hr3⟩ : ∃ r, roomGo F ((k : Int) + 1) 1000 = r := ⟨_, rfl⟩
  rw [hr2] at gr2 hst; rw [hr3] at gr3 hst hle
  obtain ⟨S, hS⟩ : ∃ S, szN F da.size = S := ⟨_, rfl⟩
  have hss := szN_step F da.size (by omega)
  rw [hS] at gs gr1 hsz hss
  have nn : (0 : Int) ≤ (of : Int) := by omega
  have n1 : ¬ (9223372036854775807 < da.size + (⟨#[121]⟩ : ByteArray).size) := by show ¬ (9223372036854775807 < da.size + 1); omega
  have q1 : IntKind.i64.wrap ((of : Int) + ((da.size : Int) + 1)) = (of : Int) + ((da.size : Int) + 1) := IntWalk.i64_in _ (by omega)
  have gw1 := fun w => lawWhole_any no sq of de pr bo li to da (by unfold maxLen; omega) w
  rw [hwb] at gw1
  replace gw1 := Lib.hid gw1
  have gw2 := fun w => lawWhole_any no sq of de pr bo li to dy (by unfold maxLen; omega) w
  rw [hwc] at gw2
  replace gw2 := Lib.hid gw2
  replace gm := Lib.hid gm; replace gs := Lib.hid gs; replace gr1 := Lib.hid gr1; replace gr2 := Lib.hid gr2; replace gr3 := Lib.hid gr3; replace gn := Lib.hid gn
  have mx : max (to : Int) ((of : Int) + ((da.size : Int) + 1)) = (to : Int) := by omega
  have c0 : (0 : Int) ≤ (r2 : Int) := by omega
  have c1 : (r2 : Int) ≤ (r3 : Int) := by omega
  have c2 : (r3 : Int) ≤ (r2 : Int) + 1 := by omega
  have c3 : (r3 : Int) ≤ 1000 := by omega
  have hyz2 : (dy.size : Int) = (da.size : Int) + 1 := by omega
  clear hR hH hT hv hbn hF hFl hP ek hr2 hr3 hst hle hS hyz hss hwb hwc
  go_enter Tryd.func9, Tryd.ntmps9
  go_wp2_with fail
  (with_reducible refine (g0.out _ HT.out ST.out).mono ?_)
  rintro e w1 ⟨rfl, hw1⟩
  have bw1 : Below w.heap.size w w1 := (by (repeat (first | (with_reducible assumption) | (with_reducible exact Below.refl _ _) | (with_reducible refine beld_drew ?_) | ((with_reducible refine bset' ?_ ?_); (first | (focus (dsimp only; assumption)) | (focus (simp; done)) | (focus (dsimp only; omega)))) | (with_reducible refine belt_alloc ?_) | ((with_reducible refine zeroed_below' ?_ ?_); (first | (focus (simp; done)) | (focus (dsimp only; omega)))) | (with_reducible refine bt ?_ (by assumption)))))
  have sw1 := bw1.size
  clear hw1
  go_wp2_with fail
  (with_reducible refine (gm.out _ (HR.out.below bw1)).mono ?_)
  rintro e w2 ⟨rfl, hw2⟩
  have bw2 : Below w.heap.size w w2 := (by (repeat (first | (with_reducible assumption) | (with_reducible exact Below.refl _ _) | (with_reducible refine beld_drew ?_) | ((with_reducible refine bset' ?_ ?_); (first | (focus (dsimp only; assumption)) | (focus (simp; done)) | (focus (dsimp only; omega)))) | (with_reducible refine belt_alloc ?_) | ((with_reducible refine zeroed_below' ?_ ?_); (first | (focus (simp; done)) | (focus (dsimp only; omega)))) | (with_reducible refine bt ?_ (by assumption)))))
  have sw2 := bw2.size
  clear hw2 bw1
  go_wp2_with fail
  have B2 : Below w.heap.size w (w2.alloc (.cells #[.int .i64 (no : Int), .int .u64 (sq : Int), .int .i64 (of : Int), .int .i64 (de : Int), .int .i64 (pr : Int), .int .i64 (bo : Int), .int .i64 (li : Int), .int .i64 (to : Int), .string da] 26)) := (bw2.alloc sw2 _)
  go_wp2_with fail
  (with_reducible refine (gs.out _ (HT.out.on B2)).mono ?_)
  rintro e w3 ⟨rfl, hw3⟩
  have kk9 : blk w3 (w2.heap.size) = some #[.int .i64 (no : Int), .int .u64 (sq : Int), .int .i64 (of : Int), .int .i64 (de : Int), .int .i64 (pr : Int), .int .i64 (bo : Int), .int .i64 (li : Int), .int .i64 (to : Int), .string da] := (by (apply blk_to; (focus (repeat (first | (with_reducible assumption) | (with_reducible apply blk_drew) | (with_reducible apply blk_set) | ((with_reducible apply blk_other'); (first | (focus (dsimp only; assumption)) | (focus (simp; done)) | (focus (dsimp only; omega)))) | ((with_reducible apply blk_alloc_new); (first | (with_reducible rfl) | (focus (simp; done)) | (focus (simp; omega)))) | (with_reducible apply blk_alloc) | ((with_reducible apply blk_below); (with_reducible assumption))))); rfl))
  have kn9 := kn kk9
  have bw3 : Below w.heap.size w w3 := (by (repeat (first | (with_reducible assumption) | (with_reducible exact Below.refl _ _) | (with_reducible refine beld_drew ?_) | ((with_reducible refine bset' ?_ ?_); (first | (focus (dsimp only; assumption)) | (focus (simp; done)) | (focus (dsimp only; omega)))) | (with_reducible refine belt_alloc ?_) | ((with_reducible refine zeroed_below' ?_ ?_); (first | (focus (simp; done)) | (focus (dsimp only; omega)))) | (with_reducible refine bt ?_ (by assumption)))))
  have sw3 := bw3.size
  clear hw3 bw2
  go_wp2_with fail
  (with_reducible refine (gr1.out _ (HT.out.on bw3)).mono ?_)
  rintro e w4 ⟨rfl, hw4⟩
  have kk10 : blk w4 (w2.heap.size) = some #[.int .i64 (no : Int), .int .u64 (sq : Int), .int .i64 (of : Int), .int .i64 (de : Int), .int .i64 (pr : Int), .int .i64 (bo : Int), .int .i64 (li : Int), .int .i64 (to : Int), .string da] := (by (apply blk_to; (focus (repeat (first | (with_reducible assumption) | (with_reducible apply blk_drew) | (with_reducible apply blk_set) | ((with_reducible apply blk_other'); (first | (focus (dsimp only; assumption)) | (focus (simp; done)) | (focus (dsimp only; omega)))) | ((with_reducible apply blk_alloc_new); (first | (with_reducible rfl) | (focus (simp; done)) | (focus (simp; omega)))) | (with_reducible apply blk_alloc) | ((with_reducible apply blk_below); (with_reducible assumption))))); rfl))
  clear kk9 kn9
  have kn10 := kn kk10
  have bw4 : Below w.heap.size w w4 := (by (repeat (first | (with_reducible assumption) | (with_reducible exact Below.refl _ _) | (with_reducible refine beld_drew ?_) | ((with_reducible refine bset' ?_ ?_); (first | (focus (dsimp only; assumption)) | (focus (simp; done)) | (focus (dsimp only; omega)))) | (with_reducible refine belt_alloc ?_) | ((with_reducible refine zeroed_below' ?_ ?_); (first | (focus (simp; done)) | (focus (dsimp only; omega)))) | (with_reducible refine bt ?_ (by assumption)))))
  have sw4 := bw4.size
  clear hw4 bw3
  have l4 : w2.heap.size < w4.heap.size := blk_lt (by assumption : blk w4 w2.heap.size = some (#[.int .i64 (no : Int), .int .u64 (sq : Int), .int .i64 (of : Int), .int .i64 (de : Int), .int .i64 (pr : Int), .int .i64 (bo : Int), .int .i64 (li : Int), .int .i64 (to : Int), .string da]))
  go_wp2_with fail
  have B4 : Below w.heap.size w (w4.alloc (.cells #[.int .i64 (no : Int), .int .u64 (sq : Int), .int .i64 (of : Int), .int .i64 (de : Int), .int .i64 (pr : Int), .int .i64 (bo : Int), .int .i64 (li : Int), .int .i64 (to : Int), .string dy] 26)) := (bw4.alloc sw4 _)
  go_wp2_with fail
  (with_reducible refine (gw1.out _).mono ?_)
  rintro e w5 ⟨rfl, hw5⟩
  have kk11 : blk w5 (w2.heap.size) = some #[.int .i64 (no : Int), .int .u64 (sq : Int), .int .i64 (of : Int), .int .i64 (de : Int), .int .i64 (pr : Int), .int .i64 (bo : Int), .int .i64 (li : Int), .int .i64 (to : Int), .string da] := (by (apply blk_to; (focus (repeat (first | (with_reducible assumption) | (with_reducible apply blk_drew) | (with_reducible apply blk_set) | ((with_reducible apply blk_other'); (first | (focus (dsimp only; assumption)) | (focus (simp; done)) | (focus (dsimp only; omega)))) | ((with_reducible apply blk_alloc_new); (first | (with_reducible rfl) | (focus (simp; done)) | (focus (simp; omega)))) | (with_reducible apply blk_alloc) | ((with_reducible apply blk_below); (with_reducible assumption))))); rfl))
  have kk12 : blk w5 (w4.heap.size) = some (#[.int .i64 (no : Int), .int .u64 (sq : Int), .int .i64 (of : Int), .int .i64 (de : Int), .int .i64 (pr : Int), .int .i64 (bo : Int), .int .i64 (li : Int), .int .i64 (to : Int), .string dy]) := (by (apply blk_to; (focus (repeat (first | (with_reducible assumption) | (with_reducible apply blk_drew) | (with_reducible apply blk_set) | ((with_reducible apply blk_other'); (first | (focus (dsimp only; assumption)) | (focus (simp; done)) | (focus (dsimp only; omega)))) | ((with_reducible apply blk_alloc_new); (first | (with_reducible rfl) | (focus (simp; done)) | (focus (simp; omega)))) | (with_reducible apply blk_alloc) | ((with_reducible apply blk_below); (with_reducible assumption))))); rfl))
  clear kk10 kn10
  have kn11 := kn kk11
  have kn12 := kn kk12
  have bw5 : Below w.heap.size w w5 := (by (repeat (first | (with_reducible assumption) | (with_reducible exact Below.refl _ _) | (with_reducible refine beld_drew ?_) | ((with_reducible refine bset' ?_ ?_); (first | (focus (dsimp only; assumption)) | (focus (simp; done)) | (focus (dsimp only; omega)))) | (with_reducible refine belt_alloc ?_) | ((with_reducible refine zeroed_below' ?_ ?_); (first | (focus (simp; done)) | (focus (dsimp only; omega)))) | (with_reducible refine bt ?_ (by assumption)))))
  have sw5 := bw5.size
  clear hw5 bw4
  go_wp2_with fail
  (with_reducible refine (gw2.out _).mono ?_)
  rintro e w6 ⟨rfl, hw6⟩
  have kk13 : blk w6 (w2.heap.size) = some #[.int .i64 (no : Int), .int .u64 (sq : Int), .int .i64 (of : Int), .int .i64 (de : Int), .int .i64 (pr : Int), .int .i64 (bo : Int), .int .i64 (li : Int), .int .i64 (to : Int), .string da] := (by (apply blk_to; (focus (repeat (first | (with_reducible assumption) | (with_reducible apply blk_drew) | (with_reducible apply blk_set) | ((with_reducible apply blk_other'); (first | (focus (dsimp only; assumption)) | (focus (simp; done)) | (focus (dsimp only; omega)))) | ((with_reducible apply blk_alloc_new); (first | (with_reducible rfl) | (focus (simp; done)) | (focus (simp; omega)))) | (with_reducible apply blk_alloc) | ((with_reducible apply blk_below); (with_reducible assumption))))); rfl))
  have kk14 : blk w6 (w4.heap.size) = some (#[.int .i64 (no : Int), .int .u64 (sq : Int), .int .i64 (of : Int), .int .i64 (de : Int), .int .i64 (pr : Int), .int .i64 (bo : Int), .int .i64 (li : Int), .int .i64 (to : Int), .string dy]) := (by (apply blk_to; (focus (repeat (first | (with_reducible assumption) | (with_reducible apply blk_drew) | (with_reducible apply blk_set) | ((with_reducible apply blk_other'); (first | (focus (dsimp only; assumption)) | (focus (simp; done)) | (focus (dsimp only; omega)))) | ((with_reducible apply blk_alloc_new); (first | (with_reducible rfl) | (focus (simp; done)) | (focus (simp; omega)))) | (with_reducible apply blk_alloc) | ((with_reducible apply blk_below); (with_reducible assumption))))); rfl))
  clear kk11 kn11 kk12 kn12
  have kn13 := kn kk13
  have kn14 := kn kk14
  have bw6 : Below w.heap.size w w6 := (by (repeat (first | (with_reducible assumption) | (with_reducible exact Below.refl _ _) | (with_reducible refine beld_drew ?_) | ((with_reducible refine bset' ?_ ?_); (first | (focus (dsimp only; assumption)) | (focus (simp; done)) | (focus (dsimp only; omega)))) | (with_reducible refine belt_alloc ?_) | ((with_reducible refine zeroed_below' ?_ ?_); (first | (focus (simp; done)) | (focus (dsimp only; omega)))) | (with_reducible refine bt ?_ (by assumption)))))
  have sw6 := bw6.size
  clear hw6 bw5
  go_wp2_with fail
  (with_reducible refine (gn.out _).mono ?_)
  rintro e wx ⟨rfl, rfl⟩
  go_wp2_with fail
  (with_reducible refine (gr2.out _ (HT.out.on bw6)).mono ?_)
  rintro e w8 ⟨rfl, hw8⟩
  have kk15 : blk w8 (w2.heap.size) = some #[.int .i64 (no : Int), .int .u64 (sq : Int), .int .i64 (of : Int), .int .i64 (de : Int), .int .i64 (pr : Int), .int .i64 (bo : Int), .int .i64 (li : Int), .int .i64 (to : Int), .string da] := (by (apply blk_to; (focus (repeat (first | (with_reducible assumption) | (with_reducible apply blk_drew) | (with_reducible apply blk_set) | ((with_reducible apply blk_other'); (first | (focus (dsimp only; assumption)) | (focus (simp; done)) | (focus (dsimp only; omega)))) | ((with_reducible apply blk_alloc_new); (first | (with_reducible rfl) | (focus (simp; done)) | (focus (simp; omega)))) | (with_reducible apply blk_alloc) | ((with_reducible apply blk_below); (with_reducible assumption))))); rfl))
  have kk16 : blk w8 (w4.heap.size) = some (#[.int .i64 (no : Int), .int .u64 (sq : Int), .int .i64 (of : Int), .int .i64 (de : Int), .int .i64 (pr : Int), .int .i64 (bo : Int), .int .i64 (li : Int), .int .i64 (to : Int), .string dy]) := (by (apply blk_to; (focus (repeat (first | (with_reducible assumption) | (with_reducible apply blk_drew) | (with_reducible apply blk_set) | ((with_reducible apply blk_other'); (first | (focus (dsimp only; assumption)) | (focus (simp; done)) | (focus (dsimp only; omega)))) | ((with_reducible apply blk_alloc_new); (first | (with_reducible rfl) | (focus (simp; done)) | (focus (simp; omega)))) | (with_reducible apply blk_alloc) | ((with_reducible apply blk_below); (with_reducible assumption))))); rfl))
  clear kk13 kn13 kk14 kn14
  have kn15 := kn kk15
  have kn16 := kn kk16
  have bw8 : Below w.heap.size w w8 := (by (repeat (first | (with_reducible assumption) | (with_reducible exact Below.refl _ _) | (with_reducible refine beld_drew ?_) | ((with_reducible refine bset' ?_ ?_); (first | (focus (dsimp only; assumption)) | (focus (simp; done)) | (focus (dsimp only; omega)))) | (with_reducible refine belt_alloc ?_) | ((with_reducible refine zeroed_below' ?_ ?_); (first | (focus (simp; done)) | (focus (dsimp only; omega)))) | (with_reducible refine bt ?_ (by assumption)))))
  have sw8 := bw8.size
  clear hw8 bw6
  go_wp2_with fail
  (with_reducible refine (gr3.out _ (HT.out.on bw8)).mono ?_)
  rintro e w9 ⟨rfl, hw9⟩
  have kk17 : blk w9 (w2.heap.size) = some #[.int .i64 (no : Int), .int .u64 (sq : Int), .int .i64 (of : Int), .int .i64 (de : Int), .int .i64 (pr : Int), .int .i64 (bo : Int), .int .i64 (li : Int), .int .i64 (to : Int), .string da] := (by (apply blk_to; (focus (repeat (first | (with_reducible assumption) | (with_reducible apply blk_drew) | (with_reducible apply blk_set) | ((with_reducible apply blk_other'); (first | (focus (dsimp only; assumption)) | (focus (simp; done)) | (focus (dsimp only; omega)))) | ((with_reducible apply blk_alloc_new); (first | (with_reducible rfl) | (focus (simp; done)) | (focus (simp; omega)))) | (with_reducible apply blk_alloc) | ((with_reducible apply blk_below); (with_reducible assumption))))); rfl))
  have kk18 : blk w9 (w4.heap.size) = some (#[.int .i64 (no : Int), .int .u64 (sq : Int), .int .i64 (of : Int), .int .i64 (de : Int), .int .i64 (pr : Int), .int .i64 (bo : Int), .int .i64 (li : Int), .int .i64 (to : Int), .string dy]) := (by (apply blk_to; (focus (repeat (first | (with_reducible assumption) | (with_reducible apply blk_drew) | (with_reducible apply blk_set) | ((with_reducible apply blk_other'); (first | (focus (dsimp only; assumption)) | (focus (simp; done)) | (focus (dsimp only; omega)))) | ((with_reducible apply blk_alloc_new); (first | (with_reducible rfl) | (focus (simp; done)) | (focus (simp; omega)))) | (with_reducible apply blk_alloc) | ((with_reducible apply blk_below); (with_reducible assumption))))); rfl))
  clear kk15 kn15 kk16 kn16
  have kn17 := kn kk17
  have kn18 := kn kk18
  have bw9 : Below w.heap.size w w9 := (by (repeat (first | (with_reducible assumption) | (with_reducible exact Below.refl _ _) | (with_reducible refine beld_drew ?_) | ((with_reducible refine bset' ?_ ?_); (first | (focus (dsimp only; assumption)) | (focus (simp; done)) | (focus (dsimp only; omega)))) | (with_reducible refine belt_alloc ?_) | ((with_reducible refine zeroed_below' ?_ ?_); (first | (focus (simp; done)) | (focus (dsimp only; omega)))) | (with_reducible refine bt ?_ (by assumption)))))
  have sw9 := bw9.size
  clear hw9 bw8
  go_wp2
  go_ret
  exact ⟨rfl, bw9⟩
set_option maxRecDepth 100000 in
set_option maxHeartbeats 3200000 in
theorem grows_A3 (a0 : Option Addr) (cap0 : Nat) (zs : List Int) (size : Int) (z1 : zs.length ≤ cap0) (z2 : cap0 ≤ 2 ^ 63 - 1) (hlong : ¬ 320 < zs.length) (no sq of de pr bo li to : Nat) (da dy : ByteArray) (hdy : da ++ ⟨#[121]⟩ = dy) (hv : buC no sq of de pr bo li to da.size = 0) (hd : da.size ≤ 300) (hc : (of : Int) + ((da.size : Int) + 1) ≤ (to : Int)) (hwb : wholeB of to da.size = false) (hwc : wholeB of to dy.size = false)
    (w : World) (hR : Row .i64 w a0 cap0 zs) (hH : HTab w) (hT : STab w) (gm : ∀ w, Row .i64 w a0 cap0 zs → Calls Tryd.prog 24 #[.slice a0 zs.length cap0] w fun e w' => e = .returned (buv no sq of de pr bo li to da) ∧ Below w.heap.size w w') :
    Calls Tryd.prog 9 #[.slice a0 zs.length cap0, .int .i64 size] w fun e w' => e = .returned (.bool true) ∧ Below w.heap.size w w' := by
  have HT := Lib.hid hH; have ST := Lib.hid hT; have HR := Lib.hid hR
  have g0 := Lib.hid known_any
  have hbn := buC_nat hv
  have hyz : dy.size = da.size + 1 := by rw [← hdy, ByteArray.size_append]; rfl
  obtain ⟨F, hF⟩ : ∃ F, frLen no sq of de pr bo li to (wholeB of to da.size) = F := ⟨_, rfl⟩
  have hFl := frLen_le no sq of de pr bo li to (wholeB of to da.size)
  rw [hF] at hFl
  have hP := putN_length da.size
  have gs := fun w h => size_ok no sq of de pr bo li to da hv w h
  rw [hF] at gs
  have hsz : szN F da.size ≤ 400 := by unfold szN; omega
  have gr1 := fun w h => room_ok no sq of de pr bo li to (szN F da.size : Nat) da hv (by omega) w h
  rw [hF, roomGo_exact F da.size (by omega)] at gr1
  obtain ⟨k, ek, lk⟩ := nat_mod size 1100 (by omega)
  have gn : ∀ w, Calls Tryd.prog 25 #[.int .i64 size, .int .i64 1100] w fun e w' => e = .returned (.int .i64 (k : Int)) ∧ w = w' := fun w => by have := mod_any size 1100 w (by omega) (by omega); rwa [ek] at this
  have gr2 := fun w h => room_ok no sq of de pr bo li to (k : Int) da hv (by omega) w h
  have gr3 := fun w h => room_ok no sq of de pr bo li to ((k : Int) + 1) da hv (by omega) w h
  rw [hF] at gr2 gr3
  have hst := roomGo_step F (k : Int)
  have hle := roomGo_le F ((k : Int) + 1) 1000
  obtain ⟨r2, hr2⟩ : ∃ r, roomGo F (k : Int) 1000 = r := ⟨_, rfl⟩
  obtain ⟨r3, hr3⟩ : ∃ r, roomGo F ((k : Int) + 1) 1000 = r := ⟨_, rfl⟩
  rw [hr2] at gr2 hst; rw [hr3] at gr3 hst hle
  obtain ⟨S, hS⟩ : ∃ S, szN F da.size = S := ⟨_, rfl⟩
  have hss := szN_step F da.size (by omega)
  rw [hS] at gs gr1 hsz hss
  have nn : (0 : Int) ≤ (of : Int) := by omega
  have n1 : ¬ (9223372036854775807 < da.size + (⟨#[121]⟩ : ByteArray).size) := by show ¬ (9223372036854775807 < da.size + 1); omega
  have q1 : IntKind.i64.wrap ((of : Int) + ((da.size : Int) + 1)) = (of : Int) + ((da.size : Int) + 1) := IntWalk.i64_in _ (by omega)
  have gw1 := fun w => lawWhole_any no sq of de pr bo li to da (by unfold maxLen; omega) w
  rw [hwb] at gw1
  replace gw1 := Lib.hid gw1
  have gw2 := fun w => lawWhole_any no sq of de pr bo li to dy (by unfold maxLen; omega) w
  rw [hwc] at gw2
  replace gw2 := Lib.hid gw2
  have hv2 : buC no sq of de pr bo li to dy.size = 0 := buC_zero (by unfold okI; omega) (by unfold okN; omega) (by omega) (by omega) (by omega)
  have gs2 := fun w h => size_ok no sq of de pr bo li to dy hv2 w h
  rw [hwc, ← hwb, hF, hyz] at gs2
  obtain ⟨S2, hS2⟩ : ∃ S, szN F (da.size + 1) = S := ⟨_, rfl⟩
  rw [hS2] at gs2 hss
  have hs2a : S2 ≤ 402 := by omega
  have hs2b : (S2 : Int) - (S : Int) = 1 ∨ (S2 : Int) - (S : Int) = 2 := by omega
  replace gs2 := Lib.hid gs2
  replace gm := Lib.hid gm; replace gs := Lib.hid gs; replace gr1 := Lib.hid gr1; replace gr2 := Lib.hid gr2; replace gr3 := Lib.hid gr3; replace gn := Lib.hid gn
  have mx : max (to : Int) ((of : Int) + ((da.size : Int) + 1)) = (to : Int) := by omega
  have c0 : (0 : Int) ≤ (r2 : Int) := by omega
  have c1 : (r2 : Int) ≤ (r3 : Int) := by omega
  have c2 : (r3 : Int) ≤ (r2 : Int) + 1 := by omega
  have c3 : (r3 : Int) ≤ 1000 := by omega
  have hyz2 : (dy.size : Int) = (da.size : Int) + 1 := by omega
  clear hR hH hT hv hbn hF hFl hP ek hr2 hr3 hst hle hS hyz hss hwb hwc hv2 hS2
  have d : (((S2 : Int) - (S : Int) != 1) = false) ∨ (((S2 : Int) - (S : Int) != 1) = true ∧ ((S2 : Int) - (S : Int) != 2) = false) := by rcases hs2b with h | h <;> simp [h]
  have qw : IntKind.i64.wrap ((S2 : Int) - (S : Int)) = (S2 : Int) - (S : Int) := IntWalk.i64_in _ (by omega)
  clear hs2b
  rcases d with d1 | ⟨d1, d2⟩
  all_goals
    go_enter Tryd.func9, Tryd.ntmps9
    go_wp2_with fail
    (with_reducible refine (g0.out _ HT.out ST.out).mono ?_)
    rintro e w1 ⟨rfl, hw1⟩
    have bw1 : Below w.heap.size w w1 := (by (repeat (first | (with_reducible assumption) | (with_reducible exact Below.refl _ _) | (with_reducible refine beld_drew ?_) | ((with_reducible refine bset' ?_ ?_); (first | (focus (dsimp only; assumption)) | (focus (simp; done)) | (focus (dsimp only; omega)))) | (with_reducible refine belt_alloc ?_) | ((with_reducible refine zeroed_below' ?_ ?_); (first | (focus (simp; done)) | (focus (dsimp only; omega)))) | (with_reducible refine bt ?_ (by assumption)))))
    have sw1 := bw1.size
    clear hw1
    go_wp2_with fail
    (with_reducible refine (gm.out _ (HR.out.below bw1)).mono ?_)
    rintro e w2 ⟨rfl, hw2⟩
    have bw2 : Below w.heap.size w w2 := (by (repeat (first | (with_reducible assumption) | (with_reducible exact Below.refl _ _) | (with_reducible refine beld_drew ?_) | ((with_reducible refine bset' ?_ ?_); (first | (focus (dsimp only; assumption)) | (focus (simp; done)) | (focus (dsimp only; omega)))) | (with_reducible refine belt_alloc ?_) | ((with_reducible refine zeroed_below' ?_ ?_); (first | (focus (simp; done)) | (focus (dsimp only; omega)))) | (with_reducible refine bt ?_ (by assumption)))))
    have sw2 := bw2.size
    clear hw2 bw1
    go_wp2_with fail
    have B2 : Below w.heap.size w (w2.alloc (.cells #[.int .i64 (no : Int), .int .u64 (sq : Int), .int .i64 (of : Int), .int .i64 (de : Int), .int .i64 (pr : Int), .int .i64 (bo : Int), .int .i64 (li : Int), .int .i64 (to : Int), .string da] 26)) := (bw2.alloc sw2 _)
    go_wp2_with fail
    (with_reducible refine (gs.out _ (HT.out.on B2)).mono ?_)
    rintro e w3 ⟨rfl, hw3⟩
    have kk19 : blk w3 (w2.heap.size) = some #[.int .i64 (no : Int), .int .u64 (sq : Int), .int .i64 (of : Int), .int .i64 (de : Int), .int .i64 (pr : Int), .int .i64 (bo : Int), .int .i64 (li : Int), .int .i64 (to : Int), .string da] := (by (apply blk_to; (focus (repeat (first | (with_reducible assumption) | (with_reducible apply blk_drew) | (with_reducible apply blk_set) | ((with_reducible apply blk_other'); (first | (focus (dsimp only; assumption)) | (focus (simp; done)) | (focus (dsimp only; omega)))) | ((with_reducible apply blk_alloc_new); (first | (with_reducible rfl) | (focus (simp; done)) | (focus (simp; omega)))) | (with_reducible apply blk_alloc) | ((with_reducible apply blk_below); (with_reducible assumption))))); rfl))
    have kn19 := kn kk19
    have bw3 : Below w.heap.size w w3 := (by (repeat (first | (with_reducible assumption) | (with_reducible exact Below.refl _ _) | (with_reducible refine beld_drew ?_) | ((with_reducible refine bset' ?_ ?_); (first | (focus (dsimp only; assumption)) | (focus (simp; done)) | (focus (dsimp only; omega)))) | (with_reducible refine belt_alloc ?_) | ((with_reducible refine zeroed_below' ?_ ?_); (first | (focus (simp; done)) | (focus (dsimp only; omega)))) | (with_reducible refine bt ?_ (by assumption)))))
    have sw3 := bw3.size
    clear hw3 bw2
    go_wp2_with fail
    (with_reducible refine (gr1.out _ (HT.out.on bw3)).mono ?_)
    rintro e w4 ⟨rfl, hw4⟩
    have kk20 : blk w4 (w2.heap.size) = some #[.int .i64 (no : Int), .int .u64 (sq : Int), .int .i64 (of : Int), .int .i64 (de : Int), .int .i64 (pr : Int), .int .i64 (bo : Int), .int .i64 (li : Int), .int .i64 (to : Int), .string da] := (by (apply blk_to; (focus (repeat (first | (with_reducible assumption) | (with_reducible apply blk_drew) | (with_reducible apply blk_set) | ((with_reducible apply blk_other'); (first | (focus (dsimp only; assumption)) | (focus (simp; done)) | (focus (dsimp only; omega)))) | ((with_reducible apply blk_alloc_new); (first | (with_reducible rfl) | (focus (simp; done)) | (focus (simp; omega)))) | (with_reducible apply blk_alloc) | ((with_reducible apply blk_below); (with_reducible assumption))))); rfl))
    clear kk19 kn19
    have kn20 := kn kk20
    have bw4 : Below w.heap.size w w4 := (by (repeat (first | (with_reducible assumption) | (with_reducible exact Below.refl _ _) | (with_reducible refine beld_drew ?_) | ((with_reducible refine bset' ?_ ?_); (first | (focus (dsimp only; assumption)) | (focus (simp; done)) | (focus (dsimp only; omega)))) | (with_reducible refine belt_alloc ?_) | ((with_reducible refine zeroed_below' ?_ ?_); (first | (focus (simp; done)) | (focus (dsimp only; omega)))) | (with_reducible refine bt ?_ (by assumption)))))
    have sw4 := bw4.size
    clear hw4 bw3
    have l4 : w2.heap.size < w4.heap.size := blk_lt (by assumption : blk w4 w2.heap.size = some (#[.int .i64 (no : Int), .int .u64 (sq : Int), .int .i64 (of : Int), .int .i64 (de : Int), .int .i64 (pr : Int), .int .i64 (bo : Int), .int .i64 (li : Int), .int .i64 (to : Int), .string da]))
    go_wp2_with fail
    have B4 : Below w.heap.size w (w4.alloc (.cells #[.int .i64 (no : Int), .int .u64 (sq : Int), .int .i64 (of : Int), .int .i64 (de : Int), .int .i64 (pr : Int), .int .i64 (bo : Int), .int .i64 (li : Int), .int .i64 (to : Int), .string dy] 26)) := (bw4.alloc sw4 _)
    go_wp2_with fail
    (with_reducible refine (gw1.out _).mono ?_)
    rintro e w5 ⟨rfl, hw5⟩
    have kk21 : blk w5 (w2.heap.size) = some #[.int .i64 (no : Int), .int .u64 (sq : Int), .int .i64 (of : Int), .int .i64 (de : Int), .int .i64 (pr : Int), .int .i64 (bo : Int), .int .i64 (li : Int), .int .i64 (to : Int), .string da] := (by (apply blk_to; (focus (repeat (first | (with_reducible assumption) | (with_reducible apply blk_drew) | (with_reducible apply blk_set) | ((with_reducible apply blk_other'); (first | (focus (dsimp only; assumption)) | (focus (simp; done)) | (focus (dsimp only; omega)))) | ((with_reducible apply blk_alloc_new); (first | (with_reducible rfl) | (focus (simp; done)) | (focus (simp; omega)))) | (with_reducible apply blk_alloc) | ((with_reducible apply blk_below); (with_reducible assumption))))); rfl))
    have kk22 : blk w5 (w4.heap.size) = some (#[.int .i64 (no : Int), .int .u64 (sq : Int), .int .i64 (of : Int), .int .i64 (de : Int), .int .i64 (pr : Int), .int .i64 (bo : Int), .int .i64 (li : Int), .int .i64 (to : Int), .string dy]) := (by (apply blk_to; (focus (repeat (first | (with_reducible assumption) | (with_reducible apply blk_drew) | (with_reducible apply blk_set) | ((with_reducible apply blk_other'); (first | (focus (dsimp only; assumption)) | (focus (simp; done)) | (focus (dsimp only; omega)))) | ((with_reducible apply blk_alloc_new); (first | (with_reducible rfl) | (focus (simp; done)) | (focus (simp; omega)))) | (with_reducible apply blk_alloc) | ((with_reducible apply blk_below); (with_reducible assumption))))); rfl))
    clear kk20 kn20
    have kn21 := kn kk21
    have kn22 := kn kk22
    have bw5 : Below w.heap.size w w5 := (by (repeat (first | (with_reducible assumption) | (with_reducible exact Below.refl _ _) | (with_reducible refine beld_drew ?_) | ((with_reducible refine bset' ?_ ?_); (first | (focus (dsimp only; assumption)) | (focus (simp; done)) | (focus (dsimp only; omega)))) | (with_reducible refine belt_alloc ?_) | ((with_reducible refine zeroed_below' ?_ ?_); (first | (focus (simp; done)) | (focus (dsimp only; omega)))) | (with_reducible refine bt ?_ (by assumption)))))
    have sw5 := bw5.size
    clear hw5 bw4
    go_wp2_with fail
    (with_reducible refine (gw2.out _).mono ?_)
    rintro e w6 ⟨rfl, hw6⟩
    have kk23 : blk w6 (w2.heap.size) = some #[.int .i64 (no : Int), .int .u64 (sq : Int), .int .i64 (of : Int), .int .i64 (de : Int), .int .i64 (pr : Int), .int .i64 (bo : Int), .int .i64 (li : Int), .int .i64 (to : Int), .string da] := (by (apply blk_to; (focus (repeat (first | (with_reducible assumption) | (with_reducible apply blk_drew) | (with_reducible apply blk_set) | ((with_reducible apply blk_other'); (first | (focus (dsimp only; assumption)) | (focus (simp; done)) | (focus (dsimp only; omega)))) | ((with_reducible apply blk_alloc_new); (first | (with_reducible rfl) | (focus (simp; done)) | (focus (simp; omega)))) | (with_reducible apply blk_alloc) | ((with_reducible apply blk_below); (with_reducible assumption))))); rfl))
    have kk24 : blk w6 (w4.heap.size) = some (#[.int .i64 (no : Int), .int .u64 (sq : Int), .int .i64 (of : Int), .int .i64 (de : Int), .int .i64 (pr : Int), .int .i64 (bo : Int), .int .i64 (li : Int), .int .i64 (to : Int), .string dy]) := (by (apply blk_to; (focus (repeat (first | (with_reducible assumption) | (with_reducible apply blk_drew) | (with_reducible apply blk_set) | ((with_reducible apply blk_other'); (first | (focus (dsimp only; assumption)) | (focus (simp; done)) | (focus (dsimp only; omega)))) | ((with_reducible apply blk_alloc_new); (first | (with_reducible rfl) | (focus (simp; done)) | (focus (simp; omega)))) | (with_reducible apply blk_alloc) | ((with_reducible apply blk_below); (with_reducible assumption))))); rfl))
    clear kk21 kn21 kk22 kn22
    have kn23 := kn kk23
    have kn24 := kn kk24
    have bw6 : Below w.heap.size w w6 := (by (repeat (first | (with_reducible assumption) | (with_reducible exact Below.refl _ _) | (with_reducible refine beld_drew ?_) | ((with_reducible refine bset' ?_ ?_); (first | (focus (dsimp only; assumption)) | (focus (simp; done)) | (focus (dsimp only; omega)))) | (with_reducible refine belt_alloc ?_) | ((with_reducible refine zeroed_below' ?_ ?_); (first | (focus (simp; done)) | (focus (dsimp only; omega)))) | (with_reducible refine bt ?_ (by assumption)))))
    have sw6 := bw6.size
    clear hw6 bw5
    go_wp2_with fail
    (with_reducible refine (gs2.out _ (HT.out.on bw6)).mono ?_)
    rintro e w7 ⟨rfl, hw7⟩
    have kk25 : blk w7 (w2.heap.size) = some #[.int .i64 (no : Int), .int .u64 (sq : Int), .int .i64 (of : Int), .int .i64 (de : Int), .int .i64 (pr : Int), .int .i64 (bo : Int), .int .i64 (li : Int), .int .i64 (to : Int), .string da] := (by (apply blk_to; (focus (repeat (first | (with_reducible assumption) | (with_reducible apply blk_drew) | (with_reducible apply blk_set) | ((with_reducible apply blk_other'); (first | (focus (dsimp only; assumption)) | (focus (simp; done)) | (focus (dsimp only; omega)))) | ((with_reducible apply blk_alloc_new); (first | (with_reducible rfl) | (focus (simp; done)) | (focus (simp; omega)))) | (with_reducible apply blk_alloc) | ((with_reducible apply blk_below); (with_reducible assumption))))); rfl))
    have kk26 : blk w7 (w4.heap.size) = some (#[.int .i64 (no : Int), .int .u64 (sq : Int), .int .i64 (of : Int), .int .i64 (de : Int), .int .i64 (pr : Int), .int .i64 (bo : Int), .int .i64 (li : Int), .int .i64 (to : Int), .string dy]) := (by (apply blk_to; (focus (repeat (first | (with_reducible assumption) | (with_reducible apply blk_drew) | (with_reducible apply blk_set) | ((with_reducible apply blk_other'); (first | (focus (dsimp only; assumption)) | (focus (simp; done)) | (focus (dsimp only; omega)))) | ((with_reducible apply blk_alloc_new); (first | (with_reducible rfl) | (focus (simp; done)) | (focus (simp; omega)))) | (with_reducible apply blk_alloc) | ((with_reducible apply blk_below); (with_reducible assumption))))); rfl))
    clear kk23 kn23 kk24 kn24
    have kn25 := kn kk25
    have kn26 := kn kk26
    have bw7 : Below w.heap.size w w7 := (by (repeat (first | (with_reducible assumption) | (with_reducible exact Below.refl _ _) | (with_reducible refine beld_drew ?_) | ((with_reducible refine bset' ?_ ?_); (first | (focus (dsimp only; assumption)) | (focus (simp; done)) | (focus (dsimp only; omega)))) | (with_reducible refine belt_alloc ?_) | ((with_reducible refine zeroed_below' ?_ ?_); (first | (focus (simp; done)) | (focus (dsimp only; omega)))) | (with_reducible refine bt ?_ (by assumption)))))
    have sw7 := bw7.size
    clear hw7 bw6
    go_wp2_with fail
    (with_reducible refine (gn.out _).mono ?_)
    rintro e wx ⟨rfl, rfl⟩
    go_wp2_with fail
    (with_reducible refine (gr2.out _ (HT.out.on bw7)).mono ?_)
    rintro e w8 ⟨rfl, hw8⟩
    have kk27 : blk w8 (w2.heap.size) = some #[.int .i64 (no : Int), .int .u64 (sq : Int), .int .i64 (of : Int), .int .i64 (de : Int), .int .i64 (pr : Int), .int .i64 (bo : Int), .int .i64 (li : Int), .int .i64 (to : Int), .string da] := (by (apply blk_to; (focus (repeat (first | (with_reducible assumption) | (with_reducible apply blk_drew) | (with_reducible apply blk_set) | ((with_reducible apply blk_other'); (first | (focus (dsimp only; assumption)) | (focus (simp; done)) | (focus (dsimp only; omega)))) | ((with_reducible apply blk_alloc_new); (first | (with_reducible rfl) | (focus (simp; done)) | (focus (simp; omega)))) | (with_reducible apply blk_alloc) | ((with_reducible apply blk_below); (with_reducible assumption))))); rfl))
    have kk28 : blk w8 (w4.heap.size) = some (#[.int .i64 (no : Int), .int .u64 (sq : Int), .int .i64 (of : Int), .int .i64 (de : Int), .int .i64 (pr : Int), .int .i64 (bo : Int), .int .i64 (li : Int), .int .i64 (to : Int), .string dy]) := (by (apply blk_to; (focus (repeat (first | (with_reducible assumption) | (with_reducible apply blk_drew) | (with_reducible apply blk_set) | ((with_reducible apply blk_other'); (first | (focus (dsimp only; assumption)) | (focus (simp; done)) | (focus (dsimp only; omega)))) | ((with_reducible apply blk_alloc_new); (first | (with_reducible rfl) | (focus (simp; done)) | (focus (simp; omega)))) | (with_reducible apply blk_alloc) | ((with_reducible apply blk_below); (with_reducible assumption))))); rfl))
    clear kk25 kn25 kk26 kn26
    have kn27 := kn kk27
    have kn28 := kn kk28
    have bw8 : Below w.heap.size w w8 := (by (repeat (first | (with_reducible assumption) | (with_reducible exact Below.refl _ _) | (with_reducible refine beld_drew ?_) | ((with_reducible refine bset' ?_ ?_); (first | (focus (dsimp only; assumption)) | (focus (simp; done)) | (focus (dsimp only; omega)))) | (with_reducible refine belt_alloc ?_) | ((with_reducible refine zeroed_below' ?_ ?_); (first | (focus (simp; done)) | (focus (dsimp only; omega)))) | (with_reducible refine bt ?_ (by assumption)))))
    have sw8 := bw8.size
    clear hw8 bw7
    go_wp2_with fail
    (with_reducible refine (gr3.out _ (HT.out.on bw8)).mono ?_)
    rintro e w9 ⟨rfl, hw9⟩
    have kk29 : blk w9 (w2.heap.size) = some #[.int .i64 (no : Int), .int .u64 (sq : Int), .int .i64 (of : Int), .int .i64 (de : Int), .int .i64 (pr : Int), .int .i64 (bo : Int), .int .i64 (li : Int), .int .i64 (to : Int), .string da] := (by (apply blk_to; (focus (repeat (first | (with_reducible assumption) | (with_reducible apply blk_drew) | (with_reducible apply blk_set) | ((with_reducible apply blk_other'); (first | (focus (dsimp only; assumption)) | (focus (simp; done)) | (focus (dsimp only; omega)))) | ((with_reducible apply blk_alloc_new); (first | (with_reducible rfl) | (focus (simp; done)) | (focus (simp; omega)))) | (with_reducible apply blk_alloc) | ((with_reducible apply blk_below); (with_reducible assumption))))); rfl))
    have kk30 : blk w9 (w4.heap.size) = some (#[.int .i64 (no : Int), .int .u64 (sq : Int), .int .i64 (of : Int), .int .i64 (de : Int), .int .i64 (pr : Int), .int .i64 (bo : Int), .int .i64 (li : Int), .int .i64 (to : Int), .string dy]) := (by (apply blk_to; (focus (repeat (first | (with_reducible assumption) | (with_reducible apply blk_drew) | (with_reducible apply blk_set) | ((with_reducible apply blk_other'); (first | (focus (dsimp only; assumption)) | (focus (simp; done)) | (focus (dsimp only; omega)))) | ((with_reducible apply blk_alloc_new); (first | (with_reducible rfl) | (focus (simp; done)) | (focus (simp; omega)))) | (with_reducible apply blk_alloc) | ((with_reducible apply blk_below); (with_reducible assumption))))); rfl))
    clear kk27 kn27 kk28 kn28
    have kn29 := kn kk29
    have kn30 := kn kk30
    have bw9 : Below w.heap.size w w9 := (by (repeat (first | (with_reducible assumption) | (with_reducible exact Below.refl _ _) | (with_reducible refine beld_drew ?_) | ((with_reducible refine bset' ?_ ?_); (first | (focus (dsimp only; assumption)) | (focus (simp; done)) | (focus (dsimp only; omega)))) | (with_reducible refine belt_alloc ?_) | ((with_reducible refine zeroed_below' ?_ ?_); (first | (focus (simp; done)) | (focus (dsimp only; omega)))) | (with_reducible refine bt ?_ (by assumption)))))
    have sw9 := bw9.size
    clear hw9 bw8
    go_wp2
    go_ret
    exact ⟨rfl, bw9⟩
set_option maxRecDepth 100000 in
set_option maxHeartbeats 3200000 in
theorem grows_B (a0 : Option Addr) (cap0 : Nat) (zs : List Int) (size : Int) (z1 : zs.length ≤ cap0) (z2 : cap0 ≤ 2 ^ 63 - 1) (hlong : ¬ 320 < zs.length) (no sq of de pr bo li to : Nat) (da dy : ByteArray) (hdy : da ++ ⟨#[121]⟩ = dy) (hv : buC no sq of de pr bo li to da.size = 0) (hd : da.size ≤ 300) (hc : (to : Int) < (of : Int) + ((da.size : Int) + 1))
    (w : World) (hR : Row .i64 w a0 cap0 zs) (hH : HTab w) (hT : STab w) (gm : ∀ w, Row .i64 w a0 cap0 zs → Calls Tryd.prog 24 #[.slice a0 zs.length cap0] w fun e w' => e = .returned (buv no sq of de pr bo li to da) ∧ Below w.heap.size w w') :
    Calls Tryd.prog 9 #[.slice a0 zs.length cap0, .int .i64 size] w fun e w' => e = .returned (.bool true) ∧ Below w.heap.size w w' := by
  have HT := Lib.hid hH; have ST := Lib.hid hT; have HR := Lib.hid hR
  have g0 := Lib.hid known_any
  have hbn := buC_nat hv
  have hyz : dy.size = da.size + 1 := by rw [← hdy, ByteArray.size_append]; rfl
  obtain ⟨F, hF⟩ : ∃ F, frLen no sq of de pr bo li to (wholeB of to da.size) = F := ⟨_, rfl⟩
  have hFl := frLen_le no sq of de pr bo li to (wholeB of to da.size)
  rw [hF] at hFl
  have hP := putN_length da.size
  have gs := fun w h => size_ok no sq of de pr bo li to da hv w h
  rw [hF] at gs
  have hsz : szN F da.size ≤ 400 := by unfold szN; omega
  have gr1 := fun w h => room_ok no sq of de pr bo li to (szN F da.size : Nat) da hv (by omega) w h
  rw [hF, roomGo_exact F da.size (by omega)] at gr1
  obtain ⟨k, ek, lk⟩ := nat_mod size 1100 (by omega)
  have gn : ∀ w, Calls Tryd.prog 25 #[.int .i64 size, .int .i64 1100] w fun e w' => e = .returned (.int .i64 (k : Int)) ∧ w = w' := fun w => by have := mod_any size 1100 w (by omega) (by omega); rwa [ek] at this
  have gr2 := fun w h => room_ok no sq of de pr bo li to (k : Int) da hv (by omega) w h
  have gr3 := fun w h => room_ok no sq of de pr bo li to ((k : Int) + 1) da hv (by omega) w h
  rw [hF] at gr2 gr3
  have hst := roomGo_step F (k : Int)
  have hle := roomGo_le F ((k : Int) + 1) 1000
  obtain ⟨r2, hr2⟩ : ∃ r, roomGo F (k : Int) 1000 = r := ⟨_, rfl⟩
  obtain ⟨r3, hr3⟩ : ∃ r, roomGo F ((k : Int) + 1) 1000 = r := ⟨_, rfl⟩
  rw [hr2] at gr2 hst; rw [hr3] at gr3 hst hle
  obtain ⟨S, hS⟩ : ∃ S, szN F da.size = S := ⟨_, rfl⟩
  have hss := szN_step F da.size (by omega)
  rw [hS] at gs gr1 hsz hss
  have nn : (0 : Int) ≤ (of : Int) := by omega
  have n1 : ¬ (9223372036854775807 < da.size + (⟨#[121]⟩ : ByteArray).size) := by show ¬ (9223372036854775807 < da.size + 1); omega
  have q1 : IntKind.i64.wrap ((of : Int) + ((da.size : Int) + 1)) = (of : Int) + ((da.size : Int) + 1) := IntWalk.i64_in _ (by omega)
  replace gm := Lib.hid gm; replace gs := Lib.hid gs; replace gr1 := Lib.hid gr1; replace gr2 := Lib.hid gr2; replace gr3 := Lib.hid gr3; replace gn := Lib.hid gn
  have mx : max (to : Int) ((of : Int) + ((da.size : Int) + 1)) = ((of : Int) + ((da.size : Int) + 1)) := by omega
  have ne : ((to : Int) == (of : Int) + ((da.size : Int) + 1)) = false := by simp; omega
  have c0 : (0 : Int) ≤ (r2 : Int) := by omega
  have c1 : (r2 : Int) ≤ (r3 : Int) := by omega
  have c2 : (r3 : Int) ≤ (r2 : Int) + 1 := by omega
  have c3 : (r3 : Int) ≤ 1000 := by omega
  have hyz2 : (dy.size : Int) = (da.size : Int) + 1 := by omega
  clear hR hH hT hv hbn hF hFl hP ek hr2 hr3 hst hle hS hyz hss
  go_enter Tryd.func9, Tryd.ntmps9
  go_wp2_with fail
  (with_reducible refine (g0.out _ HT.out ST.out).mono ?_)
  rintro e w1 ⟨rfl, hw1⟩
  have bw1 : Below w.heap.size w w1 := (by (repeat (first | (with_reducible assumption) | (with_reducible exact Below.refl _ _) | (with_reducible refine beld_drew ?_) | ((with_reducible refine bset' ?_ ?_); (first | (focus (dsimp only; assumption)) | (focus (simp; done)) | (focus (dsimp only; omega)))) | (with_reducible refine belt_alloc ?_) | ((with_reducible refine zeroed_below' ?_ ?_); (first | (focus (simp; done)) | (focus (dsimp only; omega)))) | (with_reducible refine bt ?_ (by assumption)))))
  have sw1 := bw1.size
  clear hw1
  go_wp2_with fail
  (with_reducible refine (gm.out _ (HR.out.below bw1)).mono ?_)
  rintro e w2 ⟨rfl, hw2⟩
  have bw2 : Below w.heap.size w w2 := (by (repeat (first | (with_reducible assumption) | (with_reducible exact Below.refl _ _) | (with_reducible refine beld_drew ?_) | ((with_reducible refine bset' ?_ ?_); (first | (focus (dsimp only; assumption)) | (focus (simp; done)) | (focus (dsimp only; omega)))) | (with_reducible refine belt_alloc ?_) | ((with_reducible refine zeroed_below' ?_ ?_); (first | (focus (simp; done)) | (focus (dsimp only; omega)))) | (with_reducible refine bt ?_ (by assumption)))))
  have sw2 := bw2.size
  clear hw2 bw1
  go_wp2_with fail
  have B2 : Below w.heap.size w (w2.alloc (.cells #[.int .i64 (no : Int), .int .u64 (sq : Int), .int .i64 (of : Int), .int .i64 (de : Int), .int .i64 (pr : Int), .int .i64 (bo : Int), .int .i64 (li : Int), .int .i64 (to : Int), .string da] 26)) := (bw2.alloc sw2 _)
  go_wp2_with fail
  (with_reducible refine (gs.out _ (HT.out.on B2)).mono ?_)
  rintro e w3 ⟨rfl, hw3⟩
  have kk31 : blk w3 (w2.heap.size) = some #[.int .i64 (no : Int), .int .u64 (sq : Int), .int .i64 (of : Int), .int .i64 (de : Int), .int .i64 (pr : Int), .int .i64 (bo : Int), .int .i64 (li : Int), .int .i64 (to : Int), .string da] := (by (apply blk_to; (focus (repeat (first | (with_reducible assumption) | (with_reducible apply blk_drew) | (with_reducible apply blk_set) | ((with_reducible apply blk_other'); (first | (focus (dsimp only; assumption)) | (focus (simp; done)) | (focus (dsimp only; omega)))) | ((with_reducible apply blk_alloc_new); (first | (with_reducible rfl) | (focus (simp; done)) | (focus (simp; omega)))) | (with_reducible apply blk_alloc) | ((with_reducible apply blk_below); (with_reducible assumption))))); rfl))
  have kn31 := kn kk31
  have bw3 : Below w.heap.size w w3 := (by (repeat (first | (with_reducible assumption) | (with_reducible exact Below.refl _ _) | (with_reducible refine beld_drew ?_) | ((with_reducible refine bset' ?_ ?_); (first | (focus (dsimp only; assumption)) | (focus (simp; done)) | (focus (dsimp only; omega)))) | (with_reducible refine belt_alloc ?_) | ((with_reducible refine zeroed_below' ?_ ?_); (first | (focus (simp; done)) | (focus (dsimp only; omega)))) | (with_reducible refine bt ?_ (by assumption)))))
  have sw3 := bw3.size
  clear hw3 bw2
  go_wp2_with fail
  (with_reducible refine (gr1.out _ (HT.out.on bw3)).mono ?_)
  rintro e w4 ⟨rfl, hw4⟩
  have kk32 : blk w4 (w2.heap.size) = some #[.int .i64 (no : Int), .int .u64 (sq : Int), .int .i64 (of : Int), .int .i64 (de : Int), .int .i64 (pr : Int), .int .i64 (bo : Int), .int .i64 (li : Int), .int .i64 (to : Int), .string da] := (by (apply blk_to; (focus (repeat (first | (with_reducible assumption) | (with_reducible apply blk_drew) | (with_reducible apply blk_set) | ((with_reducible apply blk_other'); (first | (focus (dsimp only; assumption)) | (focus (simp; done)) | (focus (dsimp only; omega)))) | ((with_reducible apply blk_alloc_new); (first | (with_reducible rfl) | (focus (simp; done)) | (focus (simp; omega)))) | (with_reducible apply blk_alloc) | ((with_reducible apply blk_below); (with_reducible assumption))))); rfl))
  clear kk31 kn31
  have kn32 := kn kk32
  have bw4 : Below w.heap.size w w4 := (by (repeat (first | (with_reducible assumption) | (with_reducible exact Below.refl _ _) | (with_reducible refine beld_drew ?_) | ((with_reducible refine bset' ?_ ?_); (first | (focus (dsimp only; assumption)) | (focus (simp; done)) | (focus (dsimp only; omega)))) | (with_reducible refine belt_alloc ?_) | ((with_reducible refine zeroed_below' ?_ ?_); (first | (focus (simp; done)) | (focus (dsimp only; omega)))) | (with_reducible refine bt ?_ (by assumption)))))
  have sw4 := bw4.size
  clear hw4 bw3
  have l4 : w2.heap.size < w4.heap.size := blk_lt (by assumption : blk w4 w2.heap.size = some (#[.int .i64 (no : Int), .int .u64 (sq : Int), .int .i64 (of : Int), .int .i64 (de : Int), .int .i64 (pr : Int), .int .i64 (bo : Int), .int .i64 (li : Int), .int .i64 (to : Int), .string da]))
  go_wp2_with fail
  have B4 : Below w.heap.size w (w4.alloc (.cells #[.int .i64 (no : Int), .int .u64 (sq : Int), .int .i64 (of : Int), .int .i64 (de : Int), .int .i64 (pr : Int), .int .i64 (bo : Int), .int .i64 (li : Int), .int .i64 ((of : Int) + ((da.size : Int) + 1)), .string dy] 26)) := (bw4.alloc sw4 _)
  go_wp2_with fail
  (with_reducible refine (gn.out _).mono ?_)
  rintro e wx ⟨rfl, rfl⟩
  go_wp2_with fail
  (with_reducible refine (gr2.out _ (HT.out.on B4)).mono ?_)
  rintro e w8 ⟨rfl, hw8⟩
  have kk33 : blk w8 (w2.heap.size) = some #[.int .i64 (no : Int), .int .u64 (sq : Int), .int .i64 (of : Int), .int .i64 (de : Int), .int .i64 (pr : Int), .int .i64 (bo : Int), .int .i64 (li : Int), .int .i64 (to : Int), .string da] := (by (apply blk_to; (focus (repeat (first | (with_reducible assumption) | (with_reducible apply blk_drew) | (with_reducible apply blk_set) | ((with_reducible apply blk_other'); (first | (focus (dsimp only; assumption)) | (focus (simp; done)) | (focus (dsimp only; omega)))) | ((with_reducible apply blk_alloc_new); (first | (with_reducible rfl) | (focus (simp; done)) | (focus (simp; omega)))) | (with_reducible apply blk_alloc) | ((with_reducible apply blk_below); (with_reducible assumption))))); rfl))
  have kk34 : blk w8 (w4.heap.size) = some (#[.int .i64 (no : Int), .int .u64 (sq : Int), .int .i64 (of : Int), .int .i64 (de : Int), .int .i64 (pr : Int), .int .i64 (bo : Int), .int .i64 (li : Int), .int .i64 ((of : Int) + ((da.size : Int) + 1)), .string dy]) := (by (apply blk_to; (focus (repeat (first | (with_reducible assumption) | (with_reducible apply blk_drew) | (with_reducible apply blk_set) | ((with_reducible apply blk_other'); (first | (focus (dsimp only; assumption)) | (focus (simp; done)) | (focus (dsimp only; omega)))) | ((with_reducible apply blk_alloc_new); (first | (with_reducible rfl) | (focus (simp; done)) | (focus (simp; omega)))) | (with_reducible apply blk_alloc) | ((with_reducible apply blk_below); (with_reducible assumption))))); rfl))
  clear kk32 kn32
  have kn33 := kn kk33
  have kn34 := kn kk34
  have bw8 : Below w.heap.size w w8 := (by (repeat (first | (with_reducible assumption) | (with_reducible exact Below.refl _ _) | (with_reducible refine beld_drew ?_) | ((with_reducible refine bset' ?_ ?_); (first | (focus (dsimp only; assumption)) | (focus (simp; done)) | (focus (dsimp only; omega)))) | (with_reducible refine belt_alloc ?_) | ((with_reducible refine zeroed_below' ?_ ?_); (first | (focus (simp; done)) | (focus (dsimp only; omega)))) | (with_reducible refine bt ?_ (by assumption)))))
  have sw8 := bw8.size
  clear hw8 bw4
  go_wp2_with fail
  (with_reducible refine (gr3.out _ (HT.out.on bw8)).mono ?_)
  rintro e w9 ⟨rfl, hw9⟩
  have kk35 : blk w9 (w2.heap.size) = some #[.int .i64 (no : Int), .int .u64 (sq : Int), .int .i64 (of : Int), .int .i64 (de : Int), .int .i64 (pr : Int), .int .i64 (bo : Int), .int .i64 (li : Int), .int .i64 (to : Int), .string da] := (by (apply blk_to; (focus (repeat (first | (with_reducible assumption) | (with_reducible apply blk_drew) | (with_reducible apply blk_set) | ((with_reducible apply blk_other'); (first | (focus (dsimp only; assumption)) | (focus (simp; done)) | (focus (dsimp only; omega)))) | ((with_reducible apply blk_alloc_new); (first | (with_reducible rfl) | (focus (simp; done)) | (focus (simp; omega)))) | (with_reducible apply blk_alloc) | ((with_reducible apply blk_below); (with_reducible assumption))))); rfl))
  have kk36 : blk w9 (w4.heap.size) = some (#[.int .i64 (no : Int), .int .u64 (sq : Int), .int .i64 (of : Int), .int .i64 (de : Int), .int .i64 (pr : Int), .int .i64 (bo : Int), .int .i64 (li : Int), .int .i64 ((of : Int) + ((da.size : Int) + 1)), .string dy]) := (by (apply blk_to; (focus (repeat (first | (with_reducible assumption) | (with_reducible apply blk_drew) | (with_reducible apply blk_set) | ((with_reducible apply blk_other'); (first | (focus (dsimp only; assumption)) | (focus (simp; done)) | (focus (dsimp only; omega)))) | ((with_reducible apply blk_alloc_new); (first | (with_reducible rfl) | (focus (simp; done)) | (focus (simp; omega)))) | (with_reducible apply blk_alloc) | ((with_reducible apply blk_below); (with_reducible assumption))))); rfl))
  clear kk33 kn33 kk34 kn34
  have kn35 := kn kk35
  have kn36 := kn kk36
  have bw9 : Below w.heap.size w w9 := (by (repeat (first | (with_reducible assumption) | (with_reducible exact Below.refl _ _) | (with_reducible refine beld_drew ?_) | ((with_reducible refine bset' ?_ ?_); (first | (focus (dsimp only; assumption)) | (focus (simp; done)) | (focus (dsimp only; omega)))) | (with_reducible refine belt_alloc ?_) | ((with_reducible refine zeroed_below' ?_ ?_); (first | (focus (simp; done)) | (focus (dsimp only; omega)))) | (with_reducible refine bt ?_ (by assumption)))))
  have sw9 := bw9.size
  clear hw9 bw8
  go_wp2
  go_ret
  exact ⟨rfl, bw9⟩
set_option maxRecDepth 100000 in
set_option maxHeartbeats 1600000 in
theorem wireGrows_walk (a0 : Option Addr) (len0 cap0 : Nat) (z0 : List Int) (size : Int) (w : World) (w0 : IsRow .i64 w a0 len0 cap0 z0) (T0 : Lib.TabIs Tryd.prog w sumNm .u32 sumTab) (T1 : Lib.TabIs Tryd.prog w headsNm .u8 headsTab) :
    Calls Tryd.prog 9 #[.slice a0 len0 cap0, .int .i64 size] w fun e w' => e = .returned (.bool true) ∧ Below w.heap.size w w' := by
  obtain ⟨hl, hr⟩ := row_of w0
  obtain ⟨zs, hzs⟩ : ∃ zs, z0.take len0 = zs := ⟨_, rfl⟩
  rw [hzs] at hl hr
  subst hl
  have z1 := hr.1; have z2 := hr.2.1
  unfold maxLen at z2
  by_cases hlong : 320 < zs.length
  · have HT := Lib.hid (htab_of T1); have ST := Lib.hid (stab_of T0)
    have g0 := Lib.hid known_any
    clear T0 T1 w0 hr hzs
    go_enter Tryd.func9, Tryd.ntmps9
    go_wp2_with fail
    (with_reducible refine (g0.out _ HT.out ST.out).mono ?_)
    rintro e w1 ⟨rfl, hw1⟩
    have bw1 : Below w.heap.size w w1 := (by (repeat (first | (with_reducible assumption) | (with_reducible exact Below.refl _ _) | (with_reducible refine beld_drew ?_) | ((with_reducible refine bset' ?_ ?_); (first | (focus (dsimp only; assumption)) | (focus (simp; done)) | (focus (dsimp only; omega)))) | (with_reducible refine belt_alloc ?_) | ((with_reducible refine zeroed_below' ?_ ?_); (first | (focus (simp; done)) | (focus (dsimp only; omega)))) | (with_reducible refine bt ?_ (by assumption)))))
    have sw1 := bw1.size
    clear hw1
    go_wp2
    go_ret
    exact ⟨rfl, bw1⟩
  · obtain ⟨no, sq, of, de, pr, bo, li, to, da, hv, hd, gm⟩ := made_any a0 cap0 zs
    obtain ⟨dy, hdy⟩ : ∃ dy, da ++ (⟨#[121]⟩ : ByteArray) = dy := ⟨_, rfl⟩
    by_cases hc : (of : Int) + ((da.size : Int) + 1) ≤ (to : Int)
    · cases hwb : wholeB of to da.size
      · cases hwc : wholeB of to dy.size
        · exact grows_A3 a0 cap0 zs size z1 z2 hlong no sq of de pr bo li to da dy hdy hv hd hc hwb hwc w hr (htab_of T1) (stab_of T0) gm
        · exact grows_A2 a0 cap0 zs size z1 z2 hlong no sq of de pr bo li to da dy hdy hv hd hc hwb hwc w hr (htab_of T1) (stab_of T0) gm
      · exact grows_A1 a0 cap0 zs size z1 z2 hlong no sq of de pr bo li to da dy hdy hv hd hc hwb w hr (htab_of T1) (stab_of T0) gm
    · exact grows_B a0 cap0 zs size z1 z2 hlong no sq of de pr bo li to da dy hdy hv hd (by omega) w hr (htab_of T1) (stab_of T0) gm
end Go.Proofs.YtiphddlakbbfiaaDoor
