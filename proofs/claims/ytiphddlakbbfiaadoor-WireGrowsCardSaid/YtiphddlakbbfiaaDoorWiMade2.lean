/- Made: the bundle that is made of numbers. Written by gen_wimade.py. -/
import Derived.Test.YtiphddlakbbfiaaDoorWiMade
namespace Go.Proofs.YtiphddlakbbfiaaDoor
set_option linter.unusedVariables false
open Go.RowKit

theorem ret_blkM {P : Program} {fn : Func} {R : Ending → World → Prop} {a : Act} {W : World} {b : Nat} {c : Array Value} {v : Value} (hb : blk W b = some c)
    (hres : ∀ W' : World, (∀ i, W'.cell? ⟨b, i, none⟩ = c[i]?) → (results fn a.tmps).run P W' = .ok v W') (hdf : a.defers = []) (hR : R (.returned v) W) : bodyPost P fn R .ret a W :=
  bodyPost_ret (v := v) (hres W (fun i => blk_cell hb i)) hdf hR
set_option maxRecDepth 100000 in
theorem pick_any (a : Option Addr) (cap : Nat) (zs : List Int) (k : Nat) (hk : k ≤ 100) (m : Int) (h1 : 1 ≤ m) (h2 : m ≤ 1152921504606846976) (r : Nat) (hr : zs.getD k 0 % m = (r : Int)) (w : World) (h : Row .i64 w a cap zs) :
    Calls Tryd.prog 47 #[.slice a zs.length cap, .int .i64 (k : Int), .int .i64 m] w fun e w' => e = .returned (.int .i64 (r : Int)) ∧ w = w' := by
  have g1 := at_any a cap zs k w h hk
  obtain ⟨x, hx⟩ : ∃ x, zs.getD k 0 = x := ⟨_, rfl⟩
  rw [hx] at g1 hr
  have g2 := mod_any x m w h1 h2
  rw [hr] at g2
  replace g1 := Lib.hid g1; replace g2 := Lib.hid g2
  clear hx hr h h1 h2
  go_enter Tryd.func47, Tryd.ntmps47
  go_wp2_with (first | (go_at_call 65; (with_reducible refine g1.out.mono ?_); rintro e wx ⟨rfl, rfl⟩) | (go_at_call 25; (with_reducible refine g2.out.mono ?_); rintro e wx ⟨rfl, rfl⟩))
  go_ret
  exact ⟨rfl, rfl⟩
theorem nat_mod (x m : Int) (h : 1 ≤ m) : ∃ r : Nat, x % m = (r : Int) ∧ (r : Int) < m := by
  have h1 := Int.emod_nonneg x (show m ≠ 0 by omega)
  have h2 := Int.emod_lt_of_pos x (show 0 < m by omega)
  exact ⟨(x % m).toNat, by omega, by omega⟩
theorem row_drop {w : World} {b off cap : Nat} {zs : List Int} (k : Nat) (h : Row .i64 w (some ⟨b, off, none⟩) cap zs) (hk : k < zs.length) : Row .i64 w (some ⟨b, off + k, none⟩) (cap - k) (zs.drop k) := by
  obtain ⟨h1, h2, h3, h4, h5⟩ := h
  obtain ⟨b', off', e, hlt, hc⟩ := h5 (by omega)
  obtain ⟨rfl, rfl⟩ : b = b' ∧ off = off' := by simpa using e
  refine ⟨by rw [List.length_drop]; omega, by omega, fun z hz => h3 z (List.mem_of_mem_drop hz), fun h => (by cases h), fun _ => ⟨b, off + k, rfl, hlt, fun i hi => ?_⟩⟩
  rw [List.length_drop] at hi
  have := hc (k + i) (by omega)
  rw [show off + k + i = off + (k + i) by omega, this]
  simp
set_option maxRecDepth 100000 in
set_option maxHeartbeats 3200000 in
theorem made_short_whole (a : Option Addr) (cap : Nat) (zs : List Int) (n0 n1 n2 n3 n4 n5 n6 : Nat) (e0 : zs.getD 0 0 % 16 = (n0 : Int)) (e1 : zs.getD 1 0 % 1099511627776 = (n1 : Int)) (e2 : zs.getD 2 0 % 16 = (n2 : Int)) (e3 : zs.getD 3 0 % 3 = (n3 : Int)) (e4 : zs.getD 4 0 % 1099511627776 = (n4 : Int)) (e5 : zs.getD 5 0 % 1048576 = (n5 : Int)) (e6 : zs.getD 6 0 % 3 = (n6 : Int)) (l0 : (n0 : Int) < 16) (l1 : (n1 : Int) < 1099511627776) (l2 : (n2 : Int) < 16) (l5 : (n5 : Int) < 1048576)  (hlen : zs.length ≤ 8) (h6 : n6 = 0) (w : World) (hR : Row .i64 w a cap zs) :
    Calls Tryd.prog 24 #[.slice a zs.length cap] w fun e w' => e = .returned (.agg #[.int .i64 (1 + (n0 : Int)), .int .u64 (n1 : Int), .int .i64 0, .int .i64 (1 + (n2 : Int)), .int .i64 (n3 : Int), .int .i64 (n4 : Int), .int .i64 (1 + (n5 : Int)), .int .i64 1, .string ⟨#[120]⟩]) ∧ Below w.heap.size w w' := by
  have g0 : ∀ w, Row .i64 w a cap zs → Calls Tryd.prog 47 #[.slice a zs.length cap, .int .i64 0, .int .i64 16] w fun e w' => e = .returned (.int .i64 (n0 : Int)) ∧ w = w' := fun w h => pick_any a cap zs 0 (by omega) 16 (by omega) (by omega) n0 e0 w h
  replace g0 := Lib.hid g0
  have g1 : ∀ w, Row .i64 w a cap zs → Calls Tryd.prog 47 #[.slice a zs.length cap, .int .i64 1, .int .i64 1099511627776] w fun e w' => e = .returned (.int .i64 (n1 : Int)) ∧ w = w' := fun w h => pick_any a cap zs 1 (by omega) 1099511627776 (by omega) (by omega) n1 e1 w h
  replace g1 := Lib.hid g1
  have g2 : ∀ w, Row .i64 w a cap zs → Calls Tryd.prog 47 #[.slice a zs.length cap, .int .i64 2, .int .i64 16] w fun e w' => e = .returned (.int .i64 (n2 : Int)) ∧ w = w' := fun w h => pick_any a cap zs 2 (by omega) 16 (by omega) (by omega) n2 e2 w h
  replace g2 := Lib.hid g2
  have g3 : ∀ w, Row .i64 w a cap zs → Calls Tryd.prog 47 #[.slice a zs.length cap, .int .i64 3, .int .i64 3] w fun e w' => e = .returned (.int .i64 (n3 : Int)) ∧ w = w' := fun w h => pick_any a cap zs 3 (by omega) 3 (by omega) (by omega) n3 e3 w h
  replace g3 := Lib.hid g3
  have g4 : ∀ w, Row .i64 w a cap zs → Calls Tryd.prog 47 #[.slice a zs.length cap, .int .i64 4, .int .i64 1099511627776] w fun e w' => e = .returned (.int .i64 (n4 : Int)) ∧ w = w' := fun w h => pick_any a cap zs 4 (by omega) 1099511627776 (by omega) (by omega) n4 e4 w h
  replace g4 := Lib.hid g4
  have g5 : ∀ w, Row .i64 w a cap zs → Calls Tryd.prog 47 #[.slice a zs.length cap, .int .i64 5, .int .i64 1048576] w fun e w' => e = .returned (.int .i64 (n5 : Int)) ∧ w = w' := fun w h => pick_any a cap zs 5 (by omega) 1048576 (by omega) (by omega) n5 e5 w h
  replace g5 := Lib.hid g5
  have g6 : ∀ w, Row .i64 w a cap zs → Calls Tryd.prog 47 #[.slice a zs.length cap, .int .i64 6, .int .i64 3] w fun e w' => e = .returned (.int .i64 (n6 : Int)) ∧ w = w' := fun w h => pick_any a cap zs 6 (by omega) 3 (by omega) (by omega) n6 e6 w h
  replace g6 := Lib.hid g6
  have HR := Lib.hid hR
  have z1 := hR.1; have z2 := hR.2.1
  unfold maxLen at z2
  have q1 : IntKind.u64.wrap (n1 : Int) = (n1 : Int) := IntWalk.u64_in _ (by omega)
  have c8 : decide ((8 : Int) < (zs.length : Int)) = false := by simp; omega
  clear hlen
  clear hR e0 e1 e2 e3 e4 e5 e6
  subst h6
  go_enter Tryd.func24, Tryd.ntmps24
  go_wp2_with fail
  (with_reducible refine (g0.out _ ?_).mono ?_)
  · exact HR.out.below (by (repeat (first | (with_reducible assumption) | (with_reducible exact Below.refl _ _) | (with_reducible refine beld_drew ?_) | ((with_reducible refine bset' ?_ ?_); (first | (focus (dsimp only; assumption)) | (focus (simp; done)) | (focus (dsimp only; omega)))) | (with_reducible refine belt_alloc ?_) | ((with_reducible refine zeroed_below' ?_ ?_); (first | (focus (simp; done)) | (focus (dsimp only; omega)))) | (with_reducible refine bt ?_ (by assumption)))))
  rintro e wx ⟨rfl, rfl⟩
  go_wp2_with fail
  (with_reducible refine (g1.out _ ?_).mono ?_)
  · exact HR.out.below (by (repeat (first | (with_reducible assumption) | (with_reducible exact Below.refl _ _) | (with_reducible refine beld_drew ?_) | ((with_reducible refine bset' ?_ ?_); (first | (focus (dsimp only; assumption)) | (focus (simp; done)) | (focus (dsimp only; omega)))) | (with_reducible refine belt_alloc ?_) | ((with_reducible refine zeroed_below' ?_ ?_); (first | (focus (simp; done)) | (focus (dsimp only; omega)))) | (with_reducible refine bt ?_ (by assumption)))))
  rintro e wx ⟨rfl, rfl⟩
  go_wp2_with fail
  (with_reducible refine (g2.out _ ?_).mono ?_)
  · exact HR.out.below (by (repeat (first | (with_reducible assumption) | (with_reducible exact Below.refl _ _) | (with_reducible refine beld_drew ?_) | ((with_reducible refine bset' ?_ ?_); (first | (focus (dsimp only; assumption)) | (focus (simp; done)) | (focus (dsimp only; omega)))) | (with_reducible refine belt_alloc ?_) | ((with_reducible refine zeroed_below' ?_ ?_); (first | (focus (simp; done)) | (focus (dsimp only; omega)))) | (with_reducible refine bt ?_ (by assumption)))))
  rintro e wx ⟨rfl, rfl⟩
  go_wp2_with fail
  (with_reducible refine (g3.out _ ?_).mono ?_)
  · exact HR.out.below (by (repeat (first | (with_reducible assumption) | (with_reducible exact Below.refl _ _) | (with_reducible refine beld_drew ?_) | ((with_reducible refine bset' ?_ ?_); (first | (focus (dsimp only; assumption)) | (focus (simp; done)) | (focus (dsimp only; omega)))) | (with_reducible refine belt_alloc ?_) | ((with_reducible refine zeroed_below' ?_ ?_); (first | (focus (simp; done)) | (focus (dsimp only; omega)))) | (with_reducible refine bt ?_ (by assumption)))))
  rintro e wx ⟨rfl, rfl⟩
  go_wp2_with fail
  (with_reducible refine (g4.out _ ?_).mono ?_)
  · exact HR.out.below (by (repeat (first | (with_reducible assumption) | (with_reducible exact Below.refl _ _) | (with_reducible refine beld_drew ?_) | ((with_reducible refine bset' ?_ ?_); (first | (focus (dsimp only; assumption)) | (focus (simp; done)) | (focus (dsimp only; omega)))) | (with_reducible refine belt_alloc ?_) | ((with_reducible refine zeroed_below' ?_ ?_); (first | (focus (simp; done)) | (focus (dsimp only; omega)))) | (with_reducible refine bt ?_ (by assumption)))))
  rintro e wx ⟨rfl, rfl⟩
  go_wp2_with fail
  (with_reducible refine (g5.out _ ?_).mono ?_)
  · exact HR.out.below (by (repeat (first | (with_reducible assumption) | (with_reducible exact Below.refl _ _) | (with_reducible refine beld_drew ?_) | ((with_reducible refine bset' ?_ ?_); (first | (focus (dsimp only; assumption)) | (focus (simp; done)) | (focus (dsimp only; omega)))) | (with_reducible refine belt_alloc ?_) | ((with_reducible refine zeroed_below' ?_ ?_); (first | (focus (simp; done)) | (focus (dsimp only; omega)))) | (with_reducible refine bt ?_ (by assumption)))))
  rintro e wx ⟨rfl, rfl⟩
  go_wp2_with fail
  (with_reducible refine (g6.out _ ?_).mono ?_)
  · exact HR.out.below (by (repeat (first | (with_reducible assumption) | (with_reducible exact Below.refl _ _) | (with_reducible refine beld_drew ?_) | ((with_reducible refine bset' ?_ ?_); (first | (focus (dsimp only; assumption)) | (focus (simp; done)) | (focus (dsimp only; omega)))) | (with_reducible refine belt_alloc ?_) | ((with_reducible refine zeroed_below' ?_ ?_); (first | (focus (simp; done)) | (focus (dsimp only; omega)))) | (with_reducible refine bt ?_ (by assumption)))))
  rintro e wx ⟨rfl, rfl⟩
  go_wp2
  refine ret_blkM (b := w.heap.size) (c := #[.int .i64 (1 + (n0 : Int)), .int .u64 (n1 : Int), .int .i64 0, .int .i64 (1 + (n2 : Int)), .int .i64 (n3 : Int), .int .i64 (n4 : Int), .int .i64 (1 + (n5 : Int)), .int .i64 1, .string ⟨#[120]⟩]) (v := .agg #[.int .i64 (1 + (n0 : Int)), .int .u64 (n1 : Int), .int .i64 0, .int .i64 (1 + (n2 : Int)), .int .i64 (n3 : Int), .int .i64 (n4 : Int), .int .i64 (1 + (n5 : Int)), .int .i64 1, .string ⟨#[120]⟩]) (by (apply blk_to; (focus (repeat (first | (with_reducible assumption) | (with_reducible apply blk_drew) | (with_reducible apply blk_set) | ((with_reducible apply blk_other'); (first | (focus (dsimp only; assumption)) | (focus (simp; done)) | (focus (dsimp only; omega)))) | ((with_reducible apply blk_alloc_new); (first | (with_reducible rfl) | (focus (simp; done)) | (focus (simp; omega)))) | (with_reducible apply blk_alloc) | ((with_reducible apply blk_below); (with_reducible assumption))))); rfl)) (fun W' e1 => by simp [results, Tryd.results24, go_sem, e1]) rfl ⟨rfl, by (repeat (first | (with_reducible assumption) | (with_reducible exact Below.refl _ _) | (with_reducible refine beld_drew ?_) | ((with_reducible refine bset' ?_ ?_); (first | (focus (dsimp only; assumption)) | (focus (simp; done)) | (focus (dsimp only; omega)))) | (with_reducible refine belt_alloc ?_) | ((with_reducible refine zeroed_below' ?_ ?_); (first | (focus (simp; done)) | (focus (dsimp only; omega)))) | (with_reducible refine bt ?_ (by assumption))))⟩
set_option maxRecDepth 100000 in
set_option maxHeartbeats 3200000 in
theorem made_short_part (a : Option Addr) (cap : Nat) (zs : List Int) (n0 n1 n2 n3 n4 n5 n6 : Nat) (e0 : zs.getD 0 0 % 16 = (n0 : Int)) (e1 : zs.getD 1 0 % 1099511627776 = (n1 : Int)) (e2 : zs.getD 2 0 % 16 = (n2 : Int)) (e3 : zs.getD 3 0 % 3 = (n3 : Int)) (e4 : zs.getD 4 0 % 1099511627776 = (n4 : Int)) (e5 : zs.getD 5 0 % 1048576 = (n5 : Int)) (e6 : zs.getD 6 0 % 3 = (n6 : Int)) (l0 : (n0 : Int) < 16) (l1 : (n1 : Int) < 1099511627776) (l2 : (n2 : Int) < 16) (l5 : (n5 : Int) < 1048576)  (hlen : zs.length ≤ 8) (h6 : 0 < n6) (n7 m6 : Nat) (e7 : zs.getD 7 0 % 19999 = (n7 : Int)) (l7 : (n7 : Int) < 19999) (e6' : zs.getD 6 0 % (20001 - (n7 : Int) - 1) = (m6 : Int)) (l6' : (m6 : Int) < (20001 - (n7 : Int) - 1)) (w : World) (hR : Row .i64 w a cap zs) :
    Calls Tryd.prog 24 #[.slice a zs.length cap] w fun e w' => e = .returned (.agg #[.int .i64 (1 + (n0 : Int)), .int .u64 (n1 : Int), .int .i64 (n7 : Int), .int .i64 (1 + (n2 : Int)), .int .i64 (n3 : Int), .int .i64 (n4 : Int), .int .i64 (1 + (n5 : Int)), .int .i64 ((n7 : Int) + 1 + (m6 : Int)), .string ⟨#[120]⟩]) ∧ Below w.heap.size w w' := by
  have g0 : ∀ w, Row .i64 w a cap zs → Calls Tryd.prog 47 #[.slice a zs.length cap, .int .i64 0, .int .i64 16] w fun e w' => e = .returned (.int .i64 (n0 : Int)) ∧ w = w' := fun w h => pick_any a cap zs 0 (by omega) 16 (by omega) (by omega) n0 e0 w h
  replace g0 := Lib.hid g0
  have g1 : ∀ w, Row .i64 w a cap zs → Calls Tryd.prog 47 #[.slice a zs.length cap, .int .i64 1, .int .i64 1099511627776] w fun e w' => e = .returned (.int .i64 (n1 : Int)) ∧ w = w' := fun w h => pick_any a cap zs 1 (by omega) 1099511627776 (by omega) (by omega) n1 e1 w h
  replace g1 := Lib.hid g1
  have g2 : ∀ w, Row .i64 w a cap zs → Calls Tryd.prog 47 #[.slice a zs.length cap, .int .i64 2, .int .i64 16] w fun e w' => e = .returned (.int .i64 (n2 : Int)) ∧ w = w' := fun w h => pick_any a cap zs 2 (by omega) 16 (by omega) (by omega) n2 e2 w h
  replace g2 := Lib.hid g2
  have g3 : ∀ w, Row .i64 w a cap zs → Calls Tryd.prog 47 #[.slice a zs.length cap, .int .i64 3, .int .i64 3] w fun e w' => e = .returned (.int .i64 (n3 : Int)) ∧ w = w' := fun w h => pick_any a cap zs 3 (by omega) 3 (by omega) (by omega) n3 e3 w h
  replace g3 := Lib.hid g3
  have g4 : ∀ w, Row .i64 w a cap zs → Calls Tryd.prog 47 #[.slice a zs.length cap, .int .i64 4, .int .i64 1099511627776] w fun e w' => e = .returned (.int .i64 (n4 : Int)) ∧ w = w' := fun w h => pick_any a cap zs 4 (by omega) 1099511627776 (by omega) (by omega) n4 e4 w h
  replace g4 := Lib.hid g4
  have g5 : ∀ w, Row .i64 w a cap zs → Calls Tryd.prog 47 #[.slice a zs.length cap, .int .i64 5, .int .i64 1048576] w fun e w' => e = .returned (.int .i64 (n5 : Int)) ∧ w = w' := fun w h => pick_any a cap zs 5 (by omega) 1048576 (by omega) (by omega) n5 e5 w h
  replace g5 := Lib.hid g5
  have g6 : ∀ w, Row .i64 w a cap zs → Calls Tryd.prog 47 #[.slice a zs.length cap, .int .i64 6, .int .i64 3] w fun e w' => e = .returned (.int .i64 (n6 : Int)) ∧ w = w' := fun w h => pick_any a cap zs 6 (by omega) 3 (by omega) (by omega) n6 e6 w h
  replace g6 := Lib.hid g6
  have g7 : ∀ w, Row .i64 w a cap zs → Calls Tryd.prog 47 #[.slice a zs.length cap,   .int .i64 7, .int .i64 19999] w fun e w' => e = .returned (.int .i64 (n7 : Int)) ∧ w = w' := fun w h => pick_any a cap zs 7 (by omega) 19999 (by omega) (by omega) n7 e7 w h
  replace g7 := Lib.hid g7
  have g8 : ∀ w, Row .i64 w a cap zs → Calls Tryd.prog 47 #[.slice a zs.length cap, .int .i64 6, .int .i64 (20001 - (n7 : Int) - 1)] w fun e w' => e = .returned (.int .i64 (m6 : Int)) ∧ w = w' := fun w h => pick_any a cap zs 6 (by omega) (20001 - (n7 : Int) - 1) (by omega) (by omega) m6 e6' w h
  replace g8 := Lib.hid g8
  have HR := Lib.hid hR
  have z1 := hR.1; have z2 := hR.2.1
  unfold maxLen at z2
  have q1 : IntKind.u64.wrap (n1 : Int) = (n1 : Int) := IntWalk.u64_in _ (by omega)
  have c8 : decide ((8 : Int) < (zs.length : Int)) = false := by simp; omega
  clear hlen
  clear hR e0 e1 e2 e3 e4 e5 e6 e7 e6'
  go_enter Tryd.func24, Tryd.ntmps24
  go_wp2_with fail
  (with_reducible refine (g0.out _ ?_).mono ?_)
  · exact HR.out.below (by (repeat (first | (with_reducible assumption) | (with_reducible exact Below.refl _ _) | (with_reducible refine beld_drew ?_) | ((with_reducible refine bset' ?_ ?_); (first | (focus (dsimp only; assumption)) | (focus (simp; done)) | (focus (dsimp only; omega)))) | (with_reducible refine belt_alloc ?_) | ((with_reducible refine zeroed_below' ?_ ?_); (first | (focus (simp; done)) | (focus (dsimp only; omega)))) | (with_reducible refine bt ?_ (by assumption)))))
  rintro e wx ⟨rfl, rfl⟩
  go_wp2_with fail
  (with_reducible refine (g1.out _ ?_).mono ?_)
  · exact HR.out.below (by (repeat (first | (with_reducible assumption) | (with_reducible exact Below.refl _ _) | (with_reducible refine beld_drew ?_) | ((with_reducible refine bset' ?_ ?_); (first | (focus (dsimp only; assumption)) | (focus (simp; done)) | (focus (dsimp only; omega)))) | (with_reducible refine belt_alloc ?_) | ((with_reducible refine zeroed_below' ?_ ?_); (first | (focus (simp; done)) | (focus (dsimp only; omega)))) | (with_reducible refine bt ?_ (by assumption)))))
  rintro e wx ⟨rfl, rfl⟩
  go_wp2_with fail
  (with_reducible refine (g2.out _ ?_).mono ?_)
  · exact HR.out.below (by (repeat (first | (with_reducible assumption) | (with_reducible exact Below.refl _ _) | (with_reducible refine beld_drew ?_) | ((with_reducible refine bset' ?_ ?_); (first | (focus (dsimp only; assumption)) | (focus (simp; done)) | (focus (dsimp only; omega)))) | (with_reducible refine belt_alloc ?_) | ((with_reducible refine zeroed_below' ?_ ?_); (first | (focus (simp; done)) | (focus (dsimp only; omega)))) | (with_reducible refine bt ?_ (by assumption)))))
  rintro e wx ⟨rfl, rfl⟩
  go_wp2_with fail
  (with_reducible refine (g3.out _ ?_).mono ?_)
  · exact HR.out.below (by (repeat (first | (with_reducible assumption) | (with_reducible exact Below.refl _ _) | (with_reducible refine beld_drew ?_) | ((with_reducible refine bset' ?_ ?_); (first | (focus (dsimp only; assumption)) | (focus (simp; done)) | (focus (dsimp only; omega)))) | (with_reducible refine belt_alloc ?_) | ((with_reducible refine zeroed_below' ?_ ?_); (first | (focus (simp; done)) | (focus (dsimp only; omega)))) | (with_reducible refine bt ?_ (by assumption)))))
  rintro e wx ⟨rfl, rfl⟩
  go_wp2_with fail
  (with_reducible refine (g4.out _ ?_).mono ?_)
  · exact HR.out.below (by (repeat (first | (with_reducible assumption) | (with_reducible exact Below.refl _ _) | (with_reducible refine beld_drew ?_) | ((with_reducible refine bset' ?_ ?_); (first | (focus (dsimp only; assumption)) | (focus (simp; done)) | (focus (dsimp only; omega)))) | (with_reducible refine belt_alloc ?_) | ((with_reducible refine zeroed_below' ?_ ?_); (first | (focus (simp; done)) | (focus (dsimp only; omega)))) | (with_reducible refine bt ?_ (by assumption)))))
  rintro e wx ⟨rfl, rfl⟩
  go_wp2_with fail
  (with_reducible refine (g5.out _ ?_).mono ?_)
  · exact HR.out.below (by (repeat (first | (with_reducible assumption) | (with_reducible exact Below.refl _ _) | (with_reducible refine beld_drew ?_) | ((with_reducible refine bset' ?_ ?_); (first | (focus (dsimp only; assumption)) | (focus (simp; done)) | (focus (dsimp only; omega)))) | (with_reducible refine belt_alloc ?_) | ((with_reducible refine zeroed_below' ?_ ?_); (first | (focus (simp; done)) | (focus (dsimp only; omega)))) | (with_reducible refine bt ?_ (by assumption)))))
  rintro e wx ⟨rfl, rfl⟩
  go_wp2_with fail
  (with_reducible refine (g6.out _ ?_).mono ?_)
  · exact HR.out.below (by (repeat (first | (with_reducible assumption) | (with_reducible exact Below.refl _ _) | (with_reducible refine beld_drew ?_) | ((with_reducible refine bset' ?_ ?_); (first | (focus (dsimp only; assumption)) | (focus (simp; done)) | (focus (dsimp only; omega)))) | (with_reducible refine belt_alloc ?_) | ((with_reducible refine zeroed_below' ?_ ?_); (first | (focus (simp; done)) | (focus (dsimp only; omega)))) | (with_reducible refine bt ?_ (by assumption)))))
  rintro e wx ⟨rfl, rfl⟩
  go_wp2_with fail
  (with_reducible refine (g7.out _ ?_).mono ?_)
  · exact HR.out.below (by (repeat (first | (with_reducible assumption) | (with_reducible exact Below.refl _ _) | (with_reducible refine beld_drew ?_) | ((with_reducible refine bset' ?_ ?_); (first | (focus (dsimp only; assumption)) | (focus (simp; done)) | (focus (dsimp only; omega)))) | (with_reducible refine belt_alloc ?_) | ((with_reducible refine zeroed_below' ?_ ?_); (first | (focus (simp; done)) | (focus (dsimp only; omega)))) | (with_reducible refine bt ?_ (by assumption)))))
  rintro e wx ⟨rfl, rfl⟩
  go_wp2_with fail
  refine wp_region_tail 19 (by kernel_rfl) (by kernel_rfl) ?_
  intro W0_1 hE_1 hN_1
  have bW0_1 : Below w.heap.size w W0_1 := (by rw [hE_1.out]; (repeat (first | (with_reducible assumption) | (with_reducible exact Below.refl _ _) | (with_reducible refine beld_drew ?_) | ((with_reducible refine bset' ?_ ?_); (first | (focus (dsimp only; assumption)) | (focus (simp; done)) | (focus (dsimp only; omega)))) | (with_reducible refine belt_alloc ?_) | ((with_reducible refine zeroed_below' ?_ ?_); (first | (focus (simp; done)) | (focus (dsimp only; omega)))) | (with_reducible refine bt ?_ (by assumption)))))
  have kk2 : blk W0_1 (w.heap.size) = some (#[.int .i64 0, .int .u64 0, .int .i64 0, .int .i64 0, .int .i64 0, .int .i64 0, .int .i64 0, .int .i64 0, .string ⟨#[]⟩]) := (by rw [hE_1.out]; (apply blk_to; (focus (repeat (first | (with_reducible assumption) | (with_reducible apply blk_drew) | (with_reducible apply blk_set) | ((with_reducible apply blk_other'); (first | (focus (dsimp only; assumption)) | (focus (simp; done)) | (focus (dsimp only; omega)))) | ((with_reducible apply blk_alloc_new); (first | (with_reducible rfl) | (focus (simp; done)) | (focus (simp; omega)))) | (with_reducible apply blk_alloc) | ((with_reducible apply blk_below); (with_reducible assumption))))); rfl))
  have kk3 : blk W0_1 (w.heap.size + 1) = some (#[.int .i64 (1 + (n0 : Int)), .int .u64 (n1 : Int), .int .i64 (n7 : Int), .int .i64 (1 + (n2 : Int)), .int .i64 (n3 : Int), .int .i64 (n4 : Int), .int .i64 (1 + (n5 : Int)), .int .i64 1, .string ⟨#[120]⟩]) := (by rw [hE_1.out]; (apply blk_to; (focus (repeat (first | (with_reducible assumption) | (with_reducible apply blk_drew) | (with_reducible apply blk_set) | ((with_reducible apply blk_other'); (first | (focus (dsimp only; assumption)) | (focus (simp; done)) | (focus (dsimp only; omega)))) | ((with_reducible apply blk_alloc_new); (first | (with_reducible rfl) | (focus (simp; done)) | (focus (simp; omega)))) | (with_reducible apply blk_alloc) | ((with_reducible apply blk_below); (with_reducible assumption))))); rfl))
  have kn2 := calm_kn kk2
  have kn3 := calm_kn kk3
  clear hE_1
  simp only [List.take_succ_cons, List.take_zero, List.drop_succ_cons, List.drop_zero]
  repeat (go_big_quiet_step ((go_at_call 47; (with_reducible refine Class.same _ (g8.out _ (HR.out.below (bt (by assumption) (Class.ok _))))))))
  refine wpQuiet_nil ?_
  rintro _ ⟨x_1, rfl⟩
  have hx_1 : Calm W0_1 x_1.wd := x_1.ok
  have bw9 : Below w.heap.size w x_1.wd := bt bW0_1 hx_1
  clear kn2; replace kk2 := blk_below hx_1 kk2; have kn2 := kn kk2
  clear kn3; replace kk3 := blk_below hx_1 kk3; have kn3 := kn kk3
  clear hx_1 bW0_1 hN_1
  generalize x_1.wd = w9 at *
  have sw9 := bw9.size
  go_wp2
  refine ret_blkM (b := w.heap.size) (c := #[.int .i64 (1 + (n0 : Int)), .int .u64 (n1 : Int), .int .i64 (n7 : Int), .int .i64 (1 + (n2 : Int)), .int .i64 (n3 : Int), .int .i64 (n4 : Int), .int .i64 (1 + (n5 : Int)), .int .i64 ((n7 : Int) + 1 + (m6 : Int)), .string ⟨#[120]⟩]) (v := .agg #[.int .i64 (1 + (n0 : Int)), .int .u64 (n1 : Int), .int .i64 (n7 : Int), .int .i64 (1 + (n2 : Int)), .int .i64 (n3 : Int), .int .i64 (n4 : Int), .int .i64 (1 + (n5 : Int)), .int .i64 ((n7 : Int) + 1 + (m6 : Int)), .string ⟨#[120]⟩]) (by (apply blk_to; (focus (repeat (first | (with_reducible assumption) | (with_reducible apply blk_drew) | (with_reducible apply blk_set) | ((with_reducible apply blk_other'); (first | (focus (dsimp only; assumption)) | (focus (simp; done)) | (focus (dsimp only; omega)))) | ((with_reducible apply blk_alloc_new); (first | (with_reducible rfl) | (focus (simp; done)) | (focus (simp; omega)))) | (with_reducible apply blk_alloc) | ((with_reducible apply blk_below); (with_reducible assumption))))); rfl)) (fun W' e1 => by simp [results, Tryd.results24, go_sem, e1]) rfl ⟨rfl, by (repeat (first | (with_reducible assumption) | (with_reducible exact Below.refl _ _) | (with_reducible refine beld_drew ?_) | ((with_reducible refine bset' ?_ ?_); (first | (focus (dsimp only; assumption)) | (focus (simp; done)) | (focus (dsimp only; omega)))) | (with_reducible refine belt_alloc ?_) | ((with_reducible refine zeroed_below' ?_ ?_); (first | (focus (simp; done)) | (focus (dsimp only; omega)))) | (with_reducible refine bt ?_ (by assumption))))⟩
end Go.Proofs.YtiphddlakbbfiaaDoor
