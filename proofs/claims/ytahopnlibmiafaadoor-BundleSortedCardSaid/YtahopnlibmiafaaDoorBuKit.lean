/- packhorsekit: bundles made of a number. -/
import Derived.Test.YtahopnlibmiafaaDoorKitMod
import Derived.Test.YtahopnlibmiafaaDoorBuCheck
import Derived.Test.YtahopnlibmiafaaDoorReg
namespace Go.Proofs.YtahopnlibmiafaaDoor
set_option linter.unusedVariables false
open Go.RowKit

set_option maxRecDepth 100000 in
set_option maxHeartbeats 800000 in
theorem bundleID_any (n : Int) (w : World) :
    Calls Tryd.prog 97 #[.int .i64 n] w fun e w' => e = .returned (idv (1 + n % 1073741824 % 4) (n % 1073741824 / 4 % 50) 0) ∧ Below w.heap.size w w' := by
  have Hm := Lib.hid fun w => mod_any n 1073741824 w (by decide) (by decide)
  have h0 := Int.emod_nonneg n (show (1073741824 : Int) ≠ 0 by decide)
  have h1 := Int.emod_lt_of_pos n (show (0 : Int) < 1073741824 by decide)
  obtain ⟨k, hk⟩ : ∃ k, n % 1073741824 = k := ⟨_, rfl⟩
  rw [hk] at Hm h0 h1 ⊢
  clear hk
  go_enter Tryd.func97, Tryd.ntmps97
  go_wp2_with (go_at_call 47; (with_reducible refine (Hm.out _).mono ?_); rintro e wx ⟨rfl, rfl⟩)
  refine ret_blk (b := w.heap.size) (c := #[.int .i64 (1 + k % 4), .int .u64 (k / 4 % 50), .int .i64 0]) (v := idv (1 + k % 4) (k / 4 % 50) 0) (by (apply blk_to; (focus (repeat (first | (with_reducible assumption) | (with_reducible apply blk_drew) | (with_reducible apply blk_set) | ((with_reducible apply blk_other'); (first | (focus (dsimp only; assumption)) | (focus (simp; done)) | (focus (dsimp only; omega)))) | ((with_reducible apply blk_alloc_new); (first | (with_reducible rfl) | (focus (simp; done)) | (focus (simp; omega)))) | (with_reducible apply blk_alloc) | ((with_reducible apply blk_below); (with_reducible assumption))))); rfl)) (fun W' hc => by simp [results, Tryd.results97, go_sem, hc]) rfl ⟨rfl, by (repeat (first | (with_reducible exact Below.refl _ _) | (with_reducible refine beld_drew ?_) | ((with_reducible refine bset' ?_ ?_); (first | (focus (dsimp only; assumption)) | (focus (simp; done)) | (focus (dsimp only; omega)))) | (with_reducible refine belt_alloc ?_) | ((with_reducible refine zeroed_below' ?_ ?_); (first | (focus (simp; done)) | (focus (dsimp only; omega)))) | (with_reducible refine bt ?_ (by assumption))))⟩

/-- The bundle that is made of a number, but for its data. -/
abbrev madev (k : Int) (da : ByteArray) : Value := buv (1 + k % 4) (k / 4 % 50) 0 (1 + k / 200 % 4) (k / 800 % 3) (k / 2400 % 20) (1 + k / 48000 % 60) (k % 17 + 1) da
def MadeOf (k : Int) (da : ByteArray) : Prop := 0 ≤ k ∧ k < 1073741824 ∧ (da.size : Int) = k % 17 + 1

set_option maxRecDepth 100000 in
set_option maxHeartbeats 1600000 in
theorem bundleOf_any (n : Int) (w : World) :
    Calls Tryd.prog 58 #[.int .i64 n] w fun e w' => ∃ da, MadeOf (n % 1073741824) da ∧ e = .returned (madev (n % 1073741824) da) ∧ Below w.heap.size w w' := by
  have Hm := Lib.hid fun w => mod_any n 1073741824 w (by decide) (by decide)
  have h0 := Int.emod_nonneg n (show (1073741824 : Int) ≠ 0 by decide)
  have h1 := Int.emod_lt_of_pos n (show (0 : Int) < 1073741824 by decide)
  obtain ⟨k, hk⟩ : ∃ k, n % 1073741824 = k := ⟨_, rfl⟩
  rw [hk] at Hm h0 h1 ⊢
  clear hk
  have Hi := Lib.hid fun w => bundleID_any k w
  rw [show k % 1073741824 = k by omega] at Hi
  have hob := fun x w => one_byte (P := Tryd.prog) Tryd.underlying121 Tryd.underlying5 Tryd.underlying9 x w
  go_enter Tryd.func58, Tryd.ntmps58
  go_wp2_with (go_at_call 47; (with_reducible refine (Hm.out _).mono ?_); rintro e wx ⟨rfl, rfl⟩)
  go_loopw [4, 5] (fun d i wr => ∃ (j : Nat) (da : ByteArray), i = .int .i64 j ∧ (j : Int) ≤ k % 17 + 1 ∧ d = .string da ∧ da.size = j ∧ Below w.heap.size w wr ∧ blk wr w.heap.size = some #[.int .i64 0, .int .u64 0, .int .i64 0, .int .i64 0, .int .i64 0, .int .i64 0, .int .i64 0, .int .i64 0, .string ⟨#[]⟩]) (fun _ i _ => (k % 17 + 1 - intOf i).toNat)
  case atStart => exact ⟨0, ⟨#[]⟩, rfl, by omega, rfl, rfl, by (repeat (first | (with_reducible exact Below.refl _ _) | (with_reducible refine beld_drew ?_) | ((with_reducible refine bset' ?_ ?_); (first | (focus (dsimp only; assumption)) | (focus (simp; done)) | (focus (dsimp only; omega)))) | (with_reducible refine belt_alloc ?_) | ((with_reducible refine zeroed_below' ?_ ?_); (first | (focus (simp; done)) | (focus (dsimp only; omega)))) | (with_reducible refine bt ?_ (by assumption)))), by (apply blk_to; (focus (repeat (first | (with_reducible assumption) | (with_reducible apply blk_drew) | (with_reducible apply blk_set) | ((with_reducible apply blk_other'); (first | (focus (dsimp only; assumption)) | (focus (simp; done)) | (focus (dsimp only; omega)))) | ((with_reducible apply blk_alloc_new); (first | (with_reducible rfl) | (focus (simp; done)) | (focus (simp; omega)))) | (with_reducible apply blk_alloc) | ((with_reducible apply blk_below); (with_reducible assumption))))); rfl)⟩
  case round =>
    obtain ⟨j, da, rfl, hj, rfl, hsz, hbw, hbk⟩ := hrel
    have hd : da.size ≤ 100 := by omega
    have Hsz := Lib.hid hsz; clear hsz
    by_cases hlt : (j : Int) ≤ k % 17
    · go_wp2
      go_roundw
      case rel =>
        refine ⟨j + 1, _, by go_num, by omega, rfl, ?_, by (repeat (first | (with_reducible exact Below.refl _ _) | (with_reducible refine beld_drew ?_) | ((with_reducible refine bset' ?_ ?_); (first | (focus (dsimp only; assumption)) | (focus (simp; done)) | (focus (dsimp only; omega)))) | (with_reducible refine belt_alloc ?_) | ((with_reducible refine zeroed_below' ?_ ?_); (first | (focus (simp; done)) | (focus (dsimp only; omega)))) | (with_reducible refine bt ?_ (by assumption)))), by (apply blk_to; (focus (repeat (first | (with_reducible assumption) | (with_reducible apply blk_drew) | (with_reducible apply blk_set) | ((with_reducible apply blk_other'); (first | (focus (dsimp only; assumption)) | (focus (simp; done)) | (focus (dsimp only; omega)))) | ((with_reducible apply blk_alloc_new); (first | (with_reducible rfl) | (focus (simp; done)) | (focus (simp; omega)))) | (with_reducible apply blk_alloc) | ((with_reducible apply blk_below); (with_reducible assumption))))); rfl)⟩
        have := Hsz.out
        simp [ByteArray.size_append, this]; rfl
      case measure => simp [intOf]; omega
    · have hz := Hsz.out
      have HZ : Hid ((da.size : Int) = k % 17 + 1) := by show (da.size : Int) = _; omega
      have Hj := Lib.hid hj; clear hj hz
      have kn0 := kn hbk
      go_wp2_with (go_at_call 97; (with_reducible refine (Hi.out _).mono ?_); rintro e w2 ⟨rfl, h2⟩; have kk1 : blk w2 (w.heap.size) = some #[.int .i64 0, .int .u64 0, .int .i64 0, .int .i64 0, .int .i64 0, .int .i64 0, .int .i64 0, .int .i64 0, .string ⟨#[]⟩] := (by (apply blk_to; (focus (repeat (first | (with_reducible assumption) | (with_reducible apply blk_drew) | (with_reducible apply blk_set) | ((with_reducible apply blk_other'); (first | (focus (dsimp only; assumption)) | (focus (simp; done)) | (focus (dsimp only; omega)))) | ((with_reducible apply blk_alloc_new); (first | (with_reducible rfl) | (focus (simp; done)) | (focus (simp; omega)))) | (with_reducible apply blk_alloc) | ((with_reducible apply blk_below); (with_reducible assumption))))); rfl)); have kn1 := kn kk1)
      refine ret_blk (b := w.heap.size) (c := #[.int .i64 (1 + k % 4), .int .u64 (k / 4 % 50), .int .i64 0, .int .i64 (1 + k / 200 % 4), .int .i64 (k / 800 % 3), .int .i64 (k / 2400 % 20), .int .i64 (1 + k / 48000 % 60), .int .i64 (da.size : Int), .string da]) (v := madev k da) (by (apply blk_to; (focus (repeat (first | (with_reducible assumption) | (with_reducible apply blk_drew) | (with_reducible apply blk_set) | ((with_reducible apply blk_other'); (first | (focus (dsimp only; assumption)) | (focus (simp; done)) | (focus (dsimp only; omega)))) | ((with_reducible apply blk_alloc_new); (first | (with_reducible rfl) | (focus (simp; done)) | (focus (simp; omega)))) | (with_reducible apply blk_alloc) | ((with_reducible apply blk_below); (with_reducible assumption))))); rfl)) (fun W' hc => by simp [results, Tryd.results58, go_sem, hc, HZ.out]) rfl ⟨da, ⟨h0, h1, HZ.out⟩, rfl, by (repeat (first | (with_reducible assumption) | (with_reducible exact Below.refl _ _) | (with_reducible refine beld_drew ?_) | ((with_reducible refine bset' ?_ ?_); (first | (focus (dsimp only; assumption)) | (focus (simp; done)) | (focus (dsimp only; omega)))) | (with_reducible refine belt_alloc ?_) | ((with_reducible refine zeroed_below' ?_ ?_); (first | (focus (simp; done)) | (focus (dsimp only; omega)))) | (with_reducible refine bt ?_ (by assumption))))⟩
end Go.Proofs.YtahopnlibmiafaaDoor
