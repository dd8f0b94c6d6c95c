/- Keys, both sides. -/
import Derived.Test.YtdbmiijnedkipaaDoorBuLaw6
import Derived.Test.YtdbmiijnedkipaaDoorBuParse4
namespace Go.Proofs.YtdbmiijnedkipaaDoor
set_option linter.unusedVariables false
open Go.RowKit

theorem gotK_idv (r : Option (Nat × Nat × Nat)) : ∃ (a b c e : Int), gotK r = (idv a b c, e) := by
  cases r with
  | none => exact ⟨0, 0, 0, 3, rfl⟩
  | some x =>
    obtain ⟨a, b, c⟩ := x
    unfold gotK
    dsimp only
    split
    · exact ⟨_, _, _, _, rfl⟩
    · exact ⟨_, _, _, _, rfl⟩
set_option maxRecDepth 100000 in
set_option maxHeartbeats 6400000 in
theorem bundleKeys_walk (no sq of : Int) (s : ByteArray) (hsq0 : (Lit.int .u64 sq).wf = true) (hs : s.size ≤ maxLen) (w : World) (htab : Lib.TabIs Tryd.prog w tabNm .u64 Lib.pow10Tab) :
    Calls Tryd.prog 7 #[idv no sq of, .string s] w fun e w' => e = .returned (.bool true) ∧ Below w.heap.size w w' := by
  have hsq : 0 ≤ sq := by
    simp [Lit.wf, IntKind.min, IntKind.signed] at hsq0; omega
  clear hsq0
  have T := tab_of htab; clear htab
  have HT : Hid (∀ W, RowKit.Below w.heap.size w W → Tab W) := fun W hW => T.on hW
  clear T
  have g0 := Lib.hid awake_any
  by_cases h100 : 100 < s.size
  · go_enter Tryd.func7, Tryd.ntmps7
    go_wp2_with fail
    (with_reducible refine (g0.out _).mono ?_)
    rintro e w1 ⟨rfl, hw1⟩
    have bw1 : Below w.heap.size w w1 := (by (repeat (first | (with_reducible assumption) | (with_reducible exact Below.refl _ _) | (with_reducible refine beld_drew ?_) | ((with_reducible refine bset' ?_ ?_); (first | (focus (dsimp only; assumption)) | (focus (simp; done)) | (focus (dsimp only; omega)))) | (with_reducible refine belt_alloc ?_) | ((with_reducible refine zeroed_below' ?_ ?_); (first | (focus (simp; done)) | (focus (dsimp only; omega)))) | (with_reducible refine bt ?_ (by assumption)))))
    have sw1 := bw1.size
    clear hw1
    go_wp2
    go_ret
    exact ⟨rfl, by (repeat (first | (with_reducible assumption) | (with_reducible exact Below.refl _ _) | (with_reducible refine beld_drew ?_) | ((with_reducible refine bset' ?_ ?_); (first | (focus (dsimp only; assumption)) | (focus (simp; done)) | (focus (dsimp only; omega)))) | (with_reducible refine belt_alloc ?_) | ((with_reducible refine zeroed_below' ?_ ?_); (first | (focus (simp; done)) | (focus (dsimp only; omega)))) | (with_reducible refine bt ?_ (by assumption))))⟩
  · have g1 := fun w ht => key_any no sq of hsq w ht
    have g2 := fun w => refKey_any no sq of hsq w
    have g3 := fun w => parseKey_any s (by omega) w
    have g4 := fun w => refParseKey_any s (by omega) w
    rw [parse_eq] at g3
    obtain ⟨a, b, c, e, hq⟩ := gotK_idv (parseR s.data.toList)
    rw [hq] at g3 g4
    obtain ⟨k, hk⟩ : ∃ k, keyC no sq of = k := ⟨_, rfl⟩
    rw [hk] at g1 g2
    obtain ⟨k, q⟩ := k
    simp only at g1 g2 g3 g4
    have E1 := fun w => run_idEq a b c a b c w
    rw [show idEq a b c a b c = true by simp [idEq]] at E1
    clear hk hq
    replace g1 := Lib.hid g1; replace g2 := Lib.hid g2; replace g3 := Lib.hid g3; replace g4 := Lib.hid g4
    go_enter Tryd.func7, Tryd.ntmps7
    go_wp2_with fail
    (with_reducible refine (g1.out _ (by exact HT.out _ (by (repeat (first | (with_reducible assumption) | (with_reducible exact Below.refl _ _) | (with_reducible refine beld_drew ?_) | ((with_reducible refine bset' ?_ ?_); (first | (focus (dsimp only; assumption)) | (focus (simp; done)) | (focus (dsimp only; omega)))) | (with_reducible refine belt_alloc ?_) | ((with_reducible refine zeroed_below' ?_ ?_); (first | (focus (simp; done)) | (focus (dsimp only; omega)))) | (with_reducible refine bt ?_ (by assumption))))))).mono ?_)
    rintro e w1 ⟨rfl, hw1⟩
    have kk1 : blk w1 (w.heap.size) = some #[.int .i64 no, .int .u64 sq, .int .i64 of] := (by (apply blk_to; (focus (repeat (first | (with_reducible assumption) | (with_reducible apply blk_drew) | (with_reducible apply blk_set) | ((with_reducible apply blk_other'); (first | (focus (dsimp only; assumption)) | (focus (simp; done)) | (focus (dsimp only; omega)))) | ((with_reducible apply blk_alloc_new); (first | (with_reducible rfl) | (focus (simp; done)) | (focus (simp; omega)))) | (with_reducible apply blk_alloc) | ((with_reducible apply blk_below); (with_reducible assumption))))); rfl))
    have kn1 := kn kk1
    have bw1 : Below w.heap.size w w1 := (by (repeat (first | (with_reducible assumption) | (with_reducible exact Below.refl _ _) | (with_reducible refine beld_drew ?_) | ((with_reducible refine bset' ?_ ?_); (first | (focus (dsimp only; assumption)) | (focus (simp; done)) | (focus (dsimp only; omega)))) | (with_reducible refine belt_alloc ?_) | ((with_reducible refine zeroed_below' ?_ ?_); (first | (focus (simp; done)) | (focus (dsimp only; omega)))) | (with_reducible refine bt ?_ (by assumption)))))
    have sw1 := bw1.size
    clear hw1
    go_wp2_with fail
    (with_reducible refine (g2.out _).mono ?_)
    rintro e w2 ⟨rfl, hw2⟩
    have kk2 : blk w2 (w.heap.size) = some #[.int .i64 no, .int .u64 sq, .int .i64 of] := (by (apply blk_to; (focus (repeat (first | (with_reducible assumption) | (with_reducible apply blk_drew) | (with_reducible apply blk_set) | ((with_reducible apply blk_other'); (first | (focus (dsimp only; assumption)) | (focus (simp; done)) | (focus (dsimp only; omega)))) | ((with_reducible apply blk_alloc_new); (first | (with_reducible rfl) | (focus (simp; done)) | (focus (simp; omega)))) | (with_reducible apply blk_alloc) | ((with_reducible apply blk_below); (with_reducible assumption))))); rfl))
    clear kk1 kn1
    have kn2 := kn kk2
    have bw2 : Below w.heap.size w w2 := (by (repeat (first | (with_reducible assumption) | (with_reducible exact Below.refl _ _) | (with_reducible refine beld_drew ?_) | ((with_reducible refine bset' ?_ ?_); (first | (focus (dsimp only; assumption)) | (focus (simp; done)) | (focus (dsimp only; omega)))) | (with_reducible refine belt_alloc ?_) | ((with_reducible refine zeroed_below' ?_ ?_); (first | (focus (simp; done)) | (focus (dsimp only; omega)))) | (with_reducible refine bt ?_ (by assumption)))))
    have sw2 := bw2.size
    clear hw2 bw1
    go_wp2_with fail
    (with_reducible refine (g3.out _).mono ?_)
    rintro e w3 ⟨rfl, hw3⟩
    have kk3 : blk w3 (w.heap.size) = some #[.int .i64 no, .int .u64 sq, .int .i64 of] := (by (apply blk_to; (focus (repeat (first | (with_reducible assumption) | (with_reducible apply blk_drew) | (with_reducible apply blk_set) | ((with_reducible apply blk_other'); (first | (focus (dsimp only; assumption)) | (focus (simp; done)) | (focus (dsimp only; omega)))) | ((with_reducible apply blk_alloc_new); (first | (with_reducible rfl) | (focus (simp; done)) | (focus (simp; omega)))) | (with_reducible apply blk_alloc) | ((with_reducible apply blk_below); (with_reducible assumption))))); rfl))
    clear kk2 kn2
    have kn3 := kn kk3
    have bw3 : Below w.heap.size w w3 := (by (repeat (first | (with_reducible assumption) | (with_reducible exact Below.refl _ _) | (with_reducible refine beld_drew ?_) | ((with_reducible refine bset' ?_ ?_); (first | (focus (dsimp only; assumption)) | (focus (simp; done)) | (focus (dsimp only; omega)))) | (with_reducible refine belt_alloc ?_) | ((with_reducible refine zeroed_below' ?_ ?_); (first | (focus (simp; done)) | (focus (dsimp only; omega)))) | (with_reducible refine bt ?_ (by assumption)))))
    have sw3 := bw3.size
    clear hw3 bw2
    go_wp2_with fail
    (with_reducible refine (g4.out _).mono ?_)
    rintro e w4 ⟨rfl, hw4⟩
    have kk4 : blk w4 (w.heap.size) = some #[.int .i64 no, .int .u64 sq, .int .i64 of] := (by (apply blk_to; (focus (repeat (first | (with_reducible assumption) | (with_reducible apply blk_drew) | (with_reducible apply blk_set) | ((with_reducible apply blk_other'); (first | (focus (dsimp only; assumption)) | (focus (simp; done)) | (focus (dsimp only; omega)))) | ((with_reducible apply blk_alloc_new); (first | (with_reducible rfl) | (focus (simp; done)) | (focus (simp; omega)))) | (with_reducible apply blk_alloc) | ((with_reducible apply blk_below); (with_reducible assumption))))); rfl))
    have kk5 : blk w4 (w3.heap.size) = some #[.int .i64 a, .int .u64 b, .int .i64 c] := (by (apply blk_to; (focus (repeat (first | (with_reducible assumption) | (with_reducible apply blk_drew) | (with_reducible apply blk_set) | ((with_reducible apply blk_other'); (first | (focus (dsimp only; assumption)) | (focus (simp; done)) | (focus (dsimp only; omega)))) | ((with_reducible apply blk_alloc_new); (first | (with_reducible rfl) | (focus (simp; done)) | (focus (simp; omega)))) | (with_reducible apply blk_alloc) | ((with_reducible apply blk_below); (with_reducible assumption))))); rfl))
    clear kk3 kn3
    have kn4 := kn kk4
    have kn5 := kn kk5
    have bw4 : Below w.heap.size w w4 := (by (repeat (first | (with_reducible assumption) | (with_reducible exact Below.refl _ _) | (with_reducible refine beld_drew ?_) | ((with_reducible refine bset' ?_ ?_); (first | (focus (dsimp only; assumption)) | (focus (simp; done)) | (focus (dsimp only; omega)))) | (with_reducible refine belt_alloc ?_) | ((with_reducible refine zeroed_below' ?_ ?_); (first | (focus (simp; done)) | (focus (dsimp only; omega)))) | (with_reducible refine bt ?_ (by assumption)))))
    have sw4 := bw4.size
    clear hw4 bw3
    go_wp2_with fail
    (with_reducible refine (g0.out _).mono ?_)
    rintro e w5 ⟨rfl, hw5⟩
    have kk6 : blk w5 (w.heap.size) = some #[.int .i64 no, .int .u64 sq, .int .i64 of] := (by (apply blk_to; (focus (repeat (first | (with_reducible assumption) | (with_reducible apply blk_drew) | (with_reducible apply blk_set) | ((with_reducible apply blk_other'); (first | (focus (dsimp only; assumption)) | (focus (simp; done)) | (focus (dsimp only; omega)))) | ((with_reducible apply blk_alloc_new); (first | (with_reducible rfl) | (focus (simp; done)) | (focus (simp; omega)))) | (with_reducible apply blk_alloc) | ((with_reducible apply blk_below); (with_reducible assumption))))); rfl))
    have kk7 : blk w5 (w3.heap.size) = some #[.int .i64 a, .int .u64 b, .int .i64 c] := (by (apply blk_to; (focus (repeat (first | (with_reducible assumption) | (with_reducible apply blk_drew) | (with_reducible apply blk_set) | ((with_reducible apply blk_other'); (first | (focus (dsimp only; assumption)) | (focus (simp; done)) | (focus (dsimp only; omega)))) | ((with_reducible apply blk_alloc_new); (first | (with_reducible rfl) | (focus (simp; done)) | (focus (simp; omega)))) | (with_reducible apply blk_alloc) | ((with_reducible apply blk_below); (with_reducible assumption))))); rfl))
    have kk8 : blk w5 (w4.heap.size) = some #[.int .i64 a, .int .u64 b, .int .i64 c] := (by (apply blk_to; (focus (repeat (first | (with_reducible assumption) | (with_reducible apply blk_drew) | (with_reducible apply blk_set) | ((with_reducible apply blk_other'); (first | (focus (dsimp only; assumption)) | (focus (simp; done)) | (focus (dsimp only; omega)))) | ((with_reducible apply blk_alloc_new); (first | (with_reducible rfl) | (focus (simp; done)) | (focus (simp; omega)))) | (with_reducible apply blk_alloc) | ((with_reducible apply blk_below); (with_reducible assumption))))); rfl))
    clear kk4 kn4 kk5 kn5
    have kn6 := kn kk6
    have kn7 := kn kk7
    have kn8 := kn kk8
    have bw5 : Below w.heap.size w w5 := (by (repeat (first | (with_reducible assumption) | (with_reducible exact Below.refl _ _) | (with_reducible refine beld_drew ?_) | ((with_reducible refine bset' ?_ ?_); (first | (focus (dsimp only; assumption)) | (focus (simp; done)) | (focus (dsimp only; omega)))) | (with_reducible refine belt_alloc ?_) | ((with_reducible refine zeroed_below' ?_ ?_); (first | (focus (simp; done)) | (focus (dsimp only; omega)))) | (with_reducible refine bt ?_ (by assumption)))))
    have sw5 := bw5.size
    clear hw5 bw4
    go_wp2
    go_ret
    exact ⟨rfl, by (repeat (first | (with_reducible assumption) | (with_reducible exact Below.refl _ _) | (with_reducible refine beld_drew ?_) | ((with_reducible refine bset' ?_ ?_); (first | (focus (dsimp only; assumption)) | (focus (simp; done)) | (focus (dsimp only; omega)))) | (with_reducible refine belt_alloc ?_) | ((with_reducible refine zeroed_below' ?_ ?_); (first | (focus (simp; done)) | (focus (dsimp only; omega)))) | (with_reducible refine bt ?_ (by assumption))))⟩
end Go.Proofs.YtdbmiijnedkipaaDoor
