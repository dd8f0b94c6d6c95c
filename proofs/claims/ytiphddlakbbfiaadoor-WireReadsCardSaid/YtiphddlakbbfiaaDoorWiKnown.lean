/- The chapter's examples: WireKnown. -/
import Derived.Test.YtiphddlakbbfiaaDoorWiDec3
import Derived.Test.YtiphddlakbbfiaaDoorWiAwake
import Derived.Test.YtiphddlakbbfiaaDoorWiLaw1
namespace Go.Proofs.YtiphddlakbbfiaaDoor
set_option linter.unusedVariables false
open Go.RowKit

theorem OwnsB.frozen {w : World} {base : Nat} {e : TypeId} {v : Value} {g : Nat} {l : List UInt8} (h : OwnsB w base e v g l) (j : Nat) (hj : j < l.length) : w.frozen? ⟨g, j, none⟩ = false := by
  obtain ⟨cap, cur, fz, h1, h2, hg, h3, h4, h5, h6, h7⟩ := h
  have := h3 j (by omega)
  simp [World.frozen?, hg]
  omega
/-- 'out[j] = b'. -/
theorem OwnsB.set {w : World} {base : Nat} {e : TypeId} {v : Value} {g : Nat} {l : List UInt8} (h : OwnsB w base e v g l) (j : Nat) (b : UInt8) : OwnsB (w.setCell ⟨g, j, none⟩ (.int .u8 (b.toNat : Int))) base e v g (l.set j b) := by
  obtain ⟨cap, cur, fz, h1, h2, hg, h3, h4, h5, h6, h7⟩ := h
  obtain ⟨hlt, hk⟩ := Array.getElem?_eq_some_iff.1 hg
  have hgn : (w.setCell ⟨g, j, none⟩ (.int .u8 (b.toNat : Int))).heap[g]? = some (.cells (cur.setIfInBounds j (.int .u8 (b.toNat : Int))) e fz) := by
    show (w.heap.modify g _)[g]? = _
    rw [Array.getElem?_eq_getElem (by rw [Array.size_modify]; exact hlt), Array.getElem_modify_self, hk]
    rfl
  refine ⟨cap, _, fz, by rw [List.length_set]; exact h1, h2, hgn, ?_, by rw [List.length_set]; exact h4, h5, by simpa using h6, ?_⟩
  · intro i hi; exact h3 i (by simpa using hi)
  · rw [List.length_set, Array.toList_setIfInBounds, List.take_set, h7, List.map_set]
/-- Equality of bundles. -/
def buEq (no sq of de pr bo li to : Int) (da : ByteArray) (no' sq' of' de' pr' bo' li' to' : Int) (da' : ByteArray) : Bool := decide (no = no' ∧ sq = sq' ∧ of = of' ∧ de = de' ∧ pr = pr' ∧ bo = bo' ∧ li = li' ∧ to = to' ∧ da.toList = da'.toList)
theorem run_buEq (no sq of de pr bo li to : Int) (da : ByteArray) (no' sq' of' de' pr' bo' li' to' : Int) (da' : ByteArray) (w : World) : Sem.run Tryd.prog (binOp BinOp.eql 26 (.agg #[.int .i64 no, .int .u64 sq, .int .i64 of, .int .i64 de, .int .i64 pr, .int .i64 bo, .int .i64 li, .int .i64 to, .string da]) (.agg #[.int .i64 no', .int .u64 sq', .int .i64 of', .int .i64 de', .int .i64 pr', .int .i64 bo', .int .i64 li', .int .i64 to', .string da'])) w = .ok (.bool (buEq no sq of de pr bo li to da no' sq' of' de' pr' bo' li' to' da')) w := by
  unfold buEq
  go_simp
  repeat' split
  all_goals simp [*]
theorem run_buSame (no sq of de pr bo li to : Int) (da : ByteArray) (w : World) : Sem.run Tryd.prog (binOp BinOp.eql 26 (.agg #[.int .i64 no, .int .u64 sq, .int .i64 of, .int .i64 de, .int .i64 pr, .int .i64 bo, .int .i64 li, .int .i64 to, .string da]) (.agg #[.int .i64 no, .int .u64 sq, .int .i64 of, .int .i64 de, .int .i64 pr, .int .i64 bo, .int .i64 li, .int .i64 to, .string da])) w = .ok (.bool true) w := by
  rw [run_buEq]; simp [buEq]
set_option maxRecDepth 100000 in
set_option maxHeartbeats 1600000 in
theorem fails_bad (s : ByteArray) (hs : s.size ≤ 1000000) (e a : Int) (h : decL s.data.toList = .bad e a) (w : World) (hH : HTab w) (hT : STab w) :
    Calls Tryd.prog 23 #[.string s, .int .i64 e, .int .i64 a] w fun q w' => q = .returned (.bool true) ∧ Below w.heap.size w w' := by
  have g1 := decode_any s hs w hH hT
  rw [h] at g1
  have g1 : Calls Tryd.prog 17 #[.string s] w fun q w' => q = .returned (.tuple #[.agg #[.int .i64 0, .int .u64 0, .int .i64 0, .int .i64 0, .int .i64 0, .int .i64 0, .int .i64 0, .int .i64 0, .string ⟨#[]⟩], .agg #[.int .i64 e, .int .i64 a]]) ∧ Below w.heap.size w w' := g1
  have E1 : ∀ w, Sem.run Tryd.prog (binOp BinOp.eql 26 (.agg #[.int .i64 0, .int .u64 0, .int .i64 0, .int .i64 0, .int .i64 0, .int .i64 0, .int .i64 0, .int .i64 0, .string ⟨#[]⟩]) (.agg #[.int .i64 0, .int .u64 0, .int .i64 0, .int .i64 0, .int .i64 0, .int .i64 0, .int .i64 0, .int .i64 0, .string ⟨#[]⟩])) w = .ok (.bool true) w := fun w => run_buSame 0 0 0 0 0 0 0 0 ⟨#[]⟩ w
  have E2 : ∀ w, Sem.run Tryd.prog (binOp BinOp.eql 36 (.agg #[.int .i64 e, .int .i64 a]) (.agg #[.int .i64 e, .int .i64 a])) w = .ok (.bool true) w := fun w => by have := run_ftEq e a e a w; rwa [show ftEq e a e a = true by simp [ftEq]] at this
  replace g1 := Lib.hid g1
  clear h hH hT
  go_enter Tryd.func23, Tryd.ntmps23
  go_wp2_with fail
  (with_reducible refine (g1.out).mono ?_)
  rintro e w1 ⟨rfl, hw1⟩
  have bw1 : Below w.heap.size w w1 := (by (repeat (first | (with_reducible assumption) | (with_reducible exact Below.refl _ _) | (with_reducible refine beld_drew ?_) | ((with_reducible refine bset' ?_ ?_); (first | (focus (dsimp only; assumption)) | (focus (simp; done)) | (focus (dsimp only; omega)))) | (with_reducible refine belt_alloc ?_) | ((with_reducible refine zeroed_below' ?_ ?_); (first | (focus (simp; done)) | (focus (dsimp only; omega)))) | (with_reducible refine bt ?_ (by assumption)))))
  have sw1 := bw1.size
  clear hw1
  go_wp2
  go_ret
  exact ⟨rfl, by (repeat (first | (with_reducible assumption) | (with_reducible exact Below.refl _ _) | (with_reducible refine beld_drew ?_) | ((with_reducible refine bset' ?_ ?_); (first | (focus (dsimp only; assumption)) | (focus (simp; done)) | (focus (dsimp only; omega)))) | (with_reducible refine belt_alloc ?_) | ((with_reducible refine zeroed_below' ?_ ?_); (first | (focus (simp; done)) | (focus (dsimp only; omega)))) | (with_reducible refine bt ?_ (by assumption))))⟩
theorem enc_second : encC 1 2 0 3 1 5 300 9 [104, 105] = ([177, 1, 2, 3, 5, 130, 44, 0, 9, 2, 104, 105, 159, 103, 23, 27], 0) := by decide +kernel
theorem dec_first : decV (decL [181, 1, 2, 3, 5, 130, 44, 2, 104, 105, 110, 29, 44, 15]) = .tuple #[.agg #[.int .i64 1, .int .u64 2, .int .i64 0, .int .i64 3, .int .i64 1, .int .i64 5, .int .i64 300, .int .i64 2, .string ⟨#[104, 105]⟩], .agg #[.int .i64 0, .int .i64 0]] := by
  have : decL [181, 1, 2, 3, 5, 130, 44, 2, 104, 105, 110, 29, 44, 15] = ⟨1, 2, 0, 3, 1, 5, 300, 2, [104, 105], 0, 0⟩ := by kernel_rfl
  rw [this]; rfl
theorem dec_3 : decL [181, 1, 2, 3, 5, 130, 44, 2, 104, 105, 110, 29, 44, 14] = .bad 10 10 := by kernel_rfl
theorem dec_4 : decL [181, 1, 2, 3, 5, 130, 44, 2, 104, 105, 110, 29, 44, 15, 120] = .bad 4 14 := by kernel_rfl
theorem dec_5 : decL [181, 1, 2, 3, 5, 130, 44, 2, 104, 105, 110, 29, 44] = .bad 11 13 := by kernel_rfl
theorem peek_a : peekC [181, 1, 2] = (0, 0, 0, 0, 11, 3) := by decide +kernel
theorem peek_b : peekC [179] = (0, 0, 0, 0, 3, 0) := by decide +kernel
theorem room_a : roomC 1 2 0 3 1 5 300 2 2 14 = (2, 0) := by decide +kernel
theorem room_b : roomC 1 2 0 3 1 5 300 9 2 16 = (2, 0) := by decide +kernel
theorem room_c : roomC 1 2 0 3 1 5 300 2 2 5 = (0, 0) := by decide +kernel
set_option maxRecDepth 100000 in
set_option maxHeartbeats 3200000 in
theorem known_any (w : World) (hH : HTab w) (hT : STab w) : Calls Tryd.prog 5 #[] w fun e w' => e = .returned (.bool true) ∧ Below w.heap.size w w' := by
  have g0 := Lib.hid awake_any
  have g1 : ∀ w, HTab w → STab w → Calls Tryd.prog 11 #[buv 1 2 0 3 1 5 300 2 ⟨#[104, 105]⟩] w fun e w' => e = .returned (.tuple #[.string ⟨#[181, 1, 2, 3, 5, 130, 44, 2, 104, 105, 110, 29, 44, 15]⟩, .int .i64 0]) ∧ Below w.heap.size w w' := fun w h t => by
    have := encode_any 1 2 0 3 1 5 300 2 ⟨#[104, 105]⟩ (by decide) (by omega) w h t
    rw [show encC 1 2 0 3 1 5 300 2 (ByteArray.data ⟨#[104, 105]⟩).toList = _ from enc_first] at this
    exact this
  have g2 : ∀ w, HTab w → STab w → Calls Tryd.prog 11 #[buv 1 2 0 3 1 5 300 9 ⟨#[104, 105]⟩] w fun e w' => e = .returned (.tuple #[.string ⟨#[177, 1, 2, 3, 5, 130, 44, 0, 9, 2, 104, 105, 159, 103, 23, 27]⟩, .int .i64 0]) ∧ Below w.heap.size w w' := fun w h t => by
    have := encode_any 1 2 0 3 1 5 300 9 ⟨#[104, 105]⟩ (by decide) (by omega) w h t
    rw [show encC 1 2 0 3 1 5 300 9 (ByteArray.data ⟨#[104, 105]⟩).toList = _ from enc_second] at this
    exact this
  have g3 : ∀ w, HTab w → STab w → Calls Tryd.prog 17 #[.string ⟨#[181, 1, 2, 3, 5, 130, 44, 2, 104, 105, 110, 29, 44, 15]⟩] w fun e w' => e = .returned (.tuple #[.agg #[.int .i64 1, .int .u64 2, .int .i64 0, .int .i64 3, .int .i64 1, .int .i64 5, .int .i64 300, .int .i64 2, .string ⟨#[104, 105]⟩], .agg #[.int .i64 0, .int .i64 0]]) ∧ Below w.heap.size w w' := fun w h t => by
    have := decode_any ⟨#[181, 1, 2, 3, 5, 130, 44, 2, 104, 105, 110, 29, 44, 15]⟩ (by decide) w h t
    rw [show decV (decL (ByteArray.data ⟨#[181, 1, 2, 3, 5, 130, 44, 2, 104, 105, 110, 29, 44, 15]⟩).toList) = _ from dec_first] at this
    exact this
  have g4 : ∀ w, HTab w → Calls Tryd.prog 19 #[.string ⟨#[181, 1, 2]⟩] w fun e w' => e = .returned (.tuple #[.agg #[.int .i64 0, .int .u64 0, .int .i64 0], .int .i64 0, .agg #[.int .i64 11, .int .i64 3]]) ∧ Below w.heap.size w w' := fun w h => by
    have := peek_any ⟨#[181, 1, 2]⟩ (by decide) w h
    rw [show peekC (ByteArray.data ⟨#[181, 1, 2]⟩).toList = _ from peek_a] at this
    exact this
  have g5 : ∀ w, HTab w → Calls Tryd.prog 19 #[.string ⟨#[179]⟩] w fun e w' => e = .returned (.tuple #[.agg #[.int .i64 0, .int .u64 0, .int .i64 0], .int .i64 0, .agg #[.int .i64 3, .int .i64 0]]) ∧ Below w.heap.size w w' := fun w h => by
    have := peek_any ⟨#[179]⟩ (by decide) w h
    rw [show peekC (ByteArray.data ⟨#[179]⟩).toList = _ from peek_b] at this
    exact this
  have g6 : ∀ w, HTab w → Calls Tryd.prog 15 #[buv 1 2 0 3 1 5 300 2 ⟨#[104, 105]⟩, .int .i64 14] w fun e w' => e = .returned (.tuple #[.int .i64 2, .int .i64 0]) ∧ Below w.heap.size w w' := fun w h => by
    have := room_any 1 2 0 3 1 5 300 2 14 ⟨#[104, 105]⟩ (by decide) (by omega) w h
    rw [show roomC 1 2 0 3 1 5 300 2 ((ByteArray.size ⟨#[104, 105]⟩ : Nat) : Int) 14 = _ from room_a] at this
    exact this
  have g7 : ∀ w, HTab w → Calls Tryd.prog 15 #[buv 1 2 0 3 1 5 300 9 ⟨#[104, 105]⟩, .int .i64 16] w fun e w' => e = .returned (.tuple #[.int .i64 2, .int .i64 0]) ∧ Below w.heap.size w w' := fun w h => by
    have := room_any 1 2 0 3 1 5 300 9 16 ⟨#[104, 105]⟩ (by decide) (by omega) w h
    rw [show roomC 1 2 0 3 1 5 300 9 ((ByteArray.size ⟨#[104, 105]⟩ : Nat) : Int) 16 = _ from room_b] at this
    exact this
  have g8 : ∀ w, HTab w → Calls Tryd.prog 15 #[buv 1 2 0 3 1 5 300 2 ⟨#[104, 105]⟩, .int .i64 5] w fun e w' => e = .returned (.tuple #[.int .i64 0, .int .i64 0]) ∧ Below w.heap.size w w' := fun w h => by
    have := room_any 1 2 0 3 1 5 300 2 5 ⟨#[104, 105]⟩ (by decide) (by omega) w h
    rw [show roomC 1 2 0 3 1 5 300 2 ((ByteArray.size ⟨#[104, 105]⟩ : Nat) : Int) 5 = _ from room_c] at this
    exact this
  have f3 := Lib.hid fun w h t => fails_bad ⟨#[181, 1, 2, 3, 5, 130, 44, 2, 104, 105, 110, 29, 44, 14]⟩ (by decide) 10 10 dec_3 w h t
  have f4 := fun w h t => fails_bad ⟨#[181, 1, 2, 3, 5, 130, 44, 2, 104, 105, 110, 29, 44, 15, 120]⟩ (by decide) 4 14 dec_4 w h t
  have f5 := fun w h t => fails_bad ⟨#[181, 1, 2, 3, 5, 130, 44, 2, 104, 105, 110, 29, 44]⟩ (by decide) 11 13 dec_5 w h t
  rw [show (⟨#[181, 1, 2, 3, 5, 130, 44, 2, 104, 105, 110, 29, 44, 15, 120]⟩ : ByteArray) = ⟨#[181, 1, 2, 3, 5, 130, 44, 2, 104, 105, 110, 29, 44, 15]⟩ ++ ⟨#[120]⟩ by decide +kernel] at f4
  rw [show (⟨#[181, 1, 2, 3, 5, 130, 44, 2, 104, 105, 110, 29, 44]⟩ : ByteArray) = (⟨#[181, 1, 2, 3, 5, 130, 44, 2, 104, 105, 110, 29, 44, 15]⟩ : ByteArray).extract 0 13 by decide +kernel] at f5
  replace f4 := Lib.hid f4; replace f5 := Lib.hid f5
  have HT := Lib.hid hH; have ST := Lib.hid hT
  replace g1 := Lib.hid g1; replace g2 := Lib.hid g2; replace g3 := Lib.hid g3; replace g4 := Lib.hid g4; replace g5 := Lib.hid g5; replace g6 := Lib.hid g6; replace g7 := Lib.hid g7; replace g8 := Lib.hid g8
  clear hH hT
  have s12 : (((⟨#[177, 1, 2, 3, 5, 130, 44, 0, 9, 2, 104, 105, 159, 103, 23, 27]⟩ : ByteArray).extract 0 12).toList != [177, 1, 2, 3, 5, 130, 44, 0, 9, 2, 104, 105]) = false := by decide +kernel
  have s12' : (((⟨#[177, 1, 2, 3, 5, 130, 44, 0, 9, 2, 104, 105, 159, 103, 23, 27]⟩ : ByteArray).extract 0 12).toList == [177, 1, 2, 3, 5, 130, 44, 0, 9, 2, 104, 105]) = true := by decide +kernel
  have E1 : ∀ w, Sem.run Tryd.prog (binOp BinOp.eql 26 (.agg #[.int .i64 1, .int .u64 2, .int .i64 0, .int .i64 3, .int .i64 1, .int .i64 5, .int .i64 300, .int .i64 2, .string ⟨#[104, 105]⟩]) (.agg #[.int .i64 1, .int .u64 2, .int .i64 0, .int .i64 3, .int .i64 1, .int .i64 5, .int .i64 300, .int .i64 2, .string ⟨#[104, 105]⟩])) w = .ok (.bool true) w := fun w => run_buSame 1 2 0 3 1 5 300 2 ⟨#[104, 105]⟩ w
  have E2 : ∀ e a w, Sem.run Tryd.prog (binOp BinOp.eql 36 (.agg #[.int .i64 e, .int .i64 a]) (.agg #[.int .i64 e, .int .i64 a])) w = .ok (.bool true) w := fun e a w => by have := run_ftEq e a e a w; rwa [show ftEq e a e a = true by simp [ftEq]] at this
  go_enter Tryd.func5, Tryd.ntmps5
  go_wp2_with fail
  (with_reducible refine (first_any _).mono ?_)
  rintro e w1 ⟨rfl, hw1⟩
  have bw1 : Below w.heap.size w w1 := (by (repeat (first | (with_reducible assumption) | (with_reducible exact Below.refl _ _) | (with_reducible refine beld_drew ?_) | ((with_reducible refine bset' ?_ ?_); (first | (focus (dsimp only; assumption)) | (focus (simp; done)) | (focus (dsimp only; omega)))) | (with_reducible refine belt_alloc ?_) | ((with_reducible refine zeroed_below' ?_ ?_); (first | (focus (simp; done)) | (focus (dsimp only; omega)))) | (with_reducible refine bt ?_ (by assumption)))))
  have sw1 := bw1.size
  clear hw1
  go_wp2_with fail
  (with_reducible refine (g1.out _ (HT.out.on bw1) (ST.out.on bw1)).mono ?_)
  rintro e w2 ⟨rfl, hw2⟩
  have bw2 : Below w.heap.size w w2 := (by (repeat (first | (with_reducible assumption) | (with_reducible exact Below.refl _ _) | (with_reducible refine beld_drew ?_) | ((with_reducible refine bset' ?_ ?_); (first | (focus (dsimp only; assumption)) | (focus (simp; done)) | (focus (dsimp only; omega)))) | (with_reducible refine belt_alloc ?_) | ((with_reducible refine zeroed_below' ?_ ?_); (first | (focus (simp; done)) | (focus (dsimp only; omega)))) | (with_reducible refine bt ?_ (by assumption)))))
  have sw2 := bw2.size
  clear hw2 bw1
  go_wp2_with fail
  (with_reducible refine (second_any _).mono ?_)
  rintro e w3 ⟨rfl, hw3⟩
  have bw3 : Below w.heap.size w w3 := (by (repeat (first | (with_reducible assumption) | (with_reducible exact Below.refl _ _) | (with_reducible refine beld_drew ?_) | ((with_reducible refine bset' ?_ ?_); (first | (focus (dsimp only; assumption)) | (focus (simp; done)) | (focus (dsimp only; omega)))) | (with_reducible refine belt_alloc ?_) | ((with_reducible refine zeroed_below' ?_ ?_); (first | (focus (simp; done)) | (focus (dsimp only; omega)))) | (with_reducible refine bt ?_ (by assumption)))))
  have sw3 := bw3.size
  clear hw3 bw2
  go_wp2_with fail
  (with_reducible refine (g2.out _ (HT.out.on bw3) (ST.out.on bw3)).mono ?_)
  rintro e w4 ⟨rfl, hw4⟩
  have bw4 : Below w.heap.size w w4 := (by (repeat (first | (with_reducible assumption) | (with_reducible exact Below.refl _ _) | (with_reducible refine beld_drew ?_) | ((with_reducible refine bset' ?_ ?_); (first | (focus (dsimp only; assumption)) | (focus (simp; done)) | (focus (dsimp only; omega)))) | (with_reducible refine belt_alloc ?_) | ((with_reducible refine zeroed_below' ?_ ?_); (first | (focus (simp; done)) | (focus (dsimp only; omega)))) | (with_reducible refine bt ?_ (by assumption)))))
  have sw4 := bw4.size
  clear hw4 bw3
  go_wp2_with fail
  (with_reducible refine (g3.out _ (HT.out.on bw4) (ST.out.on bw4)).mono ?_)
  rintro e w5 ⟨rfl, hw5⟩
  have bw5 : Below w.heap.size w w5 := (by (repeat (first | (with_reducible assumption) | (with_reducible exact Below.refl _ _) | (with_reducible refine beld_drew ?_) | ((with_reducible refine bset' ?_ ?_); (first | (focus (dsimp only; assumption)) | (focus (simp; done)) | (focus (dsimp only; omega)))) | (with_reducible refine belt_alloc ?_) | ((with_reducible refine zeroed_below' ?_ ?_); (first | (focus (simp; done)) | (focus (dsimp only; omega)))) | (with_reducible refine bt ?_ (by assumption)))))
  have sw5 := bw5.size
  clear hw5 bw4
  go_wp2_with fail
  have B5 : Below w.heap.size w ((w5.alloc (.cells #[.int .i64 1, .int .u64 2, .int .i64 0, .int .i64 3, .int .i64 1, .int .i64 5, .int .i64 300, .int .i64 2, .string ⟨#[104, 105]⟩] 26)).alloc (.cells #[.int .i64 0, .int .i64 0] 36)) := ((bw5.alloc sw5 _).alloc (by simp; omega) _)
  go_wp2_with fail
  (with_reducible refine (g4.out _ (HT.out.on B5)).mono ?_)
  rintro e w6 ⟨rfl, hw6⟩
  have m5 := hw6.size; simp at m5
  have kk1 : blk w6 (w5.heap.size) = some #[.int .i64 1, .int .u64 2, .int .i64 0, .int .i64 3, .int .i64 1, .int .i64 5, .int .i64 300, .int .i64 2, .string ⟨#[104, 105]⟩] := (by (apply blk_to; (focus (repeat (first | (with_reducible assumption) | (with_reducible apply blk_drew) | (with_reducible apply blk_set) | ((with_reducible apply blk_other'); (first | (focus (dsimp only; assumption)) | (focus (simp; done)) | (focus (dsimp only; omega)))) | ((with_reducible apply blk_alloc_new); (first | (with_reducible rfl) | (focus (simp; done)) | (focus (simp; omega)))) | (with_reducible apply blk_alloc) | ((with_reducible apply blk_below); (with_reducible assumption))))); rfl))
  have kk2 : blk w6 (w5.heap.size + 1) = some #[.int .i64 0, .int .i64 0] := (by (apply blk_to; (focus (repeat (first | (with_reducible assumption) | (with_reducible apply blk_drew) | (with_reducible apply blk_set) | ((with_reducible apply blk_other'); (first | (focus (dsimp only; assumption)) | (focus (simp; done)) | (focus (dsimp only; omega)))) | ((with_reducible apply blk_alloc_new); (first | (with_reducible rfl) | (focus (simp; done)) | (focus (simp; omega)))) | (with_reducible apply blk_alloc) | ((with_reducible apply blk_below); (with_reducible assumption))))); rfl))
  have kn1 := kn kk1
  have kn2 := kn kk2
  have bw6 : Below w.heap.size w w6 := (by (repeat (first | (with_reducible assumption) | (with_reducible exact Below.refl _ _) | (with_reducible refine beld_drew ?_) | ((with_reducible refine bset' ?_ ?_); (first | (focus (dsimp only; assumption)) | (focus (simp; done)) | (focus (dsimp only; omega)))) | (with_reducible refine belt_alloc ?_) | ((with_reducible refine zeroed_below' ?_ ?_); (first | (focus (simp; done)) | (focus (dsimp only; omega)))) | (with_reducible refine bt ?_ (by assumption)))))
  have sw6 := bw6.size
  clear hw6 bw5
  go_wp2_with fail
  have B6 : Below w.heap.size w ((w6.alloc (.cells #[.int .i64 0, .int .u64 0, .int .i64 0] 24)).alloc (.cells #[.int .i64 11, .int .i64 3] 36)) := ((bw6.alloc sw6 _).alloc (by simp; omega) _)
  go_wp2_with fail
  (with_reducible refine (g5.out _ (HT.out.on B6)).mono ?_)
  rintro e w7 ⟨rfl, hw7⟩
  have m6 := hw7.size; simp at m6
  have kk3 : blk w7 (w5.heap.size) = some #[.int .i64 1, .int .u64 2, .int .i64 0, .int .i64 3, .int .i64 1, .int .i64 5, .int .i64 300, .int .i64 2, .string ⟨#[104, 105]⟩] := (by (apply blk_to; (focus (repeat (first | (with_reducible assumption) | (with_reducible apply blk_drew) | (with_reducible apply blk_set) | ((with_reducible apply blk_other'); (first | (focus (dsimp only; assumption)) | (focus (simp; done)) | (focus (dsimp only; omega)))) | ((with_reducible apply blk_alloc_new); (first | (with_reducible rfl) | (focus (simp; done)) | (focus (simp; omega)))) | (with_reducible apply blk_alloc) | ((with_reducible apply blk_below); (with_reducible assumption))))); rfl))
  have kk4 : blk w7 (w5.heap.size + 1) = some #[.int .i64 0, .int .i64 0] := (by (apply blk_to; (focus (repeat (first | (with_reducible assumption) | (with_reducible apply blk_drew) | (with_reducible apply blk_set) | ((with_reducible apply blk_other'); (first | (focus (dsimp only; assumption)) | (focus (simp; done)) | (focus (dsimp only; omega)))) | ((with_reducible apply blk_alloc_new); (first | (with_reducible rfl) | (focus (simp; done)) | (focus (simp; omega)))) | (with_reducible apply blk_alloc) | ((with_reducible apply blk_below); (with_reducible assumption))))); rfl))
  have kk5 : blk w7 (w6.heap.size + 1) = some #[.int .i64 11, .int .i64 3] := (by (apply blk_to; (focus (repeat (first | (with_reducible assumption) | (with_reducible apply blk_drew) | (with_reducible apply blk_set) | ((with_reducible apply blk_other'); (first | (focus (dsimp only; assumption)) | (focus (simp; done)) | (focus (dsimp only; omega)))) | ((with_reducible apply blk_alloc_new); (first | (with_reducible rfl) | (focus (simp; done)) | (focus (simp; omega)))) | (with_reducible apply blk_alloc) | ((with_reducible apply blk_below); (with_reducible assumption))))); rfl))
  clear kk1 kn1 kk2 kn2
  have kn3 := kn kk3
  have kn4 := kn kk4
  have kn5 := kn kk5
  have bw7 : Below w.heap.size w w7 := (by (repeat (first | (with_reducible assumption) | (with_reducible exact Below.refl _ _) | (with_reducible refine beld_drew ?_) | ((with_reducible refine bset' ?_ ?_); (first | (focus (dsimp only; assumption)) | (focus (simp; done)) | (focus (dsimp only; omega)))) | (with_reducible refine belt_alloc ?_) | ((with_reducible refine zeroed_below' ?_ ?_); (first | (focus (simp; done)) | (focus (dsimp only; omega)))) | (with_reducible refine bt ?_ (by assumption)))))
  have sw7 := bw7.size
  clear hw7 bw6
  go_wp2
  obtain ⟨vb, w8, hrun, hown, hb8, hz8⟩ := ownsB_of (P := Tryd.prog) Tryd.underlying9 Tryd.underlying43 Tryd.underlying5 ⟨#[181, 1, 2, 3, 5, 130, 44, 2, 104, 105, 110, 29, 44, 15]⟩ (by decide) ((w7.alloc (.cells #[.int .i64 0, .int .u64 0, .int .i64 0] 24)).alloc (.cells #[.int .i64 3, .int .i64 0] 36))
  rw [show ((w7.alloc (.cells #[.int .i64 0, .int .u64 0, .int .i64 0] 24)).alloc (.cells #[.int .i64 3, .int .i64 0] 36)).heap.size = w7.heap.size + 1 + 1 by simp] at hown hz8
  obtain ⟨cap8, rfl⟩ : ∃ cap, vb = .slice (some ⟨w7.heap.size + 1 + 1, 0, none⟩) 14 cap := by obtain ⟨cap, _, _, h, _⟩ := hown; exact ⟨cap, h⟩
  have o13 : w8.cell? ⟨w7.heap.size + 1 + 1, 13, none⟩ = some (.int .u8 15) := hown.cell 13 (by decide)
  have z13 : w8.frozen? ⟨w7.heap.size + 1 + 1, 13, none⟩ = false := hown.frozen 13 (by decide)
  have xr : bits BinOp.xor IntKind.u8 15 1 = 14 := by decide
  have q5 : blk w8 w5.heap.size = some (#[.int .i64 1, .int .u64 2, .int .i64 0, .int .i64 3, .int .i64 1, .int .i64 5, .int .i64 300, .int .i64 2, .string ⟨#[104, 105]⟩]) := (by (apply blk_to; (focus (repeat (first | (with_reducible assumption) | (with_reducible apply blk_drew) | (with_reducible apply blk_set) | ((with_reducible apply blk_other'); (first | (focus (dsimp only; assumption)) | (focus (simp; done)) | (focus (dsimp only; omega)))) | ((with_reducible apply blk_alloc_new); (first | (with_reducible rfl) | (focus (simp; done)) | (focus (simp; omega)))) | (with_reducible apply blk_alloc) | ((with_reducible apply blk_below); (with_reducible assumption))))); rfl))
  have q5' : blk w8 (w5.heap.size + 1) = some (#[.int .i64 0, .int .i64 0]) := (by (apply blk_to; (focus (repeat (first | (with_reducible assumption) | (with_reducible apply blk_drew) | (with_reducible apply blk_set) | ((with_reducible apply blk_other'); (first | (focus (dsimp only; assumption)) | (focus (simp; done)) | (focus (dsimp only; omega)))) | ((with_reducible apply blk_alloc_new); (first | (with_reducible rfl) | (focus (simp; done)) | (focus (simp; omega)))) | (with_reducible apply blk_alloc) | ((with_reducible apply blk_below); (with_reducible assumption))))); rfl))
  have q6 : blk w8 (w6.heap.size + 1) = some (#[.int .i64 11, .int .i64 3]) := (by (apply blk_to; (focus (repeat (first | (with_reducible assumption) | (with_reducible apply blk_drew) | (with_reducible apply blk_set) | ((with_reducible apply blk_other'); (first | (focus (dsimp only; assumption)) | (focus (simp; done)) | (focus (dsimp only; omega)))) | ((with_reducible apply blk_alloc_new); (first | (with_reducible rfl) | (focus (simp; done)) | (focus (simp; omega)))) | (with_reducible apply blk_alloc) | ((with_reducible apply blk_below); (with_reducible assumption))))); rfl))
  have q7 : blk w8 (w7.heap.size + 1) = some (#[.int .i64 3, .int .i64 0]) := (by (apply blk_to; (focus (repeat (first | (with_reducible assumption) | (with_reducible apply blk_drew) | (with_reducible apply blk_set) | ((with_reducible apply blk_other'); (first | (focus (dsimp only; assumption)) | (focus (simp; done)) | (focus (dsimp only; omega)))) | ((with_reducible apply blk_alloc_new); (first | (with_reducible rfl) | (focus (simp; done)) | (focus (simp; omega)))) | (with_reducible apply blk_alloc) | ((with_reducible apply blk_below); (with_reducible assumption))))); rfl))
  have B7 : Below w.heap.size w ((w7.alloc (.cells #[.int .i64 0, .int .u64 0, .int .i64 0] 24)).alloc (.cells #[.int .i64 3, .int .i64 0] 36)) := ((bw7.alloc sw7 _).alloc (by simp; omega) _)
  have B8 : Below w.heap.size w w8 := bt B7 hb8
  have O8 := Lib.hid (hown.set 13 14)
  have HZ := Lib.hid hz8; clear hz8 hb8 hown
  go_wp2_with fail
  (with_reducible refine (first_any _).mono ?_)
  rintro e w9 ⟨rfl, hw9⟩
  have O9 := Lib.hid (O8.out.below hw9); clear O8
  have kk6 : blk w9 (w5.heap.size) = some #[.int .i64 1, .int .u64 2, .int .i64 0, .int .i64 3, .int .i64 1, .int .i64 5, .int .i64 300, .int .i64 2, .string ⟨#[104, 105]⟩] := (by (apply blk_to; (focus (repeat (first | (with_reducible assumption) | (with_reducible apply blk_drew) | (with_reducible apply blk_set) | ((with_reducible apply blk_other'); (first | (focus (dsimp only; assumption)) | (focus (simp; done)) | (focus (dsimp only; omega)))) | ((with_reducible apply blk_alloc_new); (first | (with_reducible rfl) | (focus (simp; done)) | (focus (simp; omega)))) | (with_reducible apply blk_alloc) | ((with_reducible apply blk_below); (with_reducible assumption))))); rfl))
  have kk7 : blk w9 (w5.heap.size + 1) = some #[.int .i64 0, .int .i64 0] := (by (apply blk_to; (focus (repeat (first | (with_reducible assumption) | (with_reducible apply blk_drew) | (with_reducible apply blk_set) | ((with_reducible apply blk_other'); (first | (focus (dsimp only; assumption)) | (focus (simp; done)) | (focus (dsimp only; omega)))) | ((with_reducible apply blk_alloc_new); (first | (with_reducible rfl) | (focus (simp; done)) | (focus (simp; omega)))) | (with_reducible apply blk_alloc) | ((with_reducible apply blk_below); (with_reducible assumption))))); rfl))
  have kk8 : blk w9 (w6.heap.size + 1) = some #[.int .i64 11, .int .i64 3] := (by (apply blk_to; (focus (repeat (first | (with_reducible assumption) | (with_reducible apply blk_drew) | (with_reducible apply blk_set) | ((with_reducible apply blk_other'); (first | (focus (dsimp only; assumption)) | (focus (simp; done)) | (focus (dsimp only; omega)))) | ((with_reducible apply blk_alloc_new); (first | (with_reducible rfl) | (focus (simp; done)) | (focus (simp; omega)))) | (with_reducible apply blk_alloc) | ((with_reducible apply blk_below); (with_reducible assumption))))); rfl))
  have kk9 : blk w9 (w7.heap.size + 1) = some #[.int .i64 3, .int .i64 0] := (by (apply blk_to; (focus (repeat (first | (with_reducible assumption) | (with_reducible apply blk_drew) | (with_reducible apply blk_set) | ((with_reducible apply blk_other'); (first | (focus (dsimp only; assumption)) | (focus (simp; done)) | (focus (dsimp only; omega)))) | ((with_reducible apply blk_alloc_new); (first | (with_reducible rfl) | (focus (simp; done)) | (focus (simp; omega)))) | (with_reducible apply blk_alloc) | ((with_reducible apply blk_below); (with_reducible assumption))))); rfl))
  clear kk3 kn3 kk4 kn4 kk5 kn5
  have kn6 := kn kk6
  have kn7 := kn kk7
  have kn8 := kn kk8
  have kn9 := kn kk9
  have bw9 : Below w.heap.size w w9 := (by (repeat (first | (with_reducible assumption) | (with_reducible exact Below.refl _ _) | (with_reducible refine beld_drew ?_) | ((with_reducible refine bset' ?_ ?_); (first | (focus (dsimp only; assumption)) | (focus (simp; done)) | (focus (dsimp only; omega)))) | (with_reducible refine belt_alloc ?_) | ((with_reducible refine zeroed_below' ?_ ?_); (first | (focus (simp; done)) | (focus (dsimp only; omega)))) | (with_reducible refine bt ?_ (by assumption)))))
  have sw9 := bw9.size
  clear hw9 bw7
  go_wp2_with fail
  (with_reducible refine (g6.out _ (HT.out.on bw9)).mono ?_)
  rintro e w10 ⟨rfl, hw10⟩
  have O10 := Lib.hid (O9.out.below hw10); clear O9
  have kk10 : blk w10 (w5.heap.size) = some #[.int .i64 1, .int .u64 2, .int .i64 0, .int .i64 3, .int .i64 1, .int .i64 5, .int .i64 300, .int .i64 2, .string ⟨#[104, 105]⟩] := (by (apply blk_to; (focus (repeat (first | (with_reducible assumption) | (with_reducible apply blk_drew) | (with_reducible apply blk_set) | ((with_reducible apply blk_other'); (first | (focus (dsimp only; assumption)) | (focus (simp; done)) | (focus (dsimp only; omega)))) | ((with_reducible apply blk_alloc_new); (first | (with_reducible rfl) | (focus (simp; done)) | (focus (simp; omega)))) | (with_reducible apply blk_alloc) | ((with_reducible apply blk_below); (with_reducible assumption))))); rfl))
  have kk11 : blk w10 (w5.heap.size + 1) = some #[.int .i64 0, .int .i64 0] := (by (apply blk_to; (focus (repeat (first | (with_reducible assumption) | (with_reducible apply blk_drew) | (with_reducible apply blk_set) | ((with_reducible apply blk_other'); (first | (focus (dsimp only; assumption)) | (focus (simp; done)) | (focus (dsimp only; omega)))) | ((with_reducible apply blk_alloc_new); (first | (with_reducible rfl) | (focus (simp; done)) | (focus (simp; omega)))) | (with_reducible apply blk_alloc) | ((with_reducible apply blk_below); (with_reducible assumption))))); rfl))
  have kk12 : blk w10 (w6.heap.size + 1) = some #[.int .i64 11, .int .i64 3] := (by (apply blk_to; (focus (repeat (first | (with_reducible assumption) | (with_reducible apply blk_drew) | (with_reducible apply blk_set) | ((with_reducible apply blk_other'); (first | (focus (dsimp only; assumption)) | (focus (simp; done)) | (focus (dsimp only; omega)))) | ((with_reducible apply blk_alloc_new); (first | (with_reducible rfl) | (focus (simp; done)) | (focus (simp; omega)))) | (with_reducible apply blk_alloc) | ((with_reducible apply blk_below); (with_reducible assumption))))); rfl))
  have kk13 : blk w10 (w7.heap.size + 1) = some #[.int .i64 3, .int .i64 0] := (by (apply blk_to; (focus (repeat (first | (with_reducible assumption) | (with_reducible apply blk_drew) | (with_reducible apply blk_set) | ((with_reducible apply blk_other'); (first | (focus (dsimp only; assumption)) | (focus (simp; done)) | (focus (dsimp only; omega)))) | ((with_reducible apply blk_alloc_new); (first | (with_reducible rfl) | (focus (simp; done)) | (focus (simp; omega)))) | (with_reducible apply blk_alloc) | ((with_reducible apply blk_below); (with_reducible assumption))))); rfl))
  clear kk6 kn6 kk7 kn7 kk8 kn8 kk9 kn9
  have kn10 := kn kk10
  have kn11 := kn kk11
  have kn12 := kn kk12
  have kn13 := kn kk13
  have bw10 : Below w.heap.size w w10 := (by (repeat (first | (with_reducible assumption) | (with_reducible exact Below.refl _ _) | (with_reducible refine beld_drew ?_) | ((with_reducible refine bset' ?_ ?_); (first | (focus (dsimp only; assumption)) | (focus (simp; done)) | (focus (dsimp only; omega)))) | (with_reducible refine belt_alloc ?_) | ((with_reducible refine zeroed_below' ?_ ?_); (first | (focus (simp; done)) | (focus (dsimp only; omega)))) | (with_reducible refine bt ?_ (by assumption)))))
  have sw10 := bw10.size
  clear hw10 bw9
  go_wp2_with fail
  (with_reducible refine (second_any _).mono ?_)
  rintro e w11 ⟨rfl, hw11⟩
  have O11 := Lib.hid (O10.out.below hw11); clear O10
  have kk14 : blk w11 (w5.heap.size) = some #[.int .i64 1, .int .u64 2, .int .i64 0, .int .i64 3, .int .i64 1, .int .i64 5, .int .i64 300, .int .i64 2, .string ⟨#[104, 105]⟩] := (by (apply blk_to; (focus (repeat (first | (with_reducible assumption) | (with_reducible apply blk_drew) | (with_reducible apply blk_set) | ((with_reducible apply blk_other'); (first | (focus (dsimp only; assumption)) | (focus (simp; done)) | (focus (dsimp only; omega)))) | ((with_reducible apply blk_alloc_new); (first | (with_reducible rfl) | (focus (simp; done)) | (focus (simp; omega)))) | (with_reducible apply blk_alloc) | ((with_reducible apply blk_below); (with_reducible assumption))))); rfl))
  have kk15 : blk w11 (w5.heap.size + 1) = some #[.int .i64 0, .int .i64 0] := (by (apply blk_to; (focus (repeat (first | (with_reducible assumption) | (with_reducible apply blk_drew) | (with_reducible apply blk_set) | ((with_reducible apply blk_other'); (first | (focus (dsimp only; assumption)) | (focus (simp; done)) | (focus (dsimp only; omega)))) | ((with_reducible apply blk_alloc_new); (first | (with_reducible rfl) | (focus (simp; done)) | (focus (simp; omega)))) | (with_reducible apply blk_alloc) | ((with_reducible apply blk_below); (with_reducible assumption))))); rfl))
  have kk16 : blk w11 (w6.heap.size + 1) = some #[.int .i64 11, .int .i64 3] := (by (apply blk_to; (focus (repeat (first | (with_reducible assumption) | (with_reducible apply blk_drew) | (with_reducible apply blk_set) | ((with_reducible apply blk_other'); (first | (focus (dsimp only; assumption)) | (focus (simp; done)) | (focus (dsimp only; omega)))) | ((with_reducible apply blk_alloc_new); (first | (with_reducible rfl) | (focus (simp; done)) | (focus (simp; omega)))) | (with_reducible apply blk_alloc) | ((with_reducible apply blk_below); (with_reducible assumption))))); rfl))
  have kk17 : blk w11 (w7.heap.size + 1) = some #[.int .i64 3, .int .i64 0] := (by (apply blk_to; (focus (repeat (first | (with_reducible assumption) | (with_reducible apply blk_drew) | (with_reducible apply blk_set) | ((with_reducible apply blk_other'); (first | (focus (dsimp only; assumption)) | (focus (simp; done)) | (focus (dsimp only; omega)))) | ((with_reducible apply blk_alloc_new); (first | (with_reducible rfl) | (focus (simp; done)) | (focus (simp; omega)))) | (with_reducible apply blk_alloc) | ((with_reducible apply blk_below); (with_reducible assumption))))); rfl))
  clear kk10 kn10 kk11 kn11 kk12 kn12 kk13 kn13
  have kn14 := kn kk14
  have kn15 := kn kk15
  have kn16 := kn kk16
  have kn17 := kn kk17
  have bw11 : Below w.heap.size w w11 := (by (repeat (first | (with_reducible assumption) | (with_reducible exact Below.refl _ _) | (with_reducible refine beld_drew ?_) | ((with_reducible refine bset' ?_ ?_); (first | (focus (dsimp only; assumption)) | (focus (simp; done)) | (focus (dsimp only; omega)))) | (with_reducible refine belt_alloc ?_) | ((with_reducible refine zeroed_below' ?_ ?_); (first | (focus (simp; done)) | (focus (dsimp only; omega)))) | (with_reducible refine bt ?_ (by assumption)))))
  have sw11 := bw11.size
  clear hw11 bw10
  go_wp2_with fail
  (with_reducible refine (g7.out _ (HT.out.on bw11)).mono ?_)
  rintro e w12 ⟨rfl, hw12⟩
  have O12 := Lib.hid (O11.out.below hw12); clear O11
  have kk18 : blk w12 (w5.heap.size) = some #[.int .i64 1, .int .u64 2, .int .i64 0, .int .i64 3, .int .i64 1, .int .i64 5, .int .i64 300, .int .i64 2, .string ⟨#[104, 105]⟩] := (by (apply blk_to; (focus (repeat (first | (with_reducible assumption) | (with_reducible apply blk_drew) | (with_reducible apply blk_set) | ((with_reducible apply blk_other'); (first | (focus (dsimp only; assumption)) | (focus (simp; done)) | (focus (dsimp only; omega)))) | ((with_reducible apply blk_alloc_new); (first | (with_reducible rfl) | (focus (simp; done)) | (focus (simp; omega)))) | (with_reducible apply blk_alloc) | ((with_reducible apply blk_below); (with_reducible assumption))))); rfl))
  have kk19 : blk w12 (w5.heap.size + 1) = some #[.int .i64 0, .int .i64 0] := (by (apply blk_to; (focus (repeat (first | (with_reducible assumption) | (with_reducible apply blk_drew) | (with_reducible apply blk_set) | ((with_reducible apply blk_other'); (first | (focus (dsimp only; assumption)) | (focus (simp; done)) | (focus (dsimp only; omega)))) | ((with_reducible apply blk_alloc_new); (first | (with_reducible rfl) | (focus (simp; done)) | (focus (simp; omega)))) | (with_reducible apply blk_alloc) | ((with_reducible apply blk_below); (with_reducible assumption))))); rfl))
  have kk20 : blk w12 (w6.heap.size + 1) = some #[.int .i64 11, .int .i64 3] := (by (apply blk_to; (focus (repeat (first | (with_reducible assumption) | (with_reducible apply blk_drew) | (with_reducible apply blk_set) | ((with_reducible apply blk_other'); (first | (focus (dsimp only; assumption)) | (focus (simp; done)) | (focus (dsimp only; omega)))) | ((with_reducible apply blk_alloc_new); (first | (with_reducible rfl) | (focus (simp; done)) | (focus (simp; omega)))) | (with_reducible apply blk_alloc) | ((with_reducible apply blk_below); (with_reducible assumption))))); rfl))
  have kk21 : blk w12 (w7.heap.size + 1) = some #[.int .i64 3, .int .i64 0] := (by (apply blk_to; (focus (repeat (first | (with_reducible assumption) | (with_reducible apply blk_drew) | (with_reducible apply blk_set) | ((with_reducible apply blk_other'); (first | (focus (dsimp only; assumption)) | (focus (simp; done)) | (focus (dsimp only; omega)))) | ((with_reducible apply blk_alloc_new); (first | (with_reducible rfl) | (focus (simp; done)) | (focus (simp; omega)))) | (with_reducible apply blk_alloc) | ((with_reducible apply blk_below); (with_reducible assumption))))); rfl))
  clear kk14 kn14 kk15 kn15 kk16 kn16 kk17 kn17
  have kn18 := kn kk18
  have kn19 := kn kk19
  have kn20 := kn kk20
  have kn21 := kn kk21
  have bw12 : Below w.heap.size w w12 := (by (repeat (first | (with_reducible assumption) | (with_reducible exact Below.refl _ _) | (with_reducible refine beld_drew ?_) | ((with_reducible refine bset' ?_ ?_); (first | (focus (dsimp only; assumption)) | (focus (simp; done)) | (focus (dsimp only; omega)))) | (with_reducible refine belt_alloc ?_) | ((with_reducible refine zeroed_below' ?_ ?_); (first | (focus (simp; done)) | (focus (dsimp only; omega)))) | (with_reducible refine bt ?_ (by assumption)))))
  have sw12 := bw12.size
  clear hw12 bw11
  go_wp2_with fail
  (with_reducible refine (first_any _).mono ?_)
  rintro e w13 ⟨rfl, hw13⟩
  have O13 := Lib.hid (O12.out.below hw13); clear O12
  have kk22 : blk w13 (w5.heap.size) = some #[.int .i64 1, .int .u64 2, .int .i64 0, .int .i64 3, .int .i64 1, .int .i64 5, .int .i64 300, .int .i64 2, .string ⟨#[104, 105]⟩] := (by (apply blk_to; (focus (repeat (first | (with_reducible assumption) | (with_reducible apply blk_drew) | (with_reducible apply blk_set) | ((with_reducible apply blk_other'); (first | (focus (dsimp only; assumption)) | (focus (simp; done)) | (focus (dsimp only; omega)))) | ((with_reducible apply blk_alloc_new); (first | (with_reducible rfl) | (focus (simp; done)) | (focus (simp; omega)))) | (with_reducible apply blk_alloc) | ((with_reducible apply blk_below); (with_reducible assumption))))); rfl))
  have kk23 : blk w13 (w5.heap.size + 1) = some #[.int .i64 0, .int .i64 0] := (by (apply blk_to; (focus (repeat (first | (with_reducible assumption) | (with_reducible apply blk_drew) | (with_reducible apply blk_set) | ((with_reducible apply blk_other'); (first | (focus (dsimp only; assumption)) | (focus (simp; done)) | (focus (dsimp only; omega)))) | ((with_reducible apply blk_alloc_new); (first | (with_reducible rfl) | (focus (simp; done)) | (focus (simp; omega)))) | (with_reducible apply blk_alloc) | ((with_reducible apply blk_below); (with_reducible assumption))))); rfl))
  have kk24 : blk w13 (w6.heap.size + 1) = some #[.int .i64 11, .int .i64 3] := (by (apply blk_to; (focus (repeat (first | (with_reducible assumption) | (with_reducible apply blk_drew) | (with_reducible apply blk_set) | ((with_reducible apply blk_other'); (first | (focus (dsimp only; assumption)) | (focus (simp; done)) | (focus (dsimp only; omega)))) | ((with_reducible apply blk_alloc_new); (first | (with_reducible rfl) | (focus (simp; done)) | (focus (simp; omega)))) | (with_reducible apply blk_alloc) | ((with_reducible apply blk_below); (with_reducible assumption))))); rfl))
  have kk25 : blk w13 (w7.heap.size + 1) = some #[.int .i64 3, .int .i64 0] := (by (apply blk_to; (focus (repeat (first | (with_reducible assumption) | (with_reducible apply blk_drew) | (with_reducible apply blk_set) | ((with_reducible apply blk_other'); (first | (focus (dsimp only; assumption)) | (focus (simp; done)) | (focus (dsimp only; omega)))) | ((with_reducible apply blk_alloc_new); (first | (with_reducible rfl) | (focus (simp; done)) | (focus (simp; omega)))) | (with_reducible apply blk_alloc) | ((with_reducible apply blk_below); (with_reducible assumption))))); rfl))
  clear kk18 kn18 kk19 kn19 kk20 kn20 kk21 kn21
  have kn22 := kn kk22
  have kn23 := kn kk23
  have kn24 := kn kk24
  have kn25 := kn kk25
  have bw13 : Below w.heap.size w w13 := (by (repeat (first | (with_reducible assumption) | (with_reducible exact Below.refl _ _) | (with_reducible refine beld_drew ?_) | ((with_reducible refine bset' ?_ ?_); (first | (focus (dsimp only; assumption)) | (focus (simp; done)) | (focus (dsimp only; omega)))) | (with_reducible refine belt_alloc ?_) | ((with_reducible refine zeroed_below' ?_ ?_); (first | (focus (simp; done)) | (focus (dsimp only; omega)))) | (with_reducible refine bt ?_ (by assumption)))))
  have sw13 := bw13.size
  clear hw13 bw12
  go_wp2_with fail
  (with_reducible refine (g8.out _ (HT.out.on bw13)).mono ?_)
  rintro e w14 ⟨rfl, hw14⟩
  have O14 := Lib.hid (O13.out.below hw14); clear O13
  have kk26 : blk w14 (w5.heap.size) = some #[.int .i64 1, .int .u64 2, .int .i64 0, .int .i64 3, .int .i64 1, .int .i64 5, .int .i64 300, .int .i64 2, .string ⟨#[104, 105]⟩] := (by (apply blk_to; (focus (repeat (first | (with_reducible assumption) | (with_reducible apply blk_drew) | (with_reducible apply blk_set) | ((with_reducible apply blk_other'); (first | (focus (dsimp only; assumption)) | (focus (simp; done)) | (focus (dsimp only; omega)))) | ((with_reducible apply blk_alloc_new); (first | (with_reducible rfl) | (focus (simp; done)) | (focus (simp; omega)))) | (with_reducible apply blk_alloc) | ((with_reducible apply blk_below); (with_reducible assumption))))); rfl))
  have kk27 : blk w14 (w5.heap.size + 1) = some #[.int .i64 0, .int .i64 0] := (by (apply blk_to; (focus (repeat (first | (with_reducible assumption) | (with_reducible apply blk_drew) | (with_reducible apply blk_set) | ((with_reducible apply blk_other'); (first | (focus (dsimp only; assumption)) | (focus (simp; done)) | (focus (dsimp only; omega)))) | ((with_reducible apply blk_alloc_new); (first | (with_reducible rfl) | (focus (simp; done)) | (focus (simp; omega)))) | (with_reducible apply blk_alloc) | ((with_reducible apply blk_below); (with_reducible assumption))))); rfl))
  have kk28 : blk w14 (w6.heap.size + 1) = some #[.int .i64 11, .int .i64 3] := (by (apply blk_to; (focus (repeat (first | (with_reducible assumption) | (with_reducible apply blk_drew) | (with_reducible apply blk_set) | ((with_reducible apply blk_other'); (first | (focus (dsimp only; assumption)) | (focus (simp; done)) | (focus (dsimp only; omega)))) | ((with_reducible apply blk_alloc_new); (first | (with_reducible rfl) | (focus (simp; done)) | (focus (simp; omega)))) | (with_reducible apply blk_alloc) | ((with_reducible apply blk_below); (with_reducible assumption))))); rfl))
  have kk29 : blk w14 (w7.heap.size + 1) = some #[.int .i64 3, .int .i64 0] := (by (apply blk_to; (focus (repeat (first | (with_reducible assumption) | (with_reducible apply blk_drew) | (with_reducible apply blk_set) | ((with_reducible apply blk_other'); (first | (focus (dsimp only; assumption)) | (focus (simp; done)) | (focus (dsimp only; omega)))) | ((with_reducible apply blk_alloc_new); (first | (with_reducible rfl) | (focus (simp; done)) | (focus (simp; omega)))) | (with_reducible apply blk_alloc) | ((with_reducible apply blk_below); (with_reducible assumption))))); rfl))
  clear kk22 kn22 kk23 kn23 kk24 kn24 kk25 kn25
  have kn26 := kn kk26
  have kn27 := kn kk27
  have kn28 := kn kk28
  have kn29 := kn kk29
  have bw14 : Below w.heap.size w w14 := (by (repeat (first | (with_reducible assumption) | (with_reducible exact Below.refl _ _) | (with_reducible refine beld_drew ?_) | ((with_reducible refine bset' ?_ ?_); (first | (focus (dsimp only; assumption)) | (focus (simp; done)) | (focus (dsimp only; omega)))) | (with_reducible refine belt_alloc ?_) | ((with_reducible refine zeroed_below' ?_ ?_); (first | (focus (simp; done)) | (focus (dsimp only; omega)))) | (with_reducible refine bt ?_ (by assumption)))))
  have sw14 := bw14.size
  clear hw14 bw13
  go_wp2
  have n15 : ¬ (9223372036854775807 < (⟨#[181, 1, 2, 3, 5, 130, 44, 2, 104, 105, 110, 29, 44, 15]⟩ : ByteArray).size + (⟨#[120]⟩ : ByteArray).size) := by decide
  refine wp_region_in (by kernel_rfl) (by kernel_rfl) ?_
  intro W0_30 hE_30 hN_30
  have bW0_30 : Below w.heap.size w W0_30 := (by rw [hE_30.out]; (repeat (first | (with_reducible assumption) | (with_reducible exact Below.refl _ _) | (with_reducible refine beld_drew ?_) | ((with_reducible refine bset' ?_ ?_); (first | (focus (dsimp only; assumption)) | (focus (simp; done)) | (focus (dsimp only; omega)))) | (with_reducible refine belt_alloc ?_) | ((with_reducible refine zeroed_below' ?_ ?_); (first | (focus (simp; done)) | (focus (dsimp only; omega)))) | (with_reducible refine bt ?_ (by assumption)))))
  have kk31 : blk W0_30 (w5.heap.size) = some #[.int .i64 1, .int .u64 2, .int .i64 0, .int .i64 3, .int .i64 1, .int .i64 5, .int .i64 300, .int .i64 2, .string ⟨#[104, 105]⟩] := (by rw [hE_30.out]; (apply blk_to; (focus (repeat (first | (with_reducible assumption) | (with_reducible apply blk_drew) | (with_reducible apply blk_set) | ((with_reducible apply blk_other'); (first | (focus (dsimp only; assumption)) | (focus (simp; done)) | (focus (dsimp only; omega)))) | ((with_reducible apply blk_alloc_new); (first | (with_reducible rfl) | (focus (simp; done)) | (focus (simp; omega)))) | (with_reducible apply blk_alloc) | ((with_reducible apply blk_below); (with_reducible assumption))))); rfl))
  have kk32 : blk W0_30 (w5.heap.size + 1) = some #[.int .i64 0, .int .i64 0] := (by rw [hE_30.out]; (apply blk_to; (focus (repeat (first | (with_reducible assumption) | (with_reducible apply blk_drew) | (with_reducible apply blk_set) | ((with_reducible apply blk_other'); (first | (focus (dsimp only; assumption)) | (focus (simp; done)) | (focus (dsimp only; omega)))) | ((with_reducible apply blk_alloc_new); (first | (with_reducible rfl) | (focus (simp; done)) | (focus (simp; omega)))) | (with_reducible apply blk_alloc) | ((with_reducible apply blk_below); (with_reducible assumption))))); rfl))
  have kk33 : blk W0_30 (w6.heap.size + 1) = some #[.int .i64 11, .int .i64 3] := (by rw [hE_30.out]; (apply blk_to; (focus (repeat (first | (with_reducible assumption) | (with_reducible apply blk_drew) | (with_reducible apply blk_set) | ((with_reducible apply blk_other'); (first | (focus (dsimp only; assumption)) | (focus (simp; done)) | (focus (dsimp only; omega)))) | ((with_reducible apply blk_alloc_new); (first | (with_reducible rfl) | (focus (simp; done)) | (focus (simp; omega)))) | (with_reducible apply blk_alloc) | ((with_reducible apply blk_below); (with_reducible assumption))))); rfl))
  have kk34 : blk W0_30 (w7.heap.size + 1) = some #[.int .i64 3, .int .i64 0] := (by rw [hE_30.out]; (apply blk_to; (focus (repeat (first | (with_reducible assumption) | (with_reducible apply blk_drew) | (with_reducible apply blk_set) | ((with_reducible apply blk_other'); (first | (focus (dsimp only; assumption)) | (focus (simp; done)) | (focus (dsimp only; omega)))) | ((with_reducible apply blk_alloc_new); (first | (with_reducible rfl) | (focus (simp; done)) | (focus (simp; omega)))) | (with_reducible apply blk_alloc) | ((with_reducible apply blk_below); (with_reducible assumption))))); rfl))
  clear kk26 kn26 kk27 kn27 kk28 kn28 kk29 kn29
  have kn31 := calm_kn kk31
  have kn32 := calm_kn kk32
  have kn33 := calm_kn kk33
  have kn34 := calm_kn kk34
  have cvx : ∀ x : Class (Calm W0_30), (convert 43 9 (.slice (some ⟨w7.heap.size + 1 + 1, 0, none⟩) 14 cap8)).run Tryd.prog x.wd = .ok (.string ⟨#[181, 1, 2, 3, 5, 130, 44, 2, 104, 105, 110, 29, 44, 14]⟩) x.wd := (fun x => (O14.out.below (by rw [← hE_30.out]; exact x.ok)).back Tryd.underlying43 Tryd.underlying5 Tryd.underlying9)
  clear hE_30
  repeat (go_big_quiet_step ((first | (go_at_call 21; (with_reducible refine Class.go _ (first_any _))) | (go_at_call 10; (with_reducible refine Class.go _ (g0.out _ (HT.out.on (bt (by assumption) (Class.ok _))) (ST.out.on (bt (by assumption) (Class.ok _)))))) | (go_at_call 23; (with_reducible refine Class.go _ (f3.out _ (HT.out.on (bt (by assumption) (Class.ok _))) (ST.out.on (bt (by assumption) (Class.ok _)))))) | (go_at_call 23; (with_reducible refine Class.go _ (f4.out _ (HT.out.on (bt (by assumption) (Class.ok _))) (ST.out.on (bt (by assumption) (Class.ok _)))))) | (go_at_call 23; (with_reducible refine Class.go _ (f5.out _ (HT.out.on (bt (by assumption) (Class.ok _))) (ST.out.on (bt (by assumption) (Class.ok _)))))))))
  refine wpQuiet_nil ?_
  rintro _ ⟨x_30, rfl⟩
  have hx_30 : Calm W0_30 x_30.wd := x_30.ok
  have bw15 : Below w.heap.size w x_30.wd := bt bW0_30 hx_30
  clear kn31; replace kk31 := blk_below hx_30 kk31; have kn31 := kn kk31
  clear kn32; replace kk32 := blk_below hx_30 kk32; have kn32 := kn kk32
  clear kn33; replace kk33 := blk_below hx_30 kk33; have kn33 := kn kk33
  clear kn34; replace kk34 := blk_below hx_30 kk34; have kn34 := kn kk34
  clear hx_30 bW0_30 hN_30 bw14
  generalize x_30.wd = w15 at *
  have sw15 := bw15.size
  go_wp2
  go_ret
  exact ⟨rfl, bw15⟩
end Go.Proofs.YtiphddlakbbfiaaDoor
