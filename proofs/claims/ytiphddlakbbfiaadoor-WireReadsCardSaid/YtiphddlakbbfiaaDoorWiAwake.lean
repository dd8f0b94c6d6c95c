/- The chapter's bundles, and awake. -/
import Derived.Test.YtiphddlakbbfiaaDoorWiPeek
namespace Go.Proofs.YtiphddlakbbfiaaDoor
set_option linter.unusedVariables false
open Go.RowKit

set_option maxRecDepth 100000 in
theorem first_any (w : World) : Calls Tryd.prog 21 #[] w fun e w' => e = .returned (buv 1 2 0 3 1 5 300 2 ⟨#[104, 105]⟩) ∧ Below w.heap.size w w' := by
  go_enter Tryd.func21, Tryd.ntmps21
  go_wp2
  refine ret_blk (b := w.heap.size) (c := #[.int .i64 1, .int .u64 2, .int .i64 0, .int .i64 3, .int .i64 1, .int .i64 5, .int .i64 300, .int .i64 2, .string ⟨#[104, 105]⟩]) (v := buv 1 2 0 3 1 5 300 2 ⟨#[104, 105]⟩) (by (apply blk_to; (focus (repeat (first | (with_reducible assumption) | (with_reducible apply blk_drew) | (with_reducible apply blk_set) | ((with_reducible apply blk_other'); (first | (focus (dsimp only; assumption)) | (focus (simp; done)) | (focus (dsimp only; omega)))) | ((with_reducible apply blk_alloc_new); (first | (with_reducible rfl) | (focus (simp; done)) | (focus (simp; omega)))) | (with_reducible apply blk_alloc) | ((with_reducible apply blk_below); (with_reducible assumption))))); rfl)) (fun W' e1 => by simp [results, Tryd.results21, go_sem, e1]) rfl ⟨rfl, by (repeat (first | (with_reducible assumption) | (with_reducible exact Below.refl _ _) | (with_reducible refine beld_drew ?_) | ((with_reducible refine bset' ?_ ?_); (first | (focus (dsimp only; assumption)) | (focus (simp; done)) | (focus (dsimp only; omega)))) | (with_reducible refine belt_alloc ?_) | ((with_reducible refine zeroed_below' ?_ ?_); (first | (focus (simp; done)) | (focus (dsimp only; omega)))) | (with_reducible refine bt ?_ (by assumption))))⟩
set_option maxRecDepth 100000 in
theorem second_any (w : World) : Calls Tryd.prog 22 #[] w fun e w' => e = .returned (buv 1 2 0 3 1 5 300 9 ⟨#[104, 105]⟩) ∧ Below w.heap.size w w' := by
  go_enter Tryd.func22, Tryd.ntmps22
  go_wp2_with (go_at_call 21; (with_reducible refine (first_any _).mono ?_); rintro e w1 ⟨rfl, h1⟩; have k1 := blk_below h1 (blk_alloc_new w _ _ rfl); have n1 := kn k1)
  refine ret_blk (b := w.heap.size) (c := #[.int .i64 1, .int .u64 2, .int .i64 0, .int .i64 3, .int .i64 1, .int .i64 5, .int .i64 300, .int .i64 9, .string ⟨#[104, 105]⟩]) (v := buv 1 2 0 3 1 5 300 9 ⟨#[104, 105]⟩) (by (apply blk_to; (focus (repeat (first | (with_reducible assumption) | (with_reducible apply blk_drew) | (with_reducible apply blk_set) | ((with_reducible apply blk_other'); (first | (focus (dsimp only; assumption)) | (focus (simp; done)) | (focus (dsimp only; omega)))) | ((with_reducible apply blk_alloc_new); (first | (with_reducible rfl) | (focus (simp; done)) | (focus (simp; omega)))) | (with_reducible apply blk_alloc) | ((with_reducible apply blk_below); (with_reducible assumption))))); rfl)) (fun W' e1 => by simp [results, Tryd.results22, go_sem, e1]) rfl ⟨rfl, by (repeat (first | (with_reducible assumption) | (with_reducible exact Below.refl _ _) | (with_reducible refine beld_drew ?_) | ((with_reducible refine bset' ?_ ?_); (first | (focus (dsimp only; assumption)) | (focus (simp; done)) | (focus (dsimp only; omega)))) | (with_reducible refine belt_alloc ?_) | ((with_reducible refine zeroed_below' ?_ ?_); (first | (focus (simp; done)) | (focus (dsimp only; omega)))) | (with_reducible refine bt ?_ (by assumption))))⟩
theorem enc_first : encC 1 2 0 3 1 5 300 2 [104, 105] = ([181, 1, 2, 3, 5, 130, 44, 2, 104, 105, 110, 29, 44, 15], 0) := by decide +kernel
/-- Equality of IDs, of bundles, of faults. -/
def idEq (no sq of no' sq' of' : Int) : Bool := decide (no = no' ∧ sq = sq' ∧ of = of')
theorem run_idEq (no sq of no' sq' of' : Int) (w : World) : Sem.run Tryd.prog (binOp BinOp.eql 24 (.agg #[.int .i64 no, .int .u64 sq, .int .i64 of]) (.agg #[.int .i64 no', .int .u64 sq', .int .i64 of'])) w = .ok (.bool (idEq no sq of no' sq' of')) w := by
  unfold idEq
  go_simp
  repeat' split
  all_goals simp [*]
def ftEq (e a e' a' : Int) : Bool := decide (e = e' ∧ a = a')
theorem run_ftEq (e a e' a' : Int) (w : World) : Sem.run Tryd.prog (binOp BinOp.eql 36 (.agg #[.int .i64 e, .int .i64 a]) (.agg #[.int .i64 e', .int .i64 a'])) w = .ok (.bool (ftEq e a e' a')) w := by
  unfold ftEq
  go_simp
  repeat' split
  all_goals simp [*]
theorem field_id (no sq of de pr bo li to : Int) (da : ByteArray) (w : World) : Sem.run Tryd.prog (Instr.field 26 (.agg #[.int .i64 no, .int .u64 sq, .int .i64 of, .int .i64 de, .int .i64 pr, .int .i64 bo, .int .i64 li, .int .i64 to, .string da]) 0) w = .ok (.agg #[.int .i64 no, .int .u64 sq, .int .i64 of]) w := by kernel_rfl
theorem size_second : sizeC 1 2 0 3 1 5 300 9 2 = (16, 0) := by decide +kernel
theorem room_first : roomC 1 2 0 3 1 5 300 2 2 13 = (1, 0) := by decide +kernel
theorem peek_known : peekC [181, 1, 2, 3, 5, 130, 44] = (1, 2, 0, 3, 0, 0) := by decide +kernel
set_option maxRecDepth 100000 in
set_option maxHeartbeats 1600000 in
theorem awake_any (w : World) (hH : HTab w) (hT : STab w) : Calls Tryd.prog 10 #[] w fun e w' => e = .returned (.bool true) ∧ Below w.heap.size w w' := by
  have g1 := fun w h t => encode_any 1 2 0 3 1 5 300 2 ⟨#[104, 105]⟩ (by decide) (by omega) w h t
  rw [show encC 1 2 0 3 1 5 300 2 (ByteArray.data ⟨#[104, 105]⟩).toList = ([181, 1, 2, 3, 5, 130, 44, 2, 104, 105, 110, 29, 44, 15], 0) from enc_first] at g1
  have g1 : ∀ w, HTab w → STab w → Calls Tryd.prog 11 #[buv 1 2 0 3 1 5 300 2 ⟨#[104, 105]⟩] w fun e w' => e = .returned (.tuple #[.string ⟨#[181, 1, 2, 3, 5, 130, 44, 2, 104, 105, 110, 29, 44, 15]⟩, .int .i64 0]) ∧ Below w.heap.size w w' := g1
  have g2 := fun w h => sizeB_any 1 2 0 3 1 5 300 9 ⟨#[104, 105]⟩ (by decide) (by omega) w h
  rw [show sizeC 1 2 0 3 1 5 300 9 ((ByteArray.size ⟨#[104, 105]⟩ : Nat) : Int) = (16, 0) from size_second] at g2
  have g3 := fun w h => room_any 1 2 0 3 1 5 300 2 13 ⟨#[104, 105]⟩ (by decide) (by omega) w h
  rw [show roomC 1 2 0 3 1 5 300 2 ((ByteArray.size ⟨#[104, 105]⟩ : Nat) : Int) 13 = (1, 0) from room_first] at g3
  have g4 := fun w h => peek_any ⟨#[181, 1, 2, 3, 5, 130, 44]⟩ (by decide) w h
  rw [show peekC (ByteArray.data ⟨#[181, 1, 2, 3, 5, 130, 44]⟩).toList = (1, 2, 0, 3, 0, 0) from peek_known] at g4
  simp only at g2 g3 g4
  have hex : ∀ w : World, True := fun _ => trivial
  clear hex
  have HT := Lib.hid hH; have ST := Lib.hid hT
  replace g1 := Lib.hid g1; replace g2 := Lib.hid g2; replace g3 := Lib.hid g3; replace g4 := Lib.hid g4
  clear hH hT
  have h10 : (((⟨#[181, 1, 2, 3, 5, 130, 44, 2, 104, 105, 110, 29, 44, 15]⟩ : ByteArray).extract 0 10).toList == [181, 1, 2, 3, 5, 130, 44, 2, 104, 105]) = true := by decide +kernel
  have E1 : ∀ w, Sem.run Tryd.prog (binOp BinOp.eql 24 (.agg #[.int .i64 1, .int .u64 2, .int .i64 0]) (.agg #[.int .i64 1, .int .u64 2, .int .i64 0])) w = .ok (.bool true) w := fun w => run_idEq 1 2 0 1 2 0 w
  have E2 : ∀ w, Sem.run Tryd.prog (binOp BinOp.eql 36 (.agg #[.int .i64 0, .int .i64 0]) (.agg #[.int .i64 0, .int .i64 0])) w = .ok (.bool true) w := fun w => run_ftEq 0 0 0 0 w
  have E3 := fun w => field_id 1 2 0 3 1 5 300 2 ⟨#[104, 105]⟩ w
  go_enter Tryd.func10, Tryd.ntmps10
  go_wp2_with fail
  (with_reducible refine (first_any _).mono ?_)
  rintro e w1 ⟨rfl, hw1⟩
  have bw1 : Below w.heap.size w w1 := (by (repeat (first | (with_reducible assumption) | (with_reducible exact Below.refl _ _) | (with_reducible refine beld_drew ?_) | ((with_reducible refine bset' ?_ ?_); (first | (focus (dsimp only; assumption)) | (focus (simp; done)) | (focus (dsimp only; omega)))) | (with_reducible refine belt_alloc ?_) | ((with_reducible refine zeroed_below' ?_ ?_); (first | (focus (simp; done)) | (focus (dsimp only; omega)))) | (with_reducible refine bt ?_ (by assumption)))))
  have sw1 := bw1.size
  clear hw1
  go_wp2_with fail
  (with_reducible refine (g1.out _ (HT.out.on bw1) (ST.out.on bw1)).mono ?_)
  rintro e w2 ⟨rfl, hw2⟩
  have bw2 : Below w.heap.size w w2 := (by (repeat (first | (with_reducible assumption) | (with_reducible exact Below.refl _ _) | (with_reducible refine beld_drew ?_) | ((with_reducible refine bset' ?_ ?_); (first | (focus (dsimp only; assumption)) | (focus (simp; done)) | (focus (dsimp only; omega)))) | (with_reducible refine belt_alloc ?_) | ((with_reducible refine zeroed_below' ?_ ?_); (first | (focus (simp; done)) | (focus (dsimp only; omega)))) | (with_reducible refine bt ?_ (by assumption)))))
  have sw2 := bw2.size
  clear hw2 bw1
  go_wp2_with fail
  (with_reducible refine (second_any _).mono ?_)
  rintro e w3 ⟨rfl, hw3⟩
  have bw3 : Below w.heap.size w w3 := (by (repeat (first | (with_reducible assumption) | (with_reducible exact Below.refl _ _) | (with_reducible refine beld_drew ?_) | ((with_reducible refine bset' ?_ ?_); (first | (focus (dsimp only; assumption)) | (focus (simp; done)) | (focus (dsimp only; omega)))) | (with_reducible refine belt_alloc ?_) | ((with_reducible refine zeroed_below' ?_ ?_); (first | (focus (simp; done)) | (focus (dsimp only; omega)))) | (with_reducible refine bt ?_ (by assumption)))))
  have sw3 := bw3.size
  clear hw3 bw2
  go_wp2_with fail
  (with_reducible refine (g2.out _ (HT.out.on bw3)).mono ?_)
  rintro e w4 ⟨rfl, hw4⟩
  have bw4 : Below w.heap.size w w4 := (by (repeat (first | (with_reducible assumption) | (with_reducible exact Below.refl _ _) | (with_reducible refine beld_drew ?_) | ((with_reducible refine bset' ?_ ?_); (first | (focus (dsimp only; assumption)) | (focus (simp; done)) | (focus (dsimp only; omega)))) | (with_reducible refine belt_alloc ?_) | ((with_reducible refine zeroed_below' ?_ ?_); (first | (focus (simp; done)) | (focus (dsimp only; omega)))) | (with_reducible refine bt ?_ (by assumption)))))
  have sw4 := bw4.size
  clear hw4 bw3
  go_wp2_with fail
  (with_reducible refine (first_any _).mono ?_)
  rintro e w5 ⟨rfl, hw5⟩
  have bw5 : Below w.heap.size w w5 := (by (repeat (first | (with_reducible assumption) | (with_reducible exact Below.refl _ _) | (with_reducible refine beld_drew ?_) | ((with_reducible refine bset' ?_ ?_); (first | (focus (dsimp only; assumption)) | (focus (simp; done)) | (focus (dsimp only; omega)))) | (with_reducible refine belt_alloc ?_) | ((with_reducible refine zeroed_below' ?_ ?_); (first | (focus (simp; done)) | (focus (dsimp only; omega)))) | (with_reducible refine bt ?_ (by assumption)))))
  have sw5 := bw5.size
  clear hw5 bw4
  go_wp2_with fail
  (with_reducible refine (g3.out _ (HT.out.on bw5)).mono ?_)
  rintro e w6 ⟨rfl, hw6⟩
  have bw6 : Below w.heap.size w w6 := (by (repeat (first | (with_reducible assumption) | (with_reducible exact Below.refl _ _) | (with_reducible refine beld_drew ?_) | ((with_reducible refine bset' ?_ ?_); (first | (focus (dsimp only; assumption)) | (focus (simp; done)) | (focus (dsimp only; omega)))) | (with_reducible refine belt_alloc ?_) | ((with_reducible refine zeroed_below' ?_ ?_); (first | (focus (simp; done)) | (focus (dsimp only; omega)))) | (with_reducible refine bt ?_ (by assumption)))))
  have sw6 := bw6.size
  clear hw6 bw5
  go_wp2_with fail
  (with_reducible refine (g4.out _ (HT.out.on bw6)).mono ?_)
  rintro e w7 ⟨rfl, hw7⟩
  have bw7 : Below w.heap.size w w7 := (by (repeat (first | (with_reducible assumption) | (with_reducible exact Below.refl _ _) | (with_reducible refine beld_drew ?_) | ((with_reducible refine bset' ?_ ?_); (first | (focus (dsimp only; assumption)) | (focus (simp; done)) | (focus (dsimp only; omega)))) | (with_reducible refine belt_alloc ?_) | ((with_reducible refine zeroed_below' ?_ ?_); (first | (focus (simp; done)) | (focus (dsimp only; omega)))) | (with_reducible refine bt ?_ (by assumption)))))
  have sw7 := bw7.size
  clear hw7 bw6
  go_wp2
  refine wp_region_in (by kernel_rfl) (by kernel_rfl) ?_
  intro W0_1 hE_1 hN_1
  have bW0_1 : Below w.heap.size w W0_1 := (by rw [hE_1.out]; (repeat (first | (with_reducible assumption) | (with_reducible exact Below.refl _ _) | (with_reducible refine beld_drew ?_) | ((with_reducible refine bset' ?_ ?_); (first | (focus (dsimp only; assumption)) | (focus (simp; done)) | (focus (dsimp only; omega)))) | (with_reducible refine belt_alloc ?_) | ((with_reducible refine zeroed_below' ?_ ?_); (first | (focus (simp; done)) | (focus (dsimp only; omega)))) | (with_reducible refine bt ?_ (by assumption)))))
  have kk2 : blk W0_1 (w7.heap.size) = some #[.int .i64 1, .int .u64 2, .int .i64 0] := (by rw [hE_1.out]; (apply blk_to; (focus (repeat (first | (with_reducible assumption) | (with_reducible apply blk_drew) | (with_reducible apply blk_set) | ((with_reducible apply blk_other'); (first | (focus (dsimp only; assumption)) | (focus (simp; done)) | (focus (dsimp only; omega)))) | ((with_reducible apply blk_alloc_new); (first | (with_reducible rfl) | (focus (simp; done)) | (focus (simp; omega)))) | (with_reducible apply blk_alloc) | ((with_reducible apply blk_below); (with_reducible assumption))))); rfl))
  have kk3 : blk W0_1 (w7.heap.size + 1) = some #[.int .i64 0, .int .i64 0] := (by rw [hE_1.out]; (apply blk_to; (focus (repeat (first | (with_reducible assumption) | (with_reducible apply blk_drew) | (with_reducible apply blk_set) | ((with_reducible apply blk_other'); (first | (focus (dsimp only; assumption)) | (focus (simp; done)) | (focus (dsimp only; omega)))) | ((with_reducible apply blk_alloc_new); (first | (with_reducible rfl) | (focus (simp; done)) | (focus (simp; omega)))) | (with_reducible apply blk_alloc) | ((with_reducible apply blk_below); (with_reducible assumption))))); rfl))
  have kn2 := calm_kn kk2
  have kn3 := calm_kn kk3
  clear hE_1
  repeat (go_big_quiet_step ((go_at_call 21; (with_reducible refine Class.go _ (first_any _)))))
  refine wpQuiet_nil ?_
  rintro _ ⟨x_1, rfl⟩
  have hx_1 : Calm W0_1 x_1.wd := x_1.ok
  have bw8 : Below w.heap.size w x_1.wd := bt bW0_1 hx_1
  clear kn2; replace kk2 := blk_below hx_1 kk2; have kn2 := kn kk2
  clear kn3; replace kk3 := blk_below hx_1 kk3; have kn3 := kn kk3
  clear hx_1 bW0_1 hN_1 bw7
  generalize x_1.wd = w8 at *
  have sw8 := bw8.size
  go_wp2
  go_ret
  exact ⟨rfl, bw8⟩
end Go.Proofs.YtiphddlakbbfiaaDoor
