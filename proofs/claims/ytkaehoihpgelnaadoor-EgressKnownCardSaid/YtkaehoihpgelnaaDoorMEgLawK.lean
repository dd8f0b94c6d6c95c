/- Parts of a proof, printed by a program of mine out of my texts: EgLawK. -/
import Derived.Test.YtkaehoihpgelnaaDoorMF
import Derived.Test.YtkaehoihpgelnaaDoorMK
set_option linter.unusedSimpArgs false
set_option linter.unusedVariables false
namespace Go.Proofs.YtkaehoihpgelnaaDoor
open Go.RowKit
theorem srow_take {α : Type} {enc : α → List Value} {k : Nat} {w : World} {a : Option Addr} {cap : Nat} {l : List α} (h : SRow enc k w a cap l) (n : Nat) : SRow enc k w a cap (l.take n) := by
  obtain ⟨h1, h2, h3, h4⟩ := h
  refine ⟨Nat.le_trans (by rw [List.length_take]; omega) h1, h2, h3, fun h0 => ?_⟩
  rw [List.length_take] at h0
  obtain ⟨b, off, e, hlt, hc⟩ := h4 (by omega)
  exact ⟨b, off, e, hlt, fun i hi => by rw [List.getElem_take]; exact hc i (by rw [List.length_take] at hi; omega)⟩
theorem sized_4 (w : World) : Calls Tryd.prog 32 #[.int .i64 2, .int .i64 0, .int .i64 100] w fun e w' => ∃ da : ByteArray, da.size = 88 ∧ e = .returned (.agg #[.int .i64 1, .int .u64 2, .int .i64 0, .int .i64 2, .int .i64 0, .int .i64 1, .int .i64 1000, .int .i64 88, .string da]) ∧ Below w.heap.size w w' :=
  sized_any 2 0 100 88 (by decide) (by decide) (by decide) (by decide) (by decide +kernel) (lt_all (by decide +kernel)) w
def T1 (a : ByteArray) : List Bn := [sb 1 2 287 a]
def T2 (a b : ByteArray) : List Bn := [sb 1 2 287 a, sb 2 0 88 b]
theorem T1_ok {a : ByteArray} (ha : a.size = 287) {us bu by' : Int} (h1 : 0 ≤ us ∧ us ≤ 18446744073709551615) (h2 : 0 ≤ bu ∧ bu ≤ 9223372036854775807) (h3 : 0 ≤ by' ∧ by' ≤ 100) : OpnG fstR [0, 0, 0] (T1 a) us bu by' := by
  have e1 : bcode (sb 1 2 287 a) = 0 := sb_code (by decide) (by decide) (by decide) (by decide) ha
  refine ⟨(show 1 ≤ 20 by decide), by decide, lstE_zero (show ¬ 1000 < 1 by decide) (fun i hi => ?_) (show [((1 : Int), (1 : Int), (0 : Int))].Nodup by decide), fun x hx => ?_, h1, h2, h3⟩
  · match i, hi with
    | 0, _ => exact e1
  · simp only [T1, List.mem_cons, List.not_mem_nil, or_false] at hx
    subst hx
    exact (show (0 : Int) ≤ 1 by decide)
theorem T2_ok {a b : ByteArray} (ha : a.size = 287) (hb : b.size = 88) {us bu by' : Int} (h1 : 0 ≤ us ∧ us ≤ 18446744073709551615) (h2 : 0 ≤ bu ∧ bu ≤ 9223372036854775807) (h3 : 0 ≤ by' ∧ by' ≤ 100) : OpnG fstR [0, 0, 0] (T2 a b) us bu by' := by
  have e1 : bcode (sb 1 2 287 a) = 0 := sb_code (by decide) (by decide) (by decide) (by decide) ha
  have e2 : bcode (sb 2 0 88 b) = 0 := sb_code (by decide) (by decide) (by decide) (by decide) hb
  refine ⟨(show 2 ≤ 20 by decide), by decide, lstE_zero (show ¬ 1000 < 2 by decide) (fun i hi => ?_) (show [((1 : Int), (1 : Int), (0 : Int)), (1, 2, 0)].Nodup by decide), fun x hx => ?_, h1, h2, h3⟩
  · match i, hi with
    | 0, _ => exact e1
    | 1, _ => exact e2
  · simp only [T2, List.mem_cons, List.not_mem_nil, or_false] at hx
    rcases hx with rfl | rfl
    · exact (show (0 : Int) ≤ 1 by decide)
    · exact (show (0 : Int) ≤ 2 by decide)
theorem T1_opn {a : ByteArray} (ha : a.size = 287) (us bu by' : Int) : opnW fstR [0, 0, 0] (T1 a) us bu by' = ⟨fstR, [0, 0, 0], T1 a, [[], [], [0]], [300], us, bu, by'⟩ := by
  have e : sizesE (T1 a) = [300] := by
    show [szB (sb 1 2 287 a)] = _
    rw [sb_sz ha]; decide +kernel
  unfold opnW
  rw [e, show queS (T1 a) 0 = [] by kernel_rfl, show queS (T1 a) 1 = [] by kernel_rfl, show queS (T1 a) 2 = [0] by kernel_rfl]
theorem T2_opn {a b : ByteArray} (ha : a.size = 287) (hb : b.size = 88) (us bu by' : Int) : opnW fstR [0, 0, 0] (T2 a b) us bu by' = ⟨fstR, [0, 0, 0], T2 a b, [[1], [], [0]], [300, 100], us, bu, by'⟩ := by
  have e : sizesE (T2 a b) = [300, 100] := by
    show [szB (sb 1 2 287 a), szB (sb 2 0 88 b)] = _
    rw [sb_sz ha, sb_sz hb]; decide +kernel
  unfold opnW
  rw [e, show queS (T2 a b) 0 = [1] by kernel_rfl, show queS (T2 a b) 1 = [] by kernel_rfl, show queS (T2 a b) 2 = [0] by kernel_rfl]
theorem k_cho (a : ByteArray) : (chooseS ⟨fstR, [0, 0, 0], T1 a, [[], [], [0]], [300], 1000, 299, 5⟩).2.2 = 8 := by kernel_rfl
theorem k_a1 (a b c : ByteArray) : (allS 4 ⟨fstR, [0, 0, 0], T3 a b c, [[2], [], [0, 1]], [300, 200, 100], 250, 1000, 0⟩).1 = [2] := by kernel_rfl
theorem k_p1 (a b c : ByteArray) : (allS 4 ⟨fstR, [0, 0, 0], T3 a b c, [[2], [], [0, 1]], [300, 200, 100], 250, 1000, 0⟩).2.ps = [0, 0, 0] := by kernel_rfl
theorem k_a2 (a b : ByteArray) : (allS 3 ⟨fstR, [0, 0, 0], T2 a b, [[1], [], [0]], [300, 100], 1000, 350, 5⟩).1 = [0] := by kernel_rfl
theorem k_p2 (a b : ByteArray) : (allS 3 ⟨fstR, [0, 0, 0], T2 a b, [[1], [], [0]], [300, 100], 1000, 350, 5⟩).2.ps = [0, 0, 0] := by kernel_rfl
theorem k_a3 (a : ByteArray) : (allS 2 ⟨fstR, [0, 0, 0], T1 a, [[], [], [0]], [300], 1000, 299, 5⟩).1 = [] := by kernel_rfl
theorem k_p3 (a : ByteArray) : (allS 2 ⟨fstR, [0, 0, 0], T1 a, [[], [], [0]], [300], 1000, 299, 5⟩).2.ps = [0, 0, 0] := by kernel_rfl
theorem knw_1 {a b c : ByteArray} (ha : a.size = 287) (hb : b.size = 187) (hc : c.size = 88) (g bw : Nat) (w : World) (hT : HTab w) (hR : SRow bn 9 w (some ⟨g, 0, none⟩) 3 (T3 a b c)) (hk : blk w bw = some #[.int .i64 2]) :
    Calls Tryd.prog 33 #[.slice (some ⟨g, 0, none⟩) 3 3, .int .u64 250, .int .i64 1000, .int .i64 0, .int .i64 0, .slice (some ⟨bw, 0, none⟩) 1 1] w fun e w' => e = .returned (.bool true) ∧ Below w.heap.size w w' := by
  refine all_any (T3 a b c) (some ⟨g, 0, none⟩) 3 250 1000 0 0 [2] (allS 4 (opnW fstR [0, 0, 0] (T3 a b c) 250 1000 0)).2 (some ⟨bw, 0, none⟩) 1 (T3_ok ha hb hc (by decide) (by decide) (by decide)) ?_ ?_ ?_ (by decide) w hT hR (srow_blkI hk rfl (by decide))
  · have e := k_a1 a b c
    rw [← T3_opn ha hb hc] at e
    exact Prod.ext e rfl
  · rw [T3_opn ha hb hc, k_p1]; rfl
  · rw [T3_opn ha hb hc, k_p1]; rfl
theorem knw_2 {a b : ByteArray} (ha : a.size = 287) (hb : b.size = 88) (g bw : Nat) (w : World) (hT : HTab w) (hR : SRow bn 9 w (some ⟨g, 0, none⟩) 2 (T2 a b)) (hk : blk w bw = some #[.int .i64 0]) :
    Calls Tryd.prog 33 #[.slice (some ⟨g, 0, none⟩) 2 2, .int .u64 1000, .int .i64 350, .int .i64 5, .int .i64 0, .slice (some ⟨bw, 0, none⟩) 1 1] w fun e w' => e = .returned (.bool true) ∧ Below w.heap.size w w' := by
  refine all_any (T2 a b) (some ⟨g, 0, none⟩) 2 1000 350 5 0 [0] (allS 3 (opnW fstR [0, 0, 0] (T2 a b) 1000 350 5)).2 (some ⟨bw, 0, none⟩) 1 (T2_ok ha hb (by decide) (by decide) (by decide)) ?_ ?_ ?_ (by decide) w hT hR (srow_blkI hk rfl (by decide))
  · have e := k_a2 a b
    rw [← T2_opn ha hb] at e
    exact Prod.ext e rfl
  · rw [T2_opn ha hb, k_p2]; rfl
  · rw [T2_opn ha hb, k_p2]; rfl
theorem knw_3 {a : ByteArray} (ha : a.size = 287) (g : Nat) (w : World) (hT : HTab w) (hR : SRow bn 9 w (some ⟨g, 0, none⟩) 3 (T1 a)) :
    Calls Tryd.prog 33 #[.slice (some ⟨g, 0, none⟩) 1 3, .int .u64 1000, .int .i64 299, .int .i64 5, .int .i64 0, .slice none 0 0] w fun e w' => e = .returned (.bool true) ∧ Below w.heap.size w w' := by
  refine all_any (T1 a) (some ⟨g, 0, none⟩) 3 1000 299 5 0 [] (allS 2 (opnW fstR [0, 0, 0] (T1 a) 1000 299 5)).2 none 0 (T1_ok ha (by decide) (by decide) (by decide)) ?_ ?_ ?_ (by decide) w hT hR (srow_nil w)
  · have e := k_a3 a
    rw [← T1_opn ha] at e
    exact Prod.ext e rfl
  · rw [T1_opn ha, k_p3]; rfl
  · rw [T1_opn ha, k_p3]; rfl
theorem knw_c {a : ByteArray} (ha : a.size = 287) (c : Array Value) (g : Nat) (w : World) (hT : HTab w) (hX : ExitS (fun _ => False) w c fstR [0, 0, 0]) (hR : SRow bn 9 w (some ⟨g, 0, none⟩) 3 (T1 a)) :
    Calls Tryd.prog 30 #[.agg c, .slice (some ⟨g, 0, none⟩) 1 3, .int .u64 1000, .int .i64 299, .int .i64 5] w fun e w' => e = .returned (.tuple #[.int .i64 0, .agg #[.slice none 0 0, .int .i64 0, .slice none 0 0, .int .i64 0, .slice none 0 0], .int .i64 8]) ∧ Below w.heap.size w w' := by
  refine (chooseX_any (T1_ok ha (by decide) (by decide) (by decide)) c (some ⟨g, 0, none⟩) 3 w hT (fun _ => False) (fun _ h => h.elim) hX hR (fun _ _ _ _ h => h)).mono ?_
  rintro e w' ⟨h1, ⟨h2, h3⟩ | ⟨h2, _⟩⟩
  · rw [T1_opn ha, k_cho] at h3
    exact ⟨h3, h1⟩
  · rw [T1_opn ha, k_cho] at h2
    exact absurd h2 (by decide)
theorem T2_row (u : World) (dd de : ByteArray) : SRow bn 9 (u.alloc (.cells #[.int .i64 1, .int .u64 1, .int .i64 0, .int .i64 2, .int .i64 2, .int .i64 1, .int .i64 1000, .int .i64 287, .string dd, .int .i64 1, .int .u64 2, .int .i64 0, .int .i64 2, .int .i64 0, .int .i64 1, .int .i64 1000, .int .i64 88, .string de] 38)) (some ⟨u.heap.size, 0, none⟩) 2 (T2 dd de) :=
  srow_of_blk (sp := []) bn_len (blk_alloc_new _ _ _ rfl) (Nat.le_refl 2) (by unfold maxLen; omega)
set_option maxRecDepth 100000 in
set_option maxHeartbeats 3200000 in
theorem known_any (w : World) (hT : HTab w) : Calls Tryd.prog 7 #[] w fun e w' => e = .returned (.bool true) ∧ Below w.heap.size w w' := by
  have HT := Lib.hid hT
  clear hT
  have t8 : ((8 : Int) == 8) = true := rfl
  go_enter Tryd.func7, Tryd.ntmps7
  go_wp2_with (first
    | (go_at_call 12; (with_reducible refine (first_any _).mono ?_); rintro e u1 ⟨a1, c1, a2, c2, a3, c3, rfl, R1, R2, R3, U1, U2, U3, h1⟩; (have X1 := first_exit (w := w) (fun _ => False) (fun _ h => h.elim) R1 R2 R3 U1 U2 U3); clear R1 R2 R3 U1 U2 U3)
    | (go_at_call 31; first
      | (with_reducible refine (three_any u1).mono ?_; rintro e u2 ⟨g1, da, db, dc, rfl, lg1, ha1, hb1, hc1, R1, h2⟩; (have X2 := X1.below h2); (have b2 := bt h1 h2))
      | (with_reducible refine (three_any (u5.alloc _)).mono ?_; rintro e u7 ⟨g2, da2, db2, dc2, rfl, lg2, ha2, hb2, hc2, R7, h7⟩; (have b7 := bt b6 h7))
      | (with_reducible refine (three_any u9).mono ?_; rintro e u10 ⟨g3, da3, db3, dc3, rfl, lg3, ha3, hb3, hc3, R10, h10⟩; (have b10 := bt b9 h10)))
    | (go_at_call 30; (have R1' : SRow bn 9 u2 (some ⟨g1, 0, none⟩) 3 (T1 da) := srow_take R1 1); (with_reducible refine (knw_c ha1 _ g1 u2 (HT.out.on b2) X2 R1').mono ?_); rintro e u3 ⟨rfl, h3⟩; (have b3 := bt b2 h3); clear R1 R1' X2)
    | (go_at_call 32; first
      | (with_reducible refine (sized_1 _).mono ?_; rintro e u4 ⟨dd, hd, rfl, h4⟩; (have b4 := bt (b3.alloc b3.size _) h4))
      | (with_reducible refine (sized_4 _).mono ?_; rintro e u5 ⟨de, he, rfl, h5⟩; (have b5 := bt b4 h5); (have R5 := T2_row u5 dd de); (have b6 := b5.alloc b5.size (.cells #[.int .i64 1, .int .u64 1, .int .i64 0, .int .i64 2, .int .i64 2, .int .i64 1, .int .i64 1000, .int .i64 287, .string dd, .int .i64 1, .int .u64 2, .int .i64 0, .int .i64 2, .int .i64 0, .int .i64 1, .int .i64 1000, .int .i64 88, .string de] 38))))
    | (go_at_call 33; first
      | (with_reducible refine (knw_1 ha2 hb2 hc2 g2 u7.heap.size _ (HT.out.on (b7.alloc b7.size _)) (R7.below ((Below.refl _ _).alloc (Nat.le_refl _) _)) (blk_alloc_new _ _ _ rfl)).mono ?_; rintro e u8 ⟨rfl, h8⟩; (have b8 := bt (b7.alloc b7.size _) h8); (have R8 := ((R5.below h7).below ((Below.refl _ _).alloc (Nat.le_refl _) _)).below h8))
      | (with_reducible refine (knw_2 hd he _ u8.heap.size _ (HT.out.on (b8.alloc b8.size _)) (R8.below ((Below.refl _ _).alloc (Nat.le_refl _) _)) (blk_alloc_new _ _ _ rfl)).mono ?_; rintro e u9 ⟨rfl, h9⟩; (have b9 := bt (b8.alloc b8.size _) h9))
      | ((have R10' : SRow bn 9 u10 (some ⟨g3, 0, none⟩) 3 (T1 da3) := srow_take R10 1); with_reducible refine (knw_3 ha3 g3 _ (HT.out.on b10) R10').mono ?_; rintro e u11 ⟨rfl, h11⟩; (have b11 := bt b10 h11)))
    | (go_at_call 14; (with_reducible refine (awake_any _ (HT.out.on b11)).mono ?_); rintro e u12 ⟨rfl, h12⟩; (have b12 := bt b11 h12)))
  go_ret
  exact ⟨rfl, b12⟩
theorem egressKnown_at (w : World) (hT : Lib.TabIs Tryd.prog w headsNm .u8 headsTab) : Calls Tryd.prog 7 #[] w fun e w' => e = .returned (.bool true) ∧ Below w.heap.size w w' := known_any w (htab_of hT)
end Go.Proofs.YtkaehoihpgelnaaDoor
