/- Parts of a proof, printed by a program of mine out of my texts: StLawK. -/
import Derived.Test.YtahopnlibmiafaaDoorMDr
import Derived.Test.YtahopnlibmiafaaDoorMW
import Derived.Test.YtahopnlibmiafaaDoorMY
set_option linter.unusedSimpArgs false
set_option linter.unusedVariables false
namespace Go.Proofs.YtahopnlibmiafaaDoor
open Go.RowKit
def Y2 : List Itm := [⟨bun 2, 1, 0, 0, 1⟩, ⟨bun 3, 1, 0, 0, 2⟩]
def Z3 : List Itm := [⟨bun 2, 1, 0, 0, 1⟩, ⟨bun 3, 1, 0, 0, 2⟩, ⟨bun 1, 1, 0, 0, 3⟩]
theorem k_for1 : forS X3 2 5 = ([2], 0) := by kernel_rfl
theorem k_for2 : forS X3 1 10 = ([], 0) := by kernel_rfl
theorem k_back : backS X3 (1, 2, 0) = (T3, 0) := by kernel_rfl
theorem k_off2 : offerS X3 (1, 2, 0) 4 0 = ([], 12) := by kernel_rfl
theorem k_drop : dropS T3 (1, 1, 0) = (Y2, 0) := by kernel_rfl
theorem k_add : addS Y2 (bun 1) = (Z3, 0) := by kernel_rfl
theorem k_exp1 : expiredS T3 10 = ([(1, 1, 0)], 0) := by kernel_rfl
theorem k_exp2 : expiredS T3 20 = ([(1, 1, 0), (1, 2, 0)], 0) := by kernel_rfl
theorem k_exp3 : expiredS T3 9 = ([], 0) := by kernel_rfl
theorem k_add2 : addS T3 (bun 2) = ([], 9) := by kernel_rfl
theorem k_find : findS T3 (1, 9, 0) = (0, 8) := by kernel_rfl
theorem k_off3 : offerS T3 (1, 2, 0) 17 0 = ([], 2) := by kernel_rfl
theorem k_backs : backAllS T3 0 = ([], 2) := by kernel_rfl
theorem Y2_ok : ∀ x ∈ Y2, GdI x := by intro x hx; simp only [Y2, List.mem_cons, List.not_mem_nil, or_false] at hx; rcases hx with rfl | rfl <;> exact ⟨bun_da _, by decide⟩
theorem kc_off1 (g cap : Nat) (W : World) (h : SRow itm 13 W (some ⟨g, 0, none⟩) cap T3) : Calls Tryd.prog 38 #[.slice (some ⟨g, 0, none⟩) 3 cap, .agg #[.int .i64 1, .int .u64 2, .int .i64 0], .int .i64 3, .int .u64 26] W fun e w' => RetS (X3, 0) W e w' := by
  have := offer_any (some ⟨g, 0, none⟩) cap T3 (1, 2, 0) 3 26 (fun x hx => (T3_ok x hx).1) W h
  rw [offer_3] at this
  exact this
theorem kc_off2 (g cap : Nat) (W : World) (h : SRow itm 13 W (some ⟨g, 0, none⟩) cap X3) : Calls Tryd.prog 38 #[.slice (some ⟨g, 0, none⟩) 3 cap, .agg #[.int .i64 1, .int .u64 2, .int .i64 0], .int .i64 4, .int .u64 0] W fun e w' => RetS ([], 12) W e w' := by
  have := offer_any (some ⟨g, 0, none⟩) cap X3 (1, 2, 0) 4 0 (fun x hx => (X3_ok x hx).1) W h
  rw [k_off2] at this
  exact this
theorem kc_off3 (g cap : Nat) (W : World) (h : SRow itm 13 W (some ⟨g, 0, none⟩) cap T3) : Calls Tryd.prog 38 #[.slice (some ⟨g, 0, none⟩) 3 cap, .agg #[.int .i64 1, .int .u64 2, .int .i64 0], .int .i64 17, .int .u64 0] W fun e w' => RetS ([], 2) W e w' := by
  have := offer_any (some ⟨g, 0, none⟩) cap T3 (1, 2, 0) 17 0 (fun x hx => (T3_ok x hx).1) W h
  rw [k_off3] at this
  exact this
theorem kc_back (g cap : Nat) (W : World) (h : SRow itm 13 W (some ⟨g, 0, none⟩) cap X3) : Calls Tryd.prog 40 #[.slice (some ⟨g, 0, none⟩) 3 cap, .agg #[.int .i64 1, .int .u64 2, .int .i64 0]] W fun e w' => RetS (T3, 0) W e w' := by
  have := back_any (some ⟨g, 0, none⟩) cap X3 (1, 2, 0) (fun x hx => (X3_ok x hx).1) W h
  rw [k_back] at this
  exact this
theorem kc_drop (g cap : Nat) (W : World) (h : SRow itm 13 W (some ⟨g, 0, none⟩) cap T3) : Calls Tryd.prog 32 #[.slice (some ⟨g, 0, none⟩) 3 cap, .agg #[.int .i64 1, .int .u64 1, .int .i64 0]] W fun e w' => RetS (Y2, 0) W e w' := by
  have := drop_any (some ⟨g, 0, none⟩) cap T3 (1, 1, 0) (fun x hx => (T3_ok x hx).1) W h
  rw [k_drop] at this
  exact this
theorem kc_backs (g cap : Nat) (W : World) (h : SRow itm 13 W (some ⟨g, 0, none⟩) cap T3) : Calls Tryd.prog 42 #[.slice (some ⟨g, 0, none⟩) 3 cap, .int .i64 0] W fun e w' => RetS ([], 2) W e w' := by
  have := backAll_any (some ⟨g, 0, none⟩) cap T3 0 (fun x hx => (T3_ok x hx).1) W h
  rw [k_backs] at this
  exact this
theorem kc_add (g cap : Nat) (W : World) (h : SRow itm 13 W (some ⟨g, 0, none⟩) cap Y2) : Calls Tryd.prog 30 #[.slice (some ⟨g, 0, none⟩) 2 cap, .agg #[.int .i64 1, .int .u64 1, .int .i64 0, .int .i64 2, .int .i64 1, .int .i64 0, .int .i64 10, .int .i64 2, .string ⟨#[120, 121]⟩]] W fun e w' => RetS (Z3, 0) W e w' := by
  have := add_any (some ⟨g, 0, none⟩) cap Y2 (bun 1) (fun x hx => (Y2_ok x hx).1) (bun_da _) W h
  rw [k_add] at this
  exact this
theorem kc_add2 (g cap : Nat) (W : World) (h : SRow itm 13 W (some ⟨g, 0, none⟩) cap T3) : Calls Tryd.prog 30 #[.slice (some ⟨g, 0, none⟩) 3 cap, .agg #[.int .i64 1, .int .u64 2, .int .i64 0, .int .i64 2, .int .i64 1, .int .i64 0, .int .i64 20, .int .i64 2, .string ⟨#[120, 121]⟩]] W fun e w' => RetS ([], 9) W e w' := by
  have := add_any (some ⟨g, 0, none⟩) cap T3 (bun 2) (fun x hx => (T3_ok x hx).1) (bun_da _) W h
  rw [k_add2] at this
  exact this
theorem kc_find (g cap : Nat) (W : World) (h : SRow itm 13 W (some ⟨g, 0, none⟩) cap T3) : Calls Tryd.prog 34 #[.slice (some ⟨g, 0, none⟩) 3 cap, .agg #[.int .i64 1, .int .u64 9, .int .i64 0]] W fun e w' => e = .returned (.tuple #[.int .i64 0, .int .i64 8]) ∧ Below W.heap.size W w' := by
  have := sFind_any (some ⟨g, 0, none⟩) cap T3 (1, 9, 0) (fun x hx => (T3_ok x hx).1) W h
  rw [k_find] at this
  exact this
theorem kc_for1 (g cap : Nat) (W : World) (h : SRow itm 13 W (some ⟨g, 0, none⟩) cap X3) : Calls Tryd.prog 24 #[.slice (some ⟨g, 0, none⟩) 3 cap, .int .i64 2, .int .i64 5] W fun e w' => RetN ([2], 0) W e w' := by
  have := for_any (some ⟨g, 0, none⟩) cap X3 2 5 (fun x hx => (X3_ok x hx).1) (by decide) W h
  rw [k_for1] at this
  exact this
theorem kc_for2 (g cap : Nat) (W : World) (h : SRow itm 13 W (some ⟨g, 0, none⟩) cap X3) : Calls Tryd.prog 24 #[.slice (some ⟨g, 0, none⟩) 3 cap, .int .i64 1, .int .i64 10] W fun e w' => RetN ([], 0) W e w' := by
  have := for_any (some ⟨g, 0, none⟩) cap X3 1 10 (fun x hx => (X3_ok x hx).1) (by decide) W h
  rw [k_for2] at this
  exact this
theorem kc_exp1 (g cap : Nat) (W : World) (h : SRow itm 13 W (some ⟨g, 0, none⟩) cap T3) : Calls Tryd.prog 22 #[.slice (some ⟨g, 0, none⟩) 3 cap, .int .i64 10] W fun e w' => RetK ([(1, 1, 0)], 0) W e w' := by
  have := expired_anyS (some ⟨g, 0, none⟩) cap T3 10 (fun x hx => (T3_ok x hx).1) (by decide) W h
  rw [k_exp1] at this
  exact this
theorem kc_exp2 (g cap : Nat) (W : World) (h : SRow itm 13 W (some ⟨g, 0, none⟩) cap T3) : Calls Tryd.prog 22 #[.slice (some ⟨g, 0, none⟩) 3 cap, .int .i64 20] W fun e w' => RetK ([(1, 1, 0), (1, 2, 0)], 0) W e w' := by
  have := expired_anyS (some ⟨g, 0, none⟩) cap T3 20 (fun x hx => (T3_ok x hx).1) (by decide) W h
  rw [k_exp2] at this
  exact this
theorem kc_exp3 (g cap : Nat) (W : World) (h : SRow itm 13 W (some ⟨g, 0, none⟩) cap T3) : Calls Tryd.prog 22 #[.slice (some ⟨g, 0, none⟩) 3 cap, .int .i64 9] W fun e w' => RetK ([], 0) W e w' := by
  have := expired_anyS (some ⟨g, 0, none⟩) cap T3 9 (fun x hx => (T3_ok x hx).1) (by decide) W h
  rw [k_exp3] at this
  exact this
theorem kc_same (g1 g2 c1 c2 : Nat) (W : World) (h1 : SRow itm 13 W (some ⟨g1, 0, none⟩) c1 T3) (h2 : SRow itm 13 W (some ⟨g2, 0, none⟩) c2 T3) : Calls Tryd.prog 27 #[.slice (some ⟨g1, 0, none⟩) 3 c1, .slice (some ⟨g2, 0, none⟩) 3 c2] W fun e w' => e = .returned (.bool true) ∧ Below W.heap.size W w' :=
  same_self (some ⟨g1, 0, none⟩) (some ⟨g2, 0, none⟩) c1 c2 T3 W h1 h2
theorem kc_ints (n : Int) (b : Nat) (a : Option Addr) (cap : Nat) (W : World) (hb : blk W b = some #[.int .i64 n]) (h : SRow ic 1 W a cap [n]) : Calls Tryd.prog 26 #[.slice a 1 cap, .slice (some ⟨b, 0, none⟩) 1 1] W fun e w' => e = .returned (.bool true) ∧ Below W.heap.size W w' := by
  have := sameZ_any a (some ⟨b, 0, none⟩) cap 1 [n] [n] (by simp) (by simp) W h ⟨by simp, by unfold maxLen; omega, (fun h => by cases h), fun _ => ⟨b, 0, rfl, blk_lt hb, fun i hi => by
    obtain rfl : i = 0 := by simpa using hi
    exact range_of_blk hb 0 (ic n) rfl⟩⟩
  rw [decide_eq_true rfl] at this
  exact this
set_option maxRecDepth 100000 in
set_option maxHeartbeats 6400000 in
theorem known_any (w : World) (hH : HTab w) : Calls Tryd.prog 8 #[] w fun e w' => e = .returned (.bool true) ∧ Below w.heap.size w w' := by
  have HH := Lib.hid hH
  clear hH
  have ef1 : ∀ W, Sem.run Tryd.prog (Instr.field 28 (.agg #[.int .i64 1, .int .u64 1, .int .i64 0, .int .i64 2, .int .i64 1, .int .i64 0, .int .i64 10, .int .i64 2, .string ⟨#[120, 121]⟩]) 0) W = .ok (.agg #[.int .i64 1, .int .u64 1, .int .i64 0]) W := fun W => by kernel_rfl
  have ef2 : ∀ W, Sem.run Tryd.prog (Instr.field 28 (.agg #[.int .i64 1, .int .u64 2, .int .i64 0, .int .i64 2, .int .i64 1, .int .i64 0, .int .i64 20, .int .i64 2, .string ⟨#[120, 121]⟩]) 0) W = .ok (.agg #[.int .i64 1, .int .u64 2, .int .i64 0]) W := fun W => by kernel_rfl
  go_enter Tryd.func8, Tryd.ntmps8
  go_wp2_with fail
  (with_reducible refine (three_any w).mono ?_)
  rintro e W1 ⟨g1, c1, rfl, hS1, h1⟩
  have HT := Lib.hid hS1
  clear hS1
  have B1 := bt (Below.refl _ _) h1
  clear h1
  go_wp2_with fail
  (with_reducible refine (awake_any W1 (HH.out.on B1)).mono ?_)
  rintro e W2 ⟨rfl, h2⟩
  replace HT := Lib.hid (HT.out.below h2)
  have B2 := bt B1 h2
  clear h2 B1
  go_wp2_with fail
  (with_reducible refine (bun2_any W2).mono ?_)
  rintro e W3 ⟨rfl, h3⟩
  replace HT := Lib.hid (HT.out.below h3)
  have B3 := bt B2 h3
  clear h3 B2
  go_wp2_with fail
  obtain ⟨V, hV⟩ : ∃ V, V = W3.alloc (.cells #[.int .i64 1, .int .u64 2, .int .i64 0] 26) := ⟨_, rfl⟩
  have kb : blk V W3.heap.size = some #[.int .i64 1, .int .u64 2, .int .i64 0] := by rw [hV]; exact blk_alloc_new _ _ _ rfl
  have BV : Below w.heap.size w V := by rw [hV]; exact B3.alloc B3.size _
  have hq : Below W3.heap.size W3 V := by rw [hV]; exact (Below.refl _ _).alloc (Nat.le_refl _) _
  replace HT := Lib.hid (HT.out.below hq)
  rw [← hV]
  obtain ⟨bx, hbx⟩ : ∃ b, b = W3.heap.size := ⟨_, rfl⟩
  rw [← hbx] at kb ⊢
  clear hV hbx hq B3
  have nkb := kn kb
  (with_reducible refine (kc_off1 g1 c1 V HT.out).mono ?_)
  rintro e W4 ⟨v4, rfl, ho4, h4⟩
  obtain ⟨g4, c4, hv4, hS4, hc4, _⟩ := owns_full ho4 (by decide)
  have hv4 : v4 = .slice (some ⟨g4, 0, none⟩) 3 c4 := hv4
  subst hv4
  have HX := Lib.hid hS4
  clear ho4 hS4
  replace HT := Lib.hid (HT.out.below h4)
  replace kb := blk_below h4 kb
  replace nkb := kn kb
  have B4 := bt BV h4
  clear h4 BV
  go_wp2_with fail
  (with_reducible refine (kc_for1 g4 c4 W4 HX.out).mono ?_)
  rintro e W5 ⟨a5, d5, rfl, hS5, h5⟩
  have HN := Lib.hid hS5
  clear hS5
  replace HT := Lib.hid (HT.out.below h5)
  replace HX := Lib.hid (HX.out.below h5)
  replace kb := blk_below h5 kb
  replace nkb := kn kb
  have B5 := bt B4 h5
  clear h5 B4
  go_wp2_with fail
  (with_reducible refine (kc_for2 g4 c4 W5 HX.out).mono ?_)
  rintro e W6 ⟨a6, d6, rfl, hS6, h6⟩
  clear hS6
  replace HT := Lib.hid (HT.out.below h6)
  replace HX := Lib.hid (HX.out.below h6)
  replace HN := Lib.hid (HN.out.below h6)
  replace kb := blk_below h6 kb
  replace nkb := kn kb
  have B6 := bt B5 h6
  clear h6 B5
  go_wp2_with fail
  (with_reducible refine (kc_back g4 c4 W6 HX.out).mono ?_)
  rintro e W7 ⟨v7, rfl, ho7, h7⟩
  obtain ⟨g7, c7, hv7, hS7, hc7, _⟩ := owns_full ho7 (by decide)
  have hv7 : v7 = .slice (some ⟨g7, 0, none⟩) 3 c7 := hv7
  subst hv7
  have HB := Lib.hid hS7
  clear ho7 hS7
  replace HT := Lib.hid (HT.out.below h7)
  replace HX := Lib.hid (HX.out.below h7)
  replace HN := Lib.hid (HN.out.below h7)
  replace kb := blk_below h7 kb
  replace nkb := kn kb
  have B7 := bt B6 h7
  clear h7 B6
  go_wp2_with fail
  (with_reducible refine (kc_off2 g4 c4 W7 HX.out).mono ?_)
  rintro e W8 ⟨v8, rfl, ho8, h8⟩
  clear ho8
  replace HT := Lib.hid (HT.out.below h8)
  replace HX := Lib.hid (HX.out.below h8)
  replace HN := Lib.hid (HN.out.below h8)
  replace HB := Lib.hid (HB.out.below h8)
  replace kb := blk_below h8 kb
  replace nkb := kn kb
  have B8 := bt B7 h8
  clear h8 B7
  clear HX
  go_wp2_with fail
  (with_reducible refine (bun1_any W8).mono ?_)
  rintro e W9 ⟨rfl, h9⟩
  replace HT := Lib.hid (HT.out.below h9)
  replace HN := Lib.hid (HN.out.below h9)
  replace HB := Lib.hid (HB.out.below h9)
  replace kb := blk_below h9 kb
  replace nkb := kn kb
  have B9 := bt B8 h9
  clear h9 B8
  go_wp2_with fail
  (with_reducible refine (kc_drop g1 c1 W9 HT.out).mono ?_)
  rintro e W10 ⟨v10, rfl, ho10, h10⟩
  obtain ⟨g10, c10, hv10, hS10, hc10, _⟩ := owns_full ho10 (by decide)
  have hv10 : v10 = .slice (some ⟨g10, 0, none⟩) 2 c10 := hv10
  subst hv10
  have HY := Lib.hid hS10
  clear ho10 hS10
  replace HT := Lib.hid (HT.out.below h10)
  replace HN := Lib.hid (HN.out.below h10)
  replace HB := Lib.hid (HB.out.below h10)
  replace kb := blk_below h10 kb
  replace nkb := kn kb
  have B10 := bt B9 h10
  clear h10 B9
  go_wp2_with fail
  (with_reducible refine (bun1_any W10).mono ?_)
  rintro e W11 ⟨rfl, h11⟩
  replace HT := Lib.hid (HT.out.below h11)
  replace HN := Lib.hid (HN.out.below h11)
  replace HB := Lib.hid (HB.out.below h11)
  replace HY := Lib.hid (HY.out.below h11)
  replace kb := blk_below h11 kb
  replace nkb := kn kb
  have B11 := bt B10 h11
  clear h11 B10
  go_wp2_with fail
  (with_reducible refine (kc_add g10 c10 W11 HY.out).mono ?_)
  rintro e W12 ⟨v12, rfl, ho12, h12⟩
  obtain ⟨g12, c12, hv12, hS12, hc12, _⟩ := owns_full ho12 (by decide)
  have hv12 : v12 = .slice (some ⟨g12, 0, none⟩) 3 c12 := hv12
  subst hv12
  have HZ := Lib.hid hS12
  clear ho12 hS12
  have z1 : W12.cell? ⟨g12, 12, none⟩ = some (.int .i64 1) := hc12 0 (by decide) 12 _ rfl
  have z2 : W12.cell? ⟨g12, 38, none⟩ = some (.int .i64 3) := hc12 2 (by decide) 12 _ rfl
  replace HT := Lib.hid (HT.out.below h12)
  replace HN := Lib.hid (HN.out.below h12)
  replace HB := Lib.hid (HB.out.below h12)
  replace HY := Lib.hid (HY.out.below h12)
  replace kb := blk_below h12 kb
  replace nkb := kn kb
  have B12 := bt B11 h12
  clear h12 B11
  clear HY
  go_wp2_with fail
  (with_reducible refine (kc_same g7 g1 c7 c1 W12 HB.out HT.out).mono ?_)
  rintro e W13 ⟨rfl, h13⟩
  replace HT := Lib.hid (HT.out.below h13)
  replace HN := Lib.hid (HN.out.below h13)
  replace HB := Lib.hid (HB.out.below h13)
  replace kb := blk_below h13 kb
  replace nkb := kn kb
  have B13 := bt B12 h13
  clear h13 B12
  clear HB z1 z2
  go_wp2_with fail
  (with_reducible refine (kc_exp1 g1 c1 W13 HT.out).mono ?_)
  rintro e W14 ⟨a14, d14, rfl, hS14, h14⟩
  obtain ⟨p14, o14, rfl, pl14, hr14⟩ := hS14.2.2.2 (by decide)
  have HE1 := Lib.hid hS14
  clear hS14
  replace HT := Lib.hid (HT.out.below h14)
  replace HN := Lib.hid (HN.out.below h14)
  replace kb := blk_below h14 kb
  replace nkb := kn kb
  have B14 := bt B13 h14
  clear h14 B13
  go_wp2_with fail
  (with_reducible refine (kc_exp2 g1 c1 W14 HT.out).mono ?_)
  rintro e W15 ⟨a15, d15, rfl, hS15, h15⟩
  obtain ⟨p15, o15, rfl, pl15, hr15⟩ := hS15.2.2.2 (by decide)
  have HE2 := Lib.hid hS15
  clear hS15
  replace HT := Lib.hid (HT.out.below h15)
  replace HN := Lib.hid (HN.out.below h15)
  replace HE1 := Lib.hid (HE1.out.below h15)
  replace kb := blk_below h15 kb
  replace nkb := kn kb
  have B15 := bt B14 h15
  clear h15 B14
  go_wp2_with fail
  (with_reducible refine (kc_exp3 g1 c1 W15 HT.out).mono ?_)
  rintro e W16 ⟨a16, d16, rfl, hS16, h16⟩
  clear hS16
  replace HT := Lib.hid (HT.out.below h16)
  replace HN := Lib.hid (HN.out.below h16)
  replace HE1 := Lib.hid (HE1.out.below h16)
  replace HE2 := Lib.hid (HE2.out.below h16)
  replace kb := blk_below h16 kb
  replace nkb := kn kb
  have B16 := bt B15 h16
  clear h16 B15
  go_wp2_with fail
  (with_reducible refine (bun2_any W16).mono ?_)
  rintro e W17 ⟨rfl, h17⟩
  replace HT := Lib.hid (HT.out.below h17)
  replace HN := Lib.hid (HN.out.below h17)
  replace HE1 := Lib.hid (HE1.out.below h17)
  replace HE2 := Lib.hid (HE2.out.below h17)
  replace kb := blk_below h17 kb
  replace nkb := kn kb
  have B17 := bt B16 h17
  clear h17 B16
  go_wp2_with fail
  (with_reducible refine (kc_add2 g1 c1 W17 HT.out).mono ?_)
  rintro e W18 ⟨v18, rfl, ho18, h18⟩
  clear ho18
  replace HT := Lib.hid (HT.out.below h18)
  replace HN := Lib.hid (HN.out.below h18)
  replace HE1 := Lib.hid (HE1.out.below h18)
  replace HE2 := Lib.hid (HE2.out.below h18)
  replace kb := blk_below h18 kb
  replace nkb := kn kb
  have B18 := bt B17 h18
  clear h18 B17
  go_wp2_with fail
  (with_reducible refine (kc_find g1 c1 W18 HT.out).mono ?_)
  rintro e W19 ⟨rfl, h19⟩
  replace HT := Lib.hid (HT.out.below h19)
  replace HN := Lib.hid (HN.out.below h19)
  replace HE1 := Lib.hid (HE1.out.below h19)
  replace HE2 := Lib.hid (HE2.out.below h19)
  replace kb := blk_below h19 kb
  replace nkb := kn kb
  have B19 := bt B18 h19
  clear h19 B18
  go_wp2_with fail
  (with_reducible refine (kc_off3 g1 c1 W19 HT.out).mono ?_)
  rintro e W20 ⟨v20, rfl, ho20, h20⟩
  clear ho20
  replace HT := Lib.hid (HT.out.below h20)
  replace HN := Lib.hid (HN.out.below h20)
  replace HE1 := Lib.hid (HE1.out.below h20)
  replace HE2 := Lib.hid (HE2.out.below h20)
  replace kb := blk_below h20 kb
  replace nkb := kn kb
  have B20 := bt B19 h20
  clear h20 B19
  go_wp2_with fail
  (with_reducible refine (kc_backs g1 c1 W20 HT.out).mono ?_)
  rintro e W21 ⟨v21, rfl, ho21, h21⟩
  clear ho21
  replace HT := Lib.hid (HT.out.below h21)
  replace HN := Lib.hid (HN.out.below h21)
  replace HE1 := Lib.hid (HE1.out.below h21)
  replace HE2 := Lib.hid (HE2.out.below h21)
  replace kb := blk_below h21 kb
  replace nkb := kn kb
  have B21 := bt B20 h21
  clear h21 B20
  go_wp2_with fail
  have sok : ∀ W : World, SRow idL 3 W (some ⟨p14, o14, none⟩) d14 [(1, 1, 0)] → SRow idL 3 W (some ⟨p15, o15, none⟩) d15 [(1, 1, 0), (1, 2, 0)] → blk W bx = some #[.int .i64 1, .int .u64 2, .int .i64 0] → (fun W => (W.cell? ⟨p14, o14, none⟩ = some (.int .i64 1) ∧ W.cell? ⟨p14, o14 + 1, none⟩ = some (.int .u64 1) ∧ W.cell? ⟨p14, o14 + 2, none⟩ = some (.int .i64 0)) ∧ (W.cell? ⟨p15, o15 + 3, none⟩ = some (.int .i64 1) ∧ W.cell? ⟨p15, o15 + 3 + 1, none⟩ = some (.int .u64 2) ∧ W.cell? ⟨p15, o15 + 3 + 2, none⟩ = some (.int .i64 0)) ∧ (∀ o, W.cell? ⟨bx, o, none⟩ = (#[.int .i64 1, .int .u64 2, .int .i64 0] : Array Value)[o]?)) W := fun W h1 h2 h3 => by
    obtain ⟨b1, f1, q1, _, r1⟩ := h1.2.2.2 (by decide)
    cases q1
    obtain ⟨b2, f2, q2, _, r2⟩ := h2.2.2.2 (by decide)
    cases q2
    exact ⟨⟨r1 0 (by decide) 0 _ rfl, r1 0 (by decide) 1 _ rfl, r1 0 (by decide) 2 _ rfl⟩, ⟨r2 1 (by decide) 0 _ rfl, r2 1 (by decide) 1 _ rfl, r2 1 (by decide) 2 _ rfl⟩, fun o => blk_cell h3 o⟩
  replace sok := Lib.hid sok
  refine wp_region_held_drew (S := (fun W => (W.cell? ⟨p14, o14, none⟩ = some (.int .i64 1) ∧ W.cell? ⟨p14, o14 + 1, none⟩ = some (.int .u64 1) ∧ W.cell? ⟨p14, o14 + 2, none⟩ = some (.int .i64 0)) ∧ (W.cell? ⟨p15, o15 + 3, none⟩ = some (.int .i64 1) ∧ W.cell? ⟨p15, o15 + 3 + 1, none⟩ = some (.int .u64 2) ∧ W.cell? ⟨p15, o15 + 3 + 2, none⟩ = some (.int .i64 0)) ∧ (∀ o, W.cell? ⟨bx, o, none⟩ = (#[.int .i64 1, .int .u64 2, .int .i64 0] : Array Value)[o]?))) (by kernel_rfl) (sok.out _ HE1.out HE2.out (blk_drew kb)) (fun hHeld => ?_)
  obtain ⟨d0, hd0⟩ : ∃ d, d = W21.drew := ⟨_, rfl⟩
  replace HE1 : Hid (SRow idL 3 d0 (some ⟨p14, o14, none⟩) d14 [(1, 1, 0)]) := Lib.hid (by rw [hd0]; exact HE1.out)
  replace HE2 : Hid (SRow idL 3 d0 (some ⟨p15, o15, none⟩) d15 [(1, 1, 0), (1, 2, 0)]) := Lib.hid (by rw [hd0]; exact HE2.out)
  replace HN : Hid (SRow ic 1 d0 a5 d5 [2]) := Lib.hid (by rw [hd0]; exact HN.out)
  replace kb : blk d0 bx = some #[.int .i64 1, .int .u64 2, .int .i64 0] := by rw [hd0]; exact blk_drew kb
  have Bd : Below w.heap.size w d0 := by rw [hd0]; exact B21.drew
  rw [← hd0] at hHeld ⊢
  clear hd0 nkb HT B21
  refine wpAnyH_take (i := 0) (oi := _) (v := ?_) rfl (by kernel_rfl) (by kernel_rfl) (by kernel_rfl) (fun _ _ _ h => h) (Or.inl ⟨by rfl, ?_⟩) (by assumption) ?_
  rotate_left
  focus (intro W hSw; (try dsimp only at hSw); go_simp; (try with_reducible rfl))
  (try simp only [Act.put, List.setIfInBounds_toArray, List.set_cons_zero, List.set_cons_succ, List.getElem_toArray, List.getElem_cons_succ, List.getElem_cons_zero])
  refine wpAnyH_ready (rs := [1]) (by kernel_rfl) (by simp) ?_
  refine AllReadyH.cons rfl (fun K hK => ?_) AllReadyH.nil
  go_simp
  obtain ⟨d1, hd1⟩ : ∃ x, x = d0.alloc (.cells #[.int .i64 2] 3) := ⟨_, rfl⟩
  obtain ⟨bz, hbz⟩ : ∃ x, x = d0.heap.size := ⟨_, rfl⟩
  have hq : Below d0.heap.size d0 d1 := by rw [hd1]; exact (Below.refl _ _).alloc (Nat.le_refl _) _
  have kz : blk d1 bz = some #[.int .i64 2] := by rw [hd1]; exact blk_alloc_new _ _ _ hbz
  rw [← hd1, ← hbz]
  replace HE1 := Lib.hid (HE1.out.below hq)
  replace HE2 := Lib.hid (HE2.out.below hq)
  replace HN := Lib.hid (HN.out.below hq)
  replace kb := blk_below hq kb
  have Bd1 := bt Bd hq
  clear hd1 hbz hq Bd
  refine hK.out _ _ (sok.out _ HE1.out HE2.out kb) (fun hHeld1 => ?_)
  clear hK K
  (try simp only [Act.put, List.setIfInBounds_toArray, List.set_cons_zero, List.set_cons_succ, List.getElem_toArray, List.getElem_cons_succ, List.getElem_cons_zero])
  refine wpAnyH_ready (rs := [2]) (by kernel_rfl) (by simp) ?_
  refine AllReadyH.cons rfl (fun K hK => ?_) AllReadyH.nil
  go_simp
  go_at_call 26
  (with_reducible refine (kc_ints 2 bz a5 d5 d1 kz HN.out).mono ?_)
  rintro e d2 ⟨rfl, hq⟩
  (try go_wp2_with fail)
  replace HE1 := Lib.hid (HE1.out.below hq)
  replace HE2 := Lib.hid (HE2.out.below hq)
  replace kb := blk_below hq kb
  have Bd2 := bt Bd1 hq
  clear hq Bd1 HN kz
  refine hK.out _ _ (sok.out _ HE1.out HE2.out kb) (fun hHeld2 => ?_)
  clear hK K
  (try simp only [Act.put, List.setIfInBounds_toArray, List.set_cons_zero, List.set_cons_succ, List.getElem_toArray, List.getElem_cons_succ, List.getElem_cons_zero])
  refine wpAnyH_take (i := 3) (oi := _) (v := ?_) rfl (by kernel_rfl) (by kernel_rfl) (by kernel_rfl) (fun _ _ _ h => h) (Or.inl ⟨by rfl, ?_⟩) (by assumption) ?_
  rotate_left
  focus (intro W hSw; (try dsimp only at hSw); go_simp; (try with_reducible rfl))
  (try simp only [Act.put, List.setIfInBounds_toArray, List.set_cons_zero, List.set_cons_succ, List.getElem_toArray, List.getElem_cons_succ, List.getElem_cons_zero])
  refine wpAnyH_take (i := 4) (oi := _) (v := ?_) rfl (by kernel_rfl) (by kernel_rfl) (by kernel_rfl) (fun _ _ _ h => h) (Or.inl ⟨by rfl, ?_⟩) (by assumption) ?_
  rotate_left
  focus (intro W hSw; (try dsimp only at hSw); go_simp; (try with_reducible rfl))
  (try simp only [Act.put, List.setIfInBounds_toArray, List.set_cons_zero, List.set_cons_succ, List.getElem_toArray, List.getElem_cons_succ, List.getElem_cons_zero])
  refine wpAnyH_take (i := 5) (oi := _) (v := ?_) rfl (by kernel_rfl) (by kernel_rfl) (by kernel_rfl) (fun _ _ _ h => h) (Or.inl ⟨by rfl, ?_⟩) (by assumption) ?_
  rotate_left
  focus (intro W hSw; (try dsimp only at hSw); go_simp; (try with_reducible rfl))
  (try simp only [Act.put, List.setIfInBounds_toArray, List.set_cons_zero, List.set_cons_succ, List.getElem_toArray, List.getElem_cons_succ, List.getElem_cons_zero])
  refine wpAnyH_take (i := 6) (oi := _) (v := ?_) rfl (by kernel_rfl) (by kernel_rfl) (by kernel_rfl) (fun _ _ _ h => h) (Or.inl ⟨by rfl, ?_⟩) (by assumption) ?_
  rotate_left
  focus (intro W hSw; (try dsimp only at hSw); go_simp; (try with_reducible rfl))
  (try simp only [Act.put, List.setIfInBounds_toArray, List.set_cons_zero, List.set_cons_succ, List.getElem_toArray, List.getElem_cons_succ, List.getElem_cons_zero])
  refine wpAnyH_take (i := 7) (oi := _) (v := ?_) rfl (by kernel_rfl) (by kernel_rfl) (by kernel_rfl) (fun _ _ _ h => h) (Or.inl ⟨by rfl, ?_⟩) (by assumption) ?_
  rotate_left
  focus (intro W hSw; (try dsimp only at hSw); go_simp; (try with_reducible rfl))
  (try simp only [Act.put, List.setIfInBounds_toArray, List.set_cons_zero, List.set_cons_succ, List.getElem_toArray, List.getElem_cons_succ, List.getElem_cons_zero])
  refine wpAnyH_take (i := 8) (oi := _) (v := ?_) rfl (by kernel_rfl) (by kernel_rfl) (by kernel_rfl) (fun _ _ _ h => h) (Or.inl ⟨by rfl, ?_⟩) (by assumption) ?_
  rotate_left
  focus (intro W hSw; (try dsimp only at hSw); go_simp; (try with_reducible rfl))
  (try simp only [Act.put, List.setIfInBounds_toArray, List.set_cons_zero, List.set_cons_succ, List.getElem_toArray, List.getElem_cons_succ, List.getElem_cons_zero])
  refine wpAnyH_take (i := 9) (oi := _) (v := ?_) rfl (by kernel_rfl) (by kernel_rfl) (by kernel_rfl) (fun _ _ _ h => h) (Or.inl ⟨by rfl, ?_⟩) (by assumption) ?_
  rotate_left
  focus (intro W hSw; (try dsimp only at hSw); go_simp; (try with_reducible rfl))
  (try simp only [Act.put, List.setIfInBounds_toArray, List.set_cons_zero, List.set_cons_succ, List.getElem_toArray, List.getElem_cons_succ, List.getElem_cons_zero])
  refine wpAnyH_take (i := 10) (oi := _) (v := ?_) rfl (by kernel_rfl) (by kernel_rfl) (by kernel_rfl) (fun _ _ _ h => h) (Or.inl ⟨by rfl, ?_⟩) (by assumption) ?_
  rotate_left
  focus (intro W hSw; (try dsimp only at hSw); go_simp; (try with_reducible rfl))
  (try simp only [Act.put, List.setIfInBounds_toArray, List.set_cons_zero, List.set_cons_succ, List.getElem_toArray, List.getElem_cons_succ, List.getElem_cons_zero])
  refine wpAnyH_take (i := 11) (oi := _) (v := ?_) rfl (by kernel_rfl) (by kernel_rfl) (by kernel_rfl) (fun _ _ _ h => h) (Or.inl ⟨by rfl, ?_⟩) (by assumption) ?_
  rotate_left
  focus (intro W hSw; (try dsimp only at hSw); go_simp; (try with_reducible rfl))
  (try simp only [Act.put, List.setIfInBounds_toArray, List.set_cons_zero, List.set_cons_succ, List.getElem_toArray, List.getElem_cons_succ, List.getElem_cons_zero])
  refine wpAnyH_take (i := 12) (oi := _) (v := ?_) rfl (by kernel_rfl) (by kernel_rfl) (by kernel_rfl) (fun _ _ _ h => h) (Or.inl ⟨by rfl, ?_⟩) (by assumption) ?_
  rotate_left
  focus (intro W hSw; (try dsimp only at hSw); go_simp; (try with_reducible rfl))
  (try simp only [Act.put, List.setIfInBounds_toArray, List.set_cons_zero, List.set_cons_succ, List.getElem_toArray, List.getElem_cons_succ, List.getElem_cons_zero])
  refine wpAnyH_take (i := 13) (oi := _) (v := ?_) rfl (by kernel_rfl) (by kernel_rfl) (by kernel_rfl) (fun _ _ _ h => h) (Or.inl ⟨by rfl, ?_⟩) (by assumption) ?_
  rotate_left
  focus (intro W hSw; (try dsimp only at hSw); go_simp; (try with_reducible rfl))
  (try simp only [Act.put, List.setIfInBounds_toArray, List.set_cons_zero, List.set_cons_succ, List.getElem_toArray, List.getElem_cons_succ, List.getElem_cons_zero])
  refine wpAnyH_take (i := 14) (oi := _) (v := ?_) rfl (by kernel_rfl) (by kernel_rfl) (by kernel_rfl) (fun _ _ _ h => h) (Or.inl ⟨by rfl, ?_⟩) (by assumption) ?_
  rotate_left
  focus (intro W hSw; (try dsimp only at hSw); go_simp; (try with_reducible rfl))
  (try simp only [Act.put, List.setIfInBounds_toArray, List.set_cons_zero, List.set_cons_succ, List.getElem_toArray, List.getElem_cons_succ, List.getElem_cons_zero])
  refine wpAnyH_take (i := 15) (oi := _) (v := ?_) rfl (by kernel_rfl) (by kernel_rfl) (by kernel_rfl) (fun _ _ _ h => h) (Or.inl ⟨by rfl, ?_⟩) (by assumption) ?_
  rotate_left
  focus (intro W hSw; (try dsimp only at hSw); go_simp; (try with_reducible rfl))
  (try simp only [Act.put, List.setIfInBounds_toArray, List.set_cons_zero, List.set_cons_succ, List.getElem_toArray, List.getElem_cons_succ, List.getElem_cons_zero])
  refine wpAnyH_take (i := 16) (oi := _) (v := ?_) rfl (by kernel_rfl) (by kernel_rfl) (by kernel_rfl) (fun _ _ _ h => h) (Or.inl ⟨by rfl, ?_⟩) (by assumption) ?_
  rotate_left
  focus (intro W hSw; (try dsimp only at hSw); go_simp; (try with_reducible rfl))
  (try simp only [Act.put, List.setIfInBounds_toArray, List.set_cons_zero, List.set_cons_succ, List.getElem_toArray, List.getElem_cons_succ, List.getElem_cons_zero])
  refine wpAnyH_ready (rs := [17]) (by kernel_rfl) (by simp) ?_
  refine AllReadyH.cons rfl (fun K hK => ?_) AllReadyH.nil
  go_simp
  go_at_call 45
  (with_reducible refine (bun1_any d2).mono ?_)
  rintro e d3 ⟨rfl, hq⟩
  (try go_wp2_with fail)
  replace HE1 := Lib.hid (HE1.out.below hq)
  replace HE2 := Lib.hid (HE2.out.below hq)
  replace kb := blk_below hq kb
  have Bd3 := bt Bd2 hq
  clear hq Bd2
  refine hK.out _ _ (sok.out _ HE1.out HE2.out kb) (fun hHeld3 => ?_)
  clear hK K
  (try simp only [Act.put, List.setIfInBounds_toArray, List.set_cons_zero, List.set_cons_succ, List.getElem_toArray, List.getElem_cons_succ, List.getElem_cons_zero])
  refine wpAnyH_take (i := 18) (oi := _) (v := ?_) rfl (by kernel_rfl) (by kernel_rfl) (by kernel_rfl) (fun _ _ _ h => h) (Or.inl ⟨by rfl, ?_⟩) (by assumption) ?_
  rotate_left
  focus (intro W hSw; (try dsimp only at hSw); go_simp; (try with_reducible rfl))
  (try simp only [Act.put, List.setIfInBounds_toArray, List.set_cons_zero, List.set_cons_succ, List.getElem_toArray, List.getElem_cons_succ, List.getElem_cons_zero])
  refine wpAnyH_take (i := 19) (oi := _) (v := ?_) rfl (by kernel_rfl) (by kernel_rfl) (by kernel_rfl) (fun _ _ _ h => h) (Or.inl ⟨by rfl, ?_⟩) (by assumption) ?_
  rotate_left
  focus (intro W hSw; (try dsimp only at hSw); go_simp; (try with_reducible rfl))
  (try simp only [Act.put, List.setIfInBounds_toArray, List.set_cons_zero, List.set_cons_succ, List.getElem_toArray, List.getElem_cons_succ, List.getElem_cons_zero])
  refine wpAnyH_take (i := 20) (oi := _) (v := ?_) rfl (by kernel_rfl) (by kernel_rfl) (by kernel_rfl) (fun _ _ _ h => h) (Or.inl ⟨by rfl, ?_⟩) (by assumption) ?_
  rotate_left
  focus (intro W hSw; (try dsimp only at hSw); go_simp; (try with_reducible rfl))
  (try simp only [Act.put, List.setIfInBounds_toArray, List.set_cons_zero, List.set_cons_succ, List.getElem_toArray, List.getElem_cons_succ, List.getElem_cons_zero])
  refine wpAnyH_take (i := 21) (oi := _) (v := ?_) rfl (by kernel_rfl) (by kernel_rfl) (by kernel_rfl) (fun _ _ _ h => h) (Or.inl ⟨by rfl, ?_⟩) (by assumption) ?_
  rotate_left
  focus (intro W hSw; (try dsimp only at hSw); go_simp; (try with_reducible rfl))
  (try simp only [Act.put, List.setIfInBounds_toArray, List.set_cons_zero, List.set_cons_succ, List.getElem_toArray, List.getElem_cons_succ, List.getElem_cons_zero])
  refine wpAnyH_take (i := 22) (oi := _) (v := ?_) rfl (by kernel_rfl) (by kernel_rfl) (by kernel_rfl) (fun _ _ _ h => h) (Or.inl ⟨by rfl, ?_⟩) (by assumption) ?_
  rotate_left
  focus (intro W hSw; (try dsimp only at hSw); go_simp; (try with_reducible rfl))
  (try simp only [Act.put, List.setIfInBounds_toArray, List.set_cons_zero, List.set_cons_succ, List.getElem_toArray, List.getElem_cons_succ, List.getElem_cons_zero])
  refine wpAnyH_take (i := 23) (oi := _) (v := ?_) rfl (by kernel_rfl) (by kernel_rfl) (by kernel_rfl) (fun _ _ _ h => h) (Or.inl ⟨by rfl, ?_⟩) (by assumption) ?_
  rotate_left
  focus (intro W hSw; (try dsimp only at hSw); go_simp; (try with_reducible rfl))
  (try simp only [Act.put, List.setIfInBounds_toArray, List.set_cons_zero, List.set_cons_succ, List.getElem_toArray, List.getElem_cons_succ, List.getElem_cons_zero])
  refine wpAnyH_take (i := 24) (oi := _) (v := ?_) rfl (by kernel_rfl) (by kernel_rfl) (by kernel_rfl) (fun _ _ _ h => h) (Or.inl ⟨by rfl, ?_⟩) (by assumption) ?_
  rotate_left
  focus (intro W hSw; (try dsimp only at hSw); go_simp; (try with_reducible rfl))
  (try simp only [Act.put, List.setIfInBounds_toArray, List.set_cons_zero, List.set_cons_succ, List.getElem_toArray, List.getElem_cons_succ, List.getElem_cons_zero])
  refine wpAnyH_take (i := 25) (oi := _) (v := ?_) rfl (by kernel_rfl) (by kernel_rfl) (by kernel_rfl) (fun _ _ _ h => h) (Or.inl ⟨by rfl, ?_⟩) (by assumption) ?_
  rotate_left
  focus (intro W hSw; (try dsimp only at hSw); go_simp; (try with_reducible rfl))
  (try simp only [Act.put, List.setIfInBounds_toArray, List.set_cons_zero, List.set_cons_succ, List.getElem_toArray, List.getElem_cons_succ, List.getElem_cons_zero])
  refine wpAnyH_take (i := 26) (oi := _) (v := ?_) rfl (by kernel_rfl) (by kernel_rfl) (by kernel_rfl) (fun _ _ _ h => h) (Or.inl ⟨by rfl, ?_⟩) (by assumption) ?_
  rotate_left
  focus (intro W hSw; (try dsimp only at hSw); go_simp; (try with_reducible rfl))
  (try simp only [Act.put, List.setIfInBounds_toArray, List.set_cons_zero, List.set_cons_succ, List.getElem_toArray, List.getElem_cons_succ, List.getElem_cons_zero])
  refine wpAnyH_take (i := 27) (oi := _) (v := ?_) rfl (by kernel_rfl) (by kernel_rfl) (by kernel_rfl) (fun _ _ _ h => h) (Or.inl ⟨by rfl, ?_⟩) (by assumption) ?_
  rotate_left
  focus (intro W hSw; (try dsimp only at hSw); go_simp; (try with_reducible rfl))
  (try simp only [Act.put, List.setIfInBounds_toArray, List.set_cons_zero, List.set_cons_succ, List.getElem_toArray, List.getElem_cons_succ, List.getElem_cons_zero])
  refine wpAnyH_take (i := 28) (oi := _) (v := ?_) rfl (by kernel_rfl) (by kernel_rfl) (by kernel_rfl) (fun _ _ _ h => h) (Or.inl ⟨by rfl, ?_⟩) (by assumption) ?_
  rotate_left
  focus (intro W hSw; (try dsimp only at hSw); go_simp; (try with_reducible rfl))
  (try simp only [Act.put, List.setIfInBounds_toArray, List.set_cons_zero, List.set_cons_succ, List.getElem_toArray, List.getElem_cons_succ, List.getElem_cons_zero])
  refine wpAnyH_take (i := 29) (oi := _) (v := ?_) rfl (by kernel_rfl) (by kernel_rfl) (by kernel_rfl) (fun _ _ _ h => h) (Or.inl ⟨by rfl, ?_⟩) (by assumption) ?_
  rotate_left
  focus (intro W hSw; (try dsimp only at hSw); go_simp; (try with_reducible rfl))
  (try simp only [Act.put, List.setIfInBounds_toArray, List.set_cons_zero, List.set_cons_succ, List.getElem_toArray, List.getElem_cons_succ, List.getElem_cons_zero])
  refine wpAnyH_take (i := 30) (oi := _) (v := ?_) rfl (by kernel_rfl) (by kernel_rfl) (by kernel_rfl) (fun _ _ _ h => h) (Or.inl ⟨by rfl, ?_⟩) (by assumption) ?_
  rotate_left
  focus (intro W hSw; (try dsimp only at hSw); go_simp; (try with_reducible rfl))
  (try simp only [Act.put, List.setIfInBounds_toArray, List.set_cons_zero, List.set_cons_succ, List.getElem_toArray, List.getElem_cons_succ, List.getElem_cons_zero])
  refine wpAnyH_take (i := 31) (oi := _) (v := ?_) rfl (by kernel_rfl) (by kernel_rfl) (by kernel_rfl) (fun _ _ _ h => h) (Or.inl ⟨by rfl, ?_⟩) (by assumption) ?_
  rotate_left
  focus (intro W hSw; (try dsimp only at hSw); go_simp; (try with_reducible rfl))
  (try simp only [Act.put, List.setIfInBounds_toArray, List.set_cons_zero, List.set_cons_succ, List.getElem_toArray, List.getElem_cons_succ, List.getElem_cons_zero])
  refine wpAnyH_take (i := 32) (oi := _) (v := ?_) rfl (by kernel_rfl) (by kernel_rfl) (by kernel_rfl) (fun _ _ _ h => h) (Or.inl ⟨by rfl, ?_⟩) (by assumption) ?_
  rotate_left
  focus (intro W hSw; (try dsimp only at hSw); go_simp; (try with_reducible rfl))
  (try simp only [Act.put, List.setIfInBounds_toArray, List.set_cons_zero, List.set_cons_succ, List.getElem_toArray, List.getElem_cons_succ, List.getElem_cons_zero])
  refine wpAnyH_take (i := 33) (oi := _) (v := ?_) rfl (by kernel_rfl) (by kernel_rfl) (by kernel_rfl) (fun _ _ _ h => h) (Or.inl ⟨by rfl, ?_⟩) (by assumption) ?_
  rotate_left
  focus (intro W hSw; (try dsimp only at hSw); go_simp; (try with_reducible rfl))
  (try simp only [Act.put, List.setIfInBounds_toArray, List.set_cons_zero, List.set_cons_succ, List.getElem_toArray, List.getElem_cons_succ, List.getElem_cons_zero])
  refine wpAnyH_take (i := 34) (oi := _) (v := ?_) rfl (by kernel_rfl) (by kernel_rfl) (by kernel_rfl) (fun _ _ _ h => h) (Or.inl ⟨by rfl, ?_⟩) (by assumption) ?_
  rotate_left
  focus (intro W hSw; (try dsimp only at hSw); go_simp; (try with_reducible rfl))
  (try simp only [Act.put, List.setIfInBounds_toArray, List.set_cons_zero, List.set_cons_succ, List.getElem_toArray, List.getElem_cons_succ, List.getElem_cons_zero])
  refine wpAnyH_take (i := 35) (oi := _) (v := ?_) rfl (by kernel_rfl) (by kernel_rfl) (by kernel_rfl) (fun _ _ _ h => h) (Or.inl ⟨by rfl, ?_⟩) (by assumption) ?_
  rotate_left
  focus (intro W hSw; (try dsimp only at hSw); go_simp; (try with_reducible rfl))
  (try simp only [Act.put, List.setIfInBounds_toArray, List.set_cons_zero, List.set_cons_succ, List.getElem_toArray, List.getElem_cons_succ, List.getElem_cons_zero])
  refine wpAnyH_take (i := 36) (oi := _) (v := ?_) rfl (by kernel_rfl) (by kernel_rfl) (by kernel_rfl) (fun _ _ _ h => h) (Or.inl ⟨by rfl, ?_⟩) (by assumption) ?_
  rotate_left
  focus (intro W hSw; (try dsimp only at hSw); go_simp; (try with_reducible rfl))
  (try simp only [Act.put, List.setIfInBounds_toArray, List.set_cons_zero, List.set_cons_succ, List.getElem_toArray, List.getElem_cons_succ, List.getElem_cons_zero])
  refine wpAnyH_take (i := 37) (oi := _) (v := ?_) rfl (by kernel_rfl) (by kernel_rfl) (by kernel_rfl) (fun _ _ _ h => h) (Or.inl ⟨by rfl, ?_⟩) (by assumption) ?_
  rotate_left
  focus (intro W hSw; (try dsimp only at hSw); go_simp; (try with_reducible rfl))
  (try simp only [Act.put, List.setIfInBounds_toArray, List.set_cons_zero, List.set_cons_succ, List.getElem_toArray, List.getElem_cons_succ, List.getElem_cons_zero])
  refine wpAnyH_take (i := 38) (oi := _) (v := ?_) rfl (by kernel_rfl) (by kernel_rfl) (by kernel_rfl) (fun _ _ _ h => h) (Or.inl ⟨by rfl, ?_⟩) (by assumption) ?_
  rotate_left
  focus (intro W hSw; (try dsimp only at hSw); go_simp; (try with_reducible rfl))
  (try simp only [Act.put, List.setIfInBounds_toArray, List.set_cons_zero, List.set_cons_succ, List.getElem_toArray, List.getElem_cons_succ, List.getElem_cons_zero])
  refine wpAnyH_done (by kernel_rfl) ?_ _
  go_wp2
  go_ret
  exact ⟨rfl, Bd3⟩
theorem storeKnown_at (w : World) (hT : Lib.TabIs Tryd.prog w headsNm .u8 headsTab) : Calls Tryd.prog 8 #[] w fun e w' => e = .returned (.bool true) ∧ Below w.heap.size w w' := known_any w (htab_of hT)
end Go.Proofs.YtahopnlibmiafaaDoor
