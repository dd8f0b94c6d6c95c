/- Parts of a proof, printed by a program of mine out of my texts: StLawD. -/
import Derived.Test.YtahopnlibmiafaaDoorMStDrp
import Derived.Test.YtahopnlibmiafaaDoorMStLawK
set_option linter.unusedSimpArgs false
set_option linter.unusedVariables false
namespace Go.Proofs.YtahopnlibmiafaaDoor
open Go.RowKit
set_option maxRecDepth 100000 in
set_option maxHeartbeats 3200000 in
theorem storeDrops_walk (a : Option Addr) (cap : Nat) (zs : List Int) (z : Int) (w : World) (hH : HTab w) (hrow : Row .i64 w a cap zs) :
    Calls Tryd.prog 9 #[.slice a zs.length cap, .int .i64 z] w fun e w' => e = .returned (.bool true) ∧ Below w.heap.size w w' := by
  have HH := Lib.hid hH; have HZ := Lib.hid hrow
  clear hH hrow
  go_enter Tryd.func9, Tryd.ntmps9
  go_wp2_with fail
  (with_reducible refine (known_any w HH.out).mono ?_)
  rintro e W1 ⟨rfl, h1⟩
  have B1 := bt (Below.refl _ _) h1
  clear h1
  go_wp2_with fail
  (with_reducible refine (made_S a cap zs W1 (HZ.out.below B1)).mono ?_)
  rintro e W2 ⟨a2, c2, M, rfl, hM, hl, hS2, h2⟩
  have HR := Lib.hid hS2
  clear hS2
  have B2 := bt B1 h2
  clear h2 B1
  have hz : MadeS M := madeS hM hl
  clear hM
  have hm := Lib.hid (fun w => mod_any z 200 w (by decide) (by decide))
  have k0 := Int.emod_nonneg z (show (200 : Int) ≠ 0 by decide)
  have k1 := Int.emod_lt_of_pos z (show (0 : Int) < 200 by decide)
  obtain ⟨k, hk⟩ : ∃ k, z % 200 = k := ⟨_, rfl⟩
  rw [hk] at hm k0 k1
  clear hk
  go_upto_region 6 with (first | (go_at_call 45; (with_reducible refine (bun1_any _).mono ?_); rintro e W3 ⟨rfl, h3⟩) | (go_at_call 47; (with_reducible refine (hm.out _).mono ?_); rintro e Wx ⟨rfl, rfl⟩))
  have z3 := B2.size
  have z4 := h3.size
  have B3 := bt B2 h3
  refine wp_freshM W3.heap.size #[.int .i64 9, .int .u64 1, .int .i64 0, .int .i64 2, .int .i64 1, .int .i64 0, .int .i64 (1 + k), .int .i64 2, .string ⟨#[120, 121]⟩] (by (apply blk_to; (focus (repeat (first | (with_reducible assumption) | (with_reducible apply blk_drew) | (with_reducible apply blk_set) | ((with_reducible apply blk_other'); (first | (focus (dsimp only; assumption)) | (focus (simp; done)) | (focus (dsimp only; omega)))) | ((with_reducible apply blk_alloc_new); (first | (with_reducible rfl) | (focus (simp; done)) | (focus (simp; omega)))) | (with_reducible apply blk_alloc) | ((with_reducible apply blk_below); (with_reducible assumption))))); rfl)) (by (repeat (first | (with_reducible assumption) | (with_reducible exact Below.refl _ _) | (with_reducible refine beld_drew ?_) | ((with_reducible refine bset' ?_ ?_); (first | (focus (dsimp only; assumption)) | (focus (simp; done)) | (focus (dsimp only; omega)))) | (with_reducible refine belt_alloc ?_) | ((with_reducible refine zeroed_below' ?_ ?_); (first | (focus (simp; done)) | (focus (dsimp only; omega)))) | (with_reducible refine bt ?_ (by assumption)))) : Below w.heap.size w _) (by (repeat (first | (with_reducible assumption) | (with_reducible exact Below.refl _ _) | (with_reducible refine beld_drew ?_) | ((with_reducible refine bset' ?_ ?_); (first | (focus (dsimp only; assumption)) | (focus (simp; done)) | (focus (dsimp only; omega)))) | (with_reducible refine belt_alloc ?_) | ((with_reducible refine zeroed_below' ?_ ?_); (first | (focus (simp; done)) | (focus (dsimp only; omega)))) | (with_reducible refine bt ?_ (by assumption)))) : Below W2.heap.size W2 _) ?_
  intro V kb BV hr2
  replace HR := Lib.hid (HR.out.below hr2)
  obtain ⟨bx, hbx⟩ : ∃ b, b = W3.heap.size := ⟨_, rfl⟩
  rw [← hbx] at kb ⊢
  clear hbx z3 z4 B2 B3 h3 hr2
  have nkb := kn kb
  obtain ⟨X, hX⟩ : ∃ X, M ++ [nbX k M] = X := ⟨_, rfl⟩
  obtain ⟨s1, es1⟩ : ∃ s, sumS M = s := ⟨_, rfl⟩
  obtain ⟨s2, es2⟩ : ∃ s, szI (nbk k) = s := ⟨_, rfl⟩
  obtain ⟨q2, eq2⟩ : ∃ s, (sizeC 9 1 0 2 1 0 (1 + k) 2 (⟨#[120, 121]⟩ : ByteArray).size).2 = s := ⟨_, rfl⟩
  have p1 := d_add hz k0 k1
  have p2 := d_find hz k0 k1
  have p3 := d_drop hz k0 k1
  have p4 := d_miss hz
  have p5 := d_size hz
  have p6 := d_size2 hz k0 k1
  have gX := d_gd hz k
  have gM := hz.gd
  rw [es1] at p5
  rw [es1, es2] at p6
  rw [hX] at p1 p2 p3 p6 gX
  have HM := Lib.hid gM
  have HX := Lib.hid gX
  have D1 : ∀ x ∈ M, x.b.da.size ≤ maxLen := fun x hx => (gM x hx).1
  have D2 : ∀ x ∈ X, x.b.da.size ≤ maxLen := fun x hx => (gX x hx).1
  have e1 : ∀ a c W, HTab W → SRow itm 13 W a c M → Calls Tryd.prog 36 #[.slice a M.length c] W fun e w' => e = .returned (.tuple #[.int .u64 s1, .int .i64 0]) ∧ Below W.heap.size W w' := fun a c W hH h => by have := size_any a c M gM W hH h; rw [p5] at this; exact this
  have e2 : ∀ a c W, HTab W → SRow itm 13 W a c X → Calls Tryd.prog 36 #[.slice a X.length c] W fun e w' => e = .returned (.tuple #[.int .u64 (IntKind.u64.wrap (s1 + IntKind.u64.wrap s2)), .int .i64 0]) ∧ Below W.heap.size W w' := fun a c W hH h => by have := size_any a c X gX W hH h; rw [p6] at this; exact this
  have e3 : ∀ a c W, SRow itm 13 W a c M → Calls Tryd.prog 30 #[.slice a M.length c, .agg #[.int .i64 9, .int .u64 1, .int .i64 0, .int .i64 2, .int .i64 1, .int .i64 0, .int .i64 (1 + k), .int .i64 2, .string ⟨#[120, 121]⟩]] W fun e w' => RetS (X, 0) W e w' := fun a c W h => by have := add_any a c M (nbk k) D1 (show 2 ≤ maxLen by unfold maxLen; omega) W h; rw [p1] at this; exact this
  have e4 : ∀ a c W, SRow itm 13 W a c X → Calls Tryd.prog 34 #[.slice a X.length c, .agg #[.int .i64 9, .int .u64 1, .int .i64 0]] W fun e w' => e = .returned (.tuple #[.int .i64 M.length, .int .i64 0]) ∧ Below W.heap.size W w' := fun a c W h => by have := sFind_any a c X (9, 1, 0) D2 W h; rw [p2] at this; exact this
  have e5 : ∀ a c W, SRow itm 13 W a c X → Calls Tryd.prog 32 #[.slice a X.length c, .agg #[.int .i64 9, .int .u64 1, .int .i64 0]] W fun e w' => RetS (M, 0) W e w' := fun a c W h => by have := drop_any a c X (9, 1, 0) D2 W h; rw [p3] at this; exact this
  have e6 : ∀ a c W, SRow itm 13 W a c M → Calls Tryd.prog 34 #[.slice a M.length c, .agg #[.int .i64 9, .int .u64 1, .int .i64 0]] W fun e w' => e = .returned (.tuple #[.int .i64 0, .int .i64 8]) ∧ Below W.heap.size W w' := fun a c W h => by have := sFind_any a c M (9, 1, 0) D1 W h; rw [p4] at this; exact this
  have e7 : ∀ W, Calls Tryd.prog 48 #[.agg #[.int .i64 9, .int .u64 1, .int .i64 0, .int .i64 2, .int .i64 1, .int .i64 0, .int .i64 (1 + k), .int .i64 2, .string ⟨#[120, 121]⟩]] W fun e w' => e = .returned (.tuple #[.int .i64 s2, .int .i64 q2]) ∧ Below W.heap.size W w' := fun W => by have := refSizeB_any 9 1 0 2 1 0 (1 + k) 2 ⟨#[120, 121]⟩ (show 2 ≤ maxLen by unfold maxLen; omega) (by decide) W; rw [eq2] at this; rw [← es2]; exact this
  replace e1 := Lib.hid e1; replace e2 := Lib.hid e2; replace e3 := Lib.hid e3; replace e4 := Lib.hid e4; replace e5 := Lib.hid e5; replace e6 := Lib.hid e6; replace e7 := Lib.hid e7
  clear p1 p2 p3 p4 p5 p6 gX gM D1 D2 HM HX es1 es2 eq2 hX hm k0 k1 hz
  go_wp2_with fail
  (with_reducible refine (e1.out a2 c2 V (HH.out.on BV) HR.out).mono ?_)
  rintro e W3 ⟨rfl, h3⟩
  replace HR := Lib.hid (HR.out.below h3)
  replace kb := blk_below h3 kb
  replace nkb := kn kb
  have B3 := bt BV h3
  clear h3 BV
  go_wp2_with fail
  (with_reducible refine (e3.out a2 c2 W3 HR.out).mono ?_)
  rintro e W4 ⟨v4, rfl, ho4, h4⟩
  obtain ⟨a4, c4, rfl, hS4, _⟩ := srow_of_owns itm_len ho4
  have HX := Lib.hid hS4
  clear ho4 hS4
  replace HR := Lib.hid (HR.out.below h4)
  replace kb := blk_below h4 kb
  replace nkb := kn kb
  have B4 := bt B3 h4
  clear h4 B3
  go_wp2_with fail
  (with_reducible refine (e2.out a4 c4 W4 (HH.out.on B4) HX.out).mono ?_)
  rintro e W5 ⟨rfl, h5⟩
  replace HR := Lib.hid (HR.out.below h5)
  replace HX := Lib.hid (HX.out.below h5)
  replace kb := blk_below h5 kb
  replace nkb := kn kb
  have B5 := bt B4 h5
  clear h5 B4
  go_wp2_with fail
  (with_reducible refine (e4.out a4 c4 W5 HX.out).mono ?_)
  rintro e W6 ⟨rfl, h6⟩
  replace HR := Lib.hid (HR.out.below h6)
  replace HX := Lib.hid (HX.out.below h6)
  replace kb := blk_below h6 kb
  replace nkb := kn kb
  have B6 := bt B5 h6
  clear h6 B5
  go_wp2_with fail
  (with_reducible refine (e5.out a4 c4 W6 HX.out).mono ?_)
  rintro e W7 ⟨v7, rfl, ho7, h7⟩
  obtain ⟨a7, c7, rfl, hS7, _⟩ := srow_of_owns itm_len ho7
  have HY := Lib.hid hS7
  clear ho7 hS7
  replace HR := Lib.hid (HR.out.below h7)
  replace HX := Lib.hid (HX.out.below h7)
  replace kb := blk_below h7 kb
  replace nkb := kn kb
  have B7 := bt B6 h7
  clear h7 B6
  clear HX
  go_wp2_with fail
  (with_reducible refine (e6.out a7 c7 W7 HY.out).mono ?_)
  rintro e W8 ⟨rfl, h8⟩
  replace HR := Lib.hid (HR.out.below h8)
  replace HY := Lib.hid (HY.out.below h8)
  replace kb := blk_below h8 kb
  replace nkb := kn kb
  have B8 := bt B7 h8
  clear h8 B7
  go_wp2_with fail
  (with_reducible refine (e7.out W8).mono ?_)
  rintro e W9 ⟨rfl, h9⟩
  replace HR := Lib.hid (HR.out.below h9)
  replace HY := Lib.hid (HY.out.below h9)
  replace kb := blk_below h9 kb
  replace nkb := kn kb
  have B9 := bt B8 h9
  clear h9 B8
  have u1 : ((M.length : Int) == (M.length : Int)) = true := by simp
  have u2 : (IntKind.u64.wrap (s1 + IntKind.u64.wrap s2) == IntKind.u64.wrap (s1 + IntKind.u64.wrap s2)) = true := by simp
  go_wp2_with fail
  (with_reducible refine (same_self a7 a2 c7 c2 M W9 HY.out HR.out).mono ?_)
  rintro e W10 ⟨rfl, h10⟩
  replace HR := Lib.hid (HR.out.below h10)
  replace HY := Lib.hid (HY.out.below h10)
  replace kb := blk_below h10 kb
  replace nkb := kn kb
  have B10 := bt B9 h10
  clear h10 B9
  go_wp2
  go_ret
  exact ⟨rfl, B10⟩
theorem storeDrops_at (a : Option Addr) (len cap : Nat) (zs : List Int) (z : Int) (w : World) (h : IsRow .i64 w a len cap zs) (hT : Lib.TabIs Tryd.prog w headsNm .u8 headsTab) :
    Calls Tryd.prog 9 #[.slice a len cap, .int .i64 z] w fun e w' => e = .returned (.bool true) ∧ Below w.heap.size w w' := by
  obtain ⟨e, hr⟩ := row_of h
  have := storeDrops_walk a cap (zs.take len) z w (htab_of hT) hr
  rw [← e] at this
  exact this
end Go.Proofs.YtahopnlibmiafaaDoor
