/- Parts of a proof, printed by a program of mine out of my texts: StOffer, StHeld, StBack, StBackAll. -/
import Derived.Test.YtahopnlibmiafaaDoorMX
set_option linter.unusedSimpArgs false
set_option linter.unusedVariables false
namespace Go.Proofs.YtahopnlibmiafaaDoor
open Go.RowKit
set_option maxRecDepth 100000 in
set_option maxHeartbeats 1600000 in
theorem offer_any (a : Option Addr) (cap : Nat) (l : List Itm) (k : Id3) (to off : Int) (hd : ∀ x ∈ l, x.b.da.size ≤ maxLen) (w : World) (hrow : SRow itm 13 w a cap l) :
    Calls Tryd.prog 38 #[.slice a l.length cap, .agg (idL k).toArray, .int .i64 to, .int .u64 off] w fun e w' => RetS (offerS l k to off) w e w' := by
  have g1 : ∀ W, Below w.heap.size w W → Calls Tryd.prog 78 #[.slice a l.length cap, .agg #[.int .i64 k.1, .int .u64 k.2.1, .int .i64 k.2.2]] W fun e w' => e = .returned (.tuple #[.int .i64 (findS l k).1, .int .i64 (findS l k).2]) ∧ Below W.heap.size W w' := fun W hB => sfind_any a cap l k hd W (hrow.below hB)
  by_cases hf : (findS l k).2 = 0
  · obtain ⟨i, hi, hf2, _, hv⟩ := findS_ok hf
    rw [offerS_at to off hi hf2]
    rw [hf2] at g1
    replace g1 := Lib.hid g1
    have g2 : ∀ W, Below w.heap.size w W → Calls Tryd.prog 76 #[.slice a l.length cap] W fun e w' => OwnS l W e w' := fun W hB => clone_any a cap l (by have := hv.1; omega) W (hrow.below hB)
    replace g2 := Lib.hid g2
    have q0 : ((0 : Int) != 0) = false := rfl
    have hcap := hrow.1
    have hmax := hrow.2.1
    unfold maxLen at hmax
    obtain ⟨b, o, rfl, hbl, hcs⟩ := hrow.2.2.2 (by omega)
    have hr := hcs i hi 9 _ rfl
    have p1 : (i : Int) < (l.length : Int) := by omega
    clear hcs hrow hd hf hf2 hv
    obtain ⟨k1, k2, k3⟩ := k
    show Calls Tryd.prog 38 #[.slice (some ⟨b, o, none⟩) l.length cap, .agg #[.int .i64 k1, .int .u64 k2, .int .i64 k3], .int .i64 to, .int .u64 off] w _
    obtain ⟨st, hst⟩ : ∃ s, s = l[i].st := ⟨_, rfl⟩
    rw [← hst]
    have hr : w.cell? ⟨b, o + i * 13 + 9, none⟩ = some (.int .i64 st) := by rw [hst]; exact hr
    by_cases h1 : st = 1
    · have t1 : (st != 1) = false := by simp [h1]
      rw [if_neg (by simp [h1])]
      by_cases h2 : to < 1 ∨ 16 < to
      · rw [if_pos h2]
        rcases h2 with h2 | h2
        · have t2 : decide (to < 1) = true := decide_eq_true h2
          go_enter Tryd.func38, Tryd.ntmps38
          go_wp2_with (go_at_call 78; (with_reducible refine (g1.out _ (by (repeat (first | (with_reducible assumption) | (with_reducible exact Below.refl _ _) | (with_reducible refine beld_drew ?_) | ((with_reducible refine bset' ?_ ?_); (first | (focus (dsimp only; assumption)) | (focus (simp; done)) | (focus (dsimp only; omega)))) | (with_reducible refine belt_alloc ?_) | ((with_reducible refine zeroed_below' ?_ ?_); (first | (focus (simp; done)) | (focus (dsimp only; omega)))) | (with_reducible refine bt ?_ (by assumption)))))).mono ?_); rintro e w2 ⟨rfl, h2'⟩; (have b2 : Below w.heap.size w w2 := (by (repeat (first | (with_reducible assumption) | (with_reducible exact Below.refl _ _) | (with_reducible refine beld_drew ?_) | ((with_reducible refine bset' ?_ ?_); (first | (focus (dsimp only; assumption)) | (focus (simp; done)) | (focus (dsimp only; omega)))) | (with_reducible refine belt_alloc ?_) | ((with_reducible refine zeroed_below' ?_ ?_); (first | (focus (simp; done)) | (focus (dsimp only; omega)))) | (with_reducible refine bt ?_ (by assumption)))))); (have c2 := (b2.cell (p := ⟨b, o + i * 13 + 9, none⟩) hbl).trans hr); clear h2')
          go_ret2
          exact RetS.err _ b2
        · have t2 : decide (to < 1) = false := decide_eq_false (by omega)
          have t3 : decide (16 < to) = true := decide_eq_true h2
          go_enter Tryd.func38, Tryd.ntmps38
          go_wp2_with (go_at_call 78; (with_reducible refine (g1.out _ (by (repeat (first | (with_reducible assumption) | (with_reducible exact Below.refl _ _) | (with_reducible refine beld_drew ?_) | ((with_reducible refine bset' ?_ ?_); (first | (focus (dsimp only; assumption)) | (focus (simp; done)) | (focus (dsimp only; omega)))) | (with_reducible refine belt_alloc ?_) | ((with_reducible refine zeroed_below' ?_ ?_); (first | (focus (simp; done)) | (focus (dsimp only; omega)))) | (with_reducible refine bt ?_ (by assumption)))))).mono ?_); rintro e w2 ⟨rfl, h2'⟩; (have b2 : Below w.heap.size w w2 := (by (repeat (first | (with_reducible assumption) | (with_reducible exact Below.refl _ _) | (with_reducible refine beld_drew ?_) | ((with_reducible refine bset' ?_ ?_); (first | (focus (dsimp only; assumption)) | (focus (simp; done)) | (focus (dsimp only; omega)))) | (with_reducible refine belt_alloc ?_) | ((with_reducible refine zeroed_below' ?_ ?_); (first | (focus (simp; done)) | (focus (dsimp only; omega)))) | (with_reducible refine bt ?_ (by assumption)))))); (have c2 := (b2.cell (p := ⟨b, o + i * 13 + 9, none⟩) hbl).trans hr); clear h2')
          go_ret2
          exact RetS.err _ b2
      · rw [if_neg h2]
        have t2 : decide (to < 1) = false := decide_eq_false (by omega)
        have t3 : decide (16 < to) = false := decide_eq_false (by omega)
        go_enter Tryd.func38, Tryd.ntmps38
        go_wp2_with (first | (go_at_call 78; (with_reducible refine (g1.out _ (by (repeat (first | (with_reducible assumption) | (with_reducible exact Below.refl _ _) | (with_reducible refine beld_drew ?_) | ((with_reducible refine bset' ?_ ?_); (first | (focus (dsimp only; assumption)) | (focus (simp; done)) | (focus (dsimp only; omega)))) | (with_reducible refine belt_alloc ?_) | ((with_reducible refine zeroed_below' ?_ ?_); (first | (focus (simp; done)) | (focus (dsimp only; omega)))) | (with_reducible refine bt ?_ (by assumption)))))).mono ?_); rintro e w2 ⟨rfl, h2'⟩; (have b2 : Below w.heap.size w w2 := (by (repeat (first | (with_reducible assumption) | (with_reducible exact Below.refl _ _) | (with_reducible refine beld_drew ?_) | ((with_reducible refine bset' ?_ ?_); (first | (focus (dsimp only; assumption)) | (focus (simp; done)) | (focus (dsimp only; omega)))) | (with_reducible refine belt_alloc ?_) | ((with_reducible refine zeroed_below' ?_ ?_); (first | (focus (simp; done)) | (focus (dsimp only; omega)))) | (with_reducible refine bt ?_ (by assumption)))))); (have c2 := (b2.cell (p := ⟨b, o + i * 13 + 9, none⟩) hbl).trans hr); clear h2') | (go_at_call 76; (with_reducible refine (g2.out _ b2).mono ?_); rintro e w3 ⟨v3, rfl, ho3, hB3⟩; (obtain ⟨g, cap3, rfl, hg3, hl3, hc3, hm3, hcell, hfz⟩ := owns_parts ho3 (by omega)); (have d9 := hcell i hi 9 _ rfl); (have d10 := hcell i hi 10 _ rfl); (have d11 := hcell i hi 11 _ rfl); (have b3 := bt b2 hB3); (have HO := Lib.hid ho3); clear ho3 hcell))
        go_ret2
        have o1 := owns_setCell (owns_setCell (owns_setCell (owns_base HO.out b2.size) (j := i * 13 + 9) (by omega) (.int .i64 2)) (j := i * 13 + 10) (by omega) (.int .i64 to)) (j := i * 13 + 11) (by omega) (.int .u64 off)
        rw [row_sets l i hi 2 to off] at o1
        have hg0 : w.heap.size ≤ g := Nat.le_trans b2.size hg3
        refine ⟨_, rfl, ?_, (((b3.setCell hg0 _).setCell hg0 _).setCell hg0 _)⟩
        rw [rowC_set_length]
        exact o1
    · have t1 : (st != 1) = true := by simpa using h1
      rw [if_pos h1]
      go_enter Tryd.func38, Tryd.ntmps38
      go_wp2_with (go_at_call 78; (with_reducible refine (g1.out _ (by (repeat (first | (with_reducible assumption) | (with_reducible exact Below.refl _ _) | (with_reducible refine beld_drew ?_) | ((with_reducible refine bset' ?_ ?_); (first | (focus (dsimp only; assumption)) | (focus (simp; done)) | (focus (dsimp only; omega)))) | (with_reducible refine belt_alloc ?_) | ((with_reducible refine zeroed_below' ?_ ?_); (first | (focus (simp; done)) | (focus (dsimp only; omega)))) | (with_reducible refine bt ?_ (by assumption)))))).mono ?_); rintro e w2 ⟨rfl, h2'⟩; (have b2 : Below w.heap.size w w2 := (by (repeat (first | (with_reducible assumption) | (with_reducible exact Below.refl _ _) | (with_reducible refine beld_drew ?_) | ((with_reducible refine bset' ?_ ?_); (first | (focus (dsimp only; assumption)) | (focus (simp; done)) | (focus (dsimp only; omega)))) | (with_reducible refine belt_alloc ?_) | ((with_reducible refine zeroed_below' ?_ ?_); (first | (focus (simp; done)) | (focus (dsimp only; omega)))) | (with_reducible refine bt ?_ (by assumption)))))); (have c2 := (b2.cell (p := ⟨b, o + i * 13 + 9, none⟩) hbl).trans hr); clear h2')
      go_ret2
      exact RetS.err _ b2
  · rw [offerS_bad to off hf]
    obtain ⟨c, hc⟩ : ∃ c, (findS l k).2 = c := ⟨_, rfl⟩
    obtain ⟨d, hdd⟩ : ∃ c, (findS l k).1 = c := ⟨_, rfl⟩
    rw [hc] at g1 hf ⊢
    rw [hdd] at g1
    have q0 : (c != 0) = true := by simpa using hf
    replace g1 := Lib.hid g1
    clear hc hf hdd hd hrow
    obtain ⟨k1, k2, k3⟩ := k
    show Calls Tryd.prog 38 #[.slice a l.length cap, .agg #[.int .i64 k1, .int .u64 k2, .int .i64 k3], .int .i64 to, .int .u64 off] w _
    go_enter Tryd.func38, Tryd.ntmps38
    go_wp2_with (go_at_call 78; (with_reducible refine (g1.out _ (by (repeat (first | (with_reducible assumption) | (with_reducible exact Below.refl _ _) | (with_reducible refine beld_drew ?_) | ((with_reducible refine bset' ?_ ?_); (first | (focus (dsimp only; assumption)) | (focus (simp; done)) | (focus (dsimp only; omega)))) | (with_reducible refine belt_alloc ?_) | ((with_reducible refine zeroed_below' ?_ ?_); (first | (focus (simp; done)) | (focus (dsimp only; omega)))) | (with_reducible refine bt ?_ (by assumption)))))).mono ?_); rintro e w2 ⟨rfl, h2⟩)
    go_ret2
    exact RetS.err _ (by (repeat (first | (with_reducible assumption) | (with_reducible exact Below.refl _ _) | (with_reducible refine beld_drew ?_) | ((with_reducible refine bset' ?_ ?_); (first | (focus (dsimp only; assumption)) | (focus (simp; done)) | (focus (dsimp only; omega)))) | (with_reducible refine belt_alloc ?_) | ((with_reducible refine zeroed_below' ?_ ?_); (first | (focus (simp; done)) | (focus (dsimp only; omega)))) | (with_reducible refine bt ?_ (by assumption)))))
end Go.Proofs.YtahopnlibmiafaaDoor
namespace Go.Proofs.YtahopnlibmiafaaDoor
open Go.RowKit
set_option maxRecDepth 100000 in
set_option maxHeartbeats 1600000 in
theorem held_any (g p : Nat) (w : World) (u9 u10 u11 : Value) (h9 : w.cell? ⟨g, p + 9, none⟩ = some u9) (h10 : w.cell? ⟨g, p + 10, none⟩ = some u10) (h11 : w.cell? ⟨g, p + 11, none⟩ = some u11) (hf : ∀ o, w.frozen? ⟨g, o, none⟩ = false) :
    Calls Tryd.prog 81 #[.pointer (some ⟨g, p, none⟩)] w fun e w' => e = .returned (.tuple #[]) ∧ ((w.setCell ⟨g, p + 9, none⟩ (.int .i64 1)).setCell ⟨g, p + 10, none⟩ (.int .i64 0)).setCell ⟨g, p + 11, none⟩ (.int .u64 0) = w' := by
  go_enter Tryd.func81, Tryd.ntmps81
  go_wp2
  go_end0
  exact ⟨rfl, rfl⟩
end Go.Proofs.YtahopnlibmiafaaDoor
namespace Go.Proofs.YtahopnlibmiafaaDoor
open Go.RowKit
set_option maxRecDepth 100000 in
set_option maxHeartbeats 1600000 in
theorem back_any (a : Option Addr) (cap : Nat) (l : List Itm) (k : Id3) (hd : ∀ x ∈ l, x.b.da.size ≤ maxLen) (w : World) (hrow : SRow itm 13 w a cap l) :
    Calls Tryd.prog 40 #[.slice a l.length cap, .agg (idL k).toArray] w fun e w' => RetS (backS l k) w e w' := by
  have g1 : ∀ W, Below w.heap.size w W → Calls Tryd.prog 78 #[.slice a l.length cap, .agg #[.int .i64 k.1, .int .u64 k.2.1, .int .i64 k.2.2]] W fun e w' => e = .returned (.tuple #[.int .i64 (findS l k).1, .int .i64 (findS l k).2]) ∧ Below W.heap.size W w' := fun W hB => sfind_any a cap l k hd W (hrow.below hB)
  by_cases hf : (findS l k).2 = 0
  · obtain ⟨i, hi, hf2, _, hv⟩ := findS_ok hf
    rw [backS_at hi hf2]
    rw [hf2] at g1
    replace g1 := Lib.hid g1
    have g2 : ∀ W, Below w.heap.size w W → Calls Tryd.prog 76 #[.slice a l.length cap] W fun e w' => OwnS l W e w' := fun W hB => clone_any a cap l (by have := hv.1; omega) W (hrow.below hB)
    replace g2 := Lib.hid g2
    have q0 : ((0 : Int) != 0) = false := rfl
    have hcap := hrow.1
    have hmax := hrow.2.1
    unfold maxLen at hmax
    obtain ⟨b, o, rfl, hbl, hcs⟩ := hrow.2.2.2 (by omega)
    have hR := Lib.hid (hcs i hi)
    have p1 : (i : Int) < (l.length : Int) := by omega
    clear hcs hrow hd hf hf2 hv
    obtain ⟨k1, k2, k3⟩ := k
    show Calls Tryd.prog 40 #[.slice (some ⟨b, o, none⟩) l.length cap, .agg #[.int .i64 k1, .int .u64 k2, .int .i64 k3]] w _
    obtain ⟨x, hx⟩ : ∃ s, s = l[i] := ⟨_, rfl⟩
    rw [← hx] at hR ⊢
    have HX := Lib.hid hx
    clear hx
    obtain ⟨st, hst⟩ : ∃ s, s = x.st := ⟨_, rfl⟩
    rw [← hst]
    have hr : w.cell? ⟨b, o + i * 13 + 9, none⟩ = some (.int .i64 st) := by rw [hst]; exact hR.out 9 _ rfl
    by_cases h1 : st = 2
    · have t1 : (st != 2) = false := by simp [h1]
      rw [if_neg (by simp [h1])]
      go_enter Tryd.func40, Tryd.ntmps40
      go_wp2_with (first | (go_at_call 78; (with_reducible refine (g1.out _ (by (repeat (first | (with_reducible assumption) | (with_reducible exact Below.refl _ _) | (with_reducible refine beld_drew ?_) | ((with_reducible refine bset' ?_ ?_); (first | (focus (dsimp only; assumption)) | (focus (simp; done)) | (focus (dsimp only; omega)))) | (with_reducible refine belt_alloc ?_) | ((with_reducible refine zeroed_below' ?_ ?_); (first | (focus (simp; done)) | (focus (dsimp only; omega)))) | (with_reducible refine bt ?_ (by assumption)))))).mono ?_); rintro e w2 ⟨rfl, h2'⟩; (have b2 : Below w.heap.size w w2 := (by (repeat (first | (with_reducible assumption) | (with_reducible exact Below.refl _ _) | (with_reducible refine beld_drew ?_) | ((with_reducible refine bset' ?_ ?_); (first | (focus (dsimp only; assumption)) | (focus (simp; done)) | (focus (dsimp only; omega)))) | (with_reducible refine belt_alloc ?_) | ((with_reducible refine zeroed_below' ?_ ?_); (first | (focus (simp; done)) | (focus (dsimp only; omega)))) | (with_reducible refine bt ?_ (by assumption)))))); (have c2 := (b2.cell (p := ⟨b, o + i * 13 + 9, none⟩) hbl).trans hr); clear h2') | (go_at_call 76; (with_reducible refine (g2.out _ b2).mono ?_); rintro e w3 ⟨v3, rfl, ho3, hB3⟩; (obtain ⟨g, cap3, rfl, hg3, hl3, hc3, hm3, hcell, hfz⟩ := owns_parts ho3 (by omega)); (have b3 := bt b2 hB3); (have HO := Lib.hid ho3); (have gh := Lib.hid (held_any g (i * 13) w3 _ _ _ (hcell i hi 9 _ rfl) (hcell i hi 10 _ rfl) (hcell i hi 11 _ rfl) hfz)); clear ho3 hcell) | (go_at_call 81; (with_reducible refine (gh.out).mono ?_); rintro e w4 ⟨rfl, rfl⟩))
      go_ret2
      have o1 := owns_setCell (owns_setCell (owns_setCell (owns_base HO.out b2.size) (j := i * 13 + 9) (by omega) (.int .i64 1)) (j := i * 13 + 10) (by omega) (.int .i64 0)) (j := i * 13 + 11) (by omega) (.int .u64 0)
      rw [row_sets l i hi 1 0 0, ← HX.out] at o1
      have hg0 : w.heap.size ≤ g := Nat.le_trans b2.size hg3
      refine ⟨_, rfl, ?_, (((b3.setCell hg0 _).setCell hg0 _).setCell hg0 _)⟩
      rw [rowC_set_length]
      exact o1
    · have t1 : (st != 2) = true := by simpa using h1
      rw [if_pos h1]
      go_enter Tryd.func40, Tryd.ntmps40
      go_wp2_with (go_at_call 78; (with_reducible refine (g1.out _ (by (repeat (first | (with_reducible assumption) | (with_reducible exact Below.refl _ _) | (with_reducible refine beld_drew ?_) | ((with_reducible refine bset' ?_ ?_); (first | (focus (dsimp only; assumption)) | (focus (simp; done)) | (focus (dsimp only; omega)))) | (with_reducible refine belt_alloc ?_) | ((with_reducible refine zeroed_below' ?_ ?_); (first | (focus (simp; done)) | (focus (dsimp only; omega)))) | (with_reducible refine bt ?_ (by assumption)))))).mono ?_); rintro e w2 ⟨rfl, h2'⟩; (have b2 : Below w.heap.size w w2 := (by (repeat (first | (with_reducible assumption) | (with_reducible exact Below.refl _ _) | (with_reducible refine beld_drew ?_) | ((with_reducible refine bset' ?_ ?_); (first | (focus (dsimp only; assumption)) | (focus (simp; done)) | (focus (dsimp only; omega)))) | (with_reducible refine belt_alloc ?_) | ((with_reducible refine zeroed_below' ?_ ?_); (first | (focus (simp; done)) | (focus (dsimp only; omega)))) | (with_reducible refine bt ?_ (by assumption)))))); (have c2 := (b2.cell (p := ⟨b, o + i * 13 + 9, none⟩) hbl).trans hr); clear h2')
      go_ret2
      exact RetS.err _ b2
  · rw [backS_bad hf]
    obtain ⟨c, hc⟩ : ∃ c, (findS l k).2 = c := ⟨_, rfl⟩
    obtain ⟨d, hdd⟩ : ∃ c, (findS l k).1 = c := ⟨_, rfl⟩
    rw [hc] at g1 hf ⊢
    rw [hdd] at g1
    have q0 : (c != 0) = true := by simpa using hf
    replace g1 := Lib.hid g1
    clear hc hf hdd hd hrow
    obtain ⟨k1, k2, k3⟩ := k
    show Calls Tryd.prog 40 #[.slice a l.length cap, .agg #[.int .i64 k1, .int .u64 k2, .int .i64 k3]] w _
    go_enter Tryd.func40, Tryd.ntmps40
    go_wp2_with (go_at_call 78; (with_reducible refine (g1.out _ (by (repeat (first | (with_reducible assumption) | (with_reducible exact Below.refl _ _) | (with_reducible refine beld_drew ?_) | ((with_reducible refine bset' ?_ ?_); (first | (focus (dsimp only; assumption)) | (focus (simp; done)) | (focus (dsimp only; omega)))) | (with_reducible refine belt_alloc ?_) | ((with_reducible refine zeroed_below' ?_ ?_); (first | (focus (simp; done)) | (focus (dsimp only; omega)))) | (with_reducible refine bt ?_ (by assumption)))))).mono ?_); rintro e w2 ⟨rfl, h2⟩)
    go_ret2
    exact RetS.err _ (by (repeat (first | (with_reducible assumption) | (with_reducible exact Below.refl _ _) | (with_reducible refine beld_drew ?_) | ((with_reducible refine bset' ?_ ?_); (first | (focus (dsimp only; assumption)) | (focus (simp; done)) | (focus (dsimp only; omega)))) | (with_reducible refine belt_alloc ?_) | ((with_reducible refine zeroed_below' ?_ ?_); (first | (focus (simp; done)) | (focus (dsimp only; omega)))) | (with_reducible refine bt ?_ (by assumption)))))
end Go.Proofs.YtahopnlibmiafaaDoor
namespace Go.Proofs.YtahopnlibmiafaaDoor
open Go.RowKit
def backL (to : Int) (l : List Itm) (j : Nat) : List Itm := (l.take j).map (back1 to) ++ l.drop j
theorem backL_len (to : Int) (l : List Itm) (j : Nat) (h : j ≤ l.length) : (backL to l j).length = l.length := by simp [backL]; omega
theorem backL_zero (to : Int) (l : List Itm) : backL to l 0 = l := by simp [backL]
theorem backL_all (to : Int) (l : List Itm) : backL to l l.length = l.map (back1 to) := by simp [backL]
theorem backL_at (to : Int) (l : List Itm) (j : Nat) (h : j < l.length) (h2 : j < (backL to l j).length) : (backL to l j)[j] = l[j] := by
  have e : (backL to l j)[j]? = some l[j] := by
    unfold backL
    rw [List.getElem?_append_right (by simp; omega)]
    simp [Nat.min_eq_left (Nat.le_of_lt h), h]
  rw [List.getElem?_eq_getElem h2] at e
  exact Option.some.inj e
theorem backL_succ (to : Int) (l : List Itm) (j : Nat) (h : j < l.length) : (backL to l j).set j (back1 to l[j]) = backL to l (j + 1) := by
  unfold backL
  rw [List.drop_eq_getElem_cons h, List.set_append_right _ _ (by simp; omega)]
  have e : j - ((l.take j).map (back1 to)).length = 0 := by simp; omega
  rw [e, List.set_cons_zero, List.take_succ_eq_append_getElem h, List.map_append, List.append_assoc]
  rfl
theorem backL_same (to : Int) (l : List Itm) (j : Nat) (h : j < l.length) (hb : back1 to l[j] = l[j]) : backL to l (j + 1) = backL to l j := by
  rw [← backL_succ to l j h, hb]
  have h2 : j < (backL to l j).length := by rw [backL_len _ _ _ (by omega)]; exact h
  rw [← backL_at to l j h h2]
  exact List.set_getElem_self h2
set_option maxRecDepth 100000 in
set_option maxHeartbeats 1600000 in
theorem backAll_any (a : Option Addr) (cap : Nat) (l : List Itm) (to : Int) (hd : ∀ x ∈ l, x.b.da.size ≤ maxLen) (w : World) (hrow : SRow itm 13 w a cap l) :
    Calls Tryd.prog 42 #[.slice a l.length cap, .int .i64 to] w fun e w' => RetS (backAllS l to) w e w' := by
  have g1 : Calls Tryd.prog 74 #[.slice a l.length cap] w fun e w' => e = .returned (.int .i64 (chkS l).1) ∧ Below w.heap.size w w' := valid_any a cap l hd w hrow
  unfold backAllS
  by_cases hf : (chkS l).1 = 0
  · have hv := chkS_zero hf
    rw [if_neg (by simp [hf])]
    rw [hf] at g1
    replace g1 := Lib.hid g1
    have q0 : ((0 : Int) != 0) = false := rfl
    have g2 : ∀ W, Below w.heap.size w W → Calls Tryd.prog 76 #[.slice a l.length cap] W fun e w' => OwnS l W e w' := fun W hB => clone_any a cap l (by have := hv.1; omega) W (hrow.below hB)
    replace g2 := Lib.hid g2
    have hl := hv.1
    clear hv hf hd hrow
    by_cases h2 : to < 1 ∨ 16 < to
    · rw [if_pos h2]
      rcases h2 with h2 | h2
      · have t2 : decide (to < 1) = true := decide_eq_true h2
        go_enter Tryd.func42, Tryd.ntmps42
        go_wp2_with (go_at_call 74; (with_reducible refine (g1.out).mono ?_); rintro e w2 ⟨rfl, b2⟩)
        go_ret2
        exact RetS.err _ b2
      · have t2 : decide (to < 1) = false := decide_eq_false (by omega)
        have t3 : decide (16 < to) = true := decide_eq_true h2
        go_enter Tryd.func42, Tryd.ntmps42
        go_wp2_with (go_at_call 74; (with_reducible refine (g1.out).mono ?_); rintro e w2 ⟨rfl, b2⟩)
        go_ret2
        exact RetS.err _ b2
    · rw [if_neg h2]
      have t2 : decide (to < 1) = false := decide_eq_false (by omega)
      have t3 : decide (16 < to) = false := decide_eq_false (by omega)
      go_enter Tryd.func42, Tryd.ntmps42
      go_wp2_with (first | (go_at_call 74; (with_reducible refine (g1.out).mono ?_); rintro e w2 ⟨rfl, b2⟩) | (go_at_call 76; (with_reducible refine (g2.out _ b2).mono ?_); rintro e w3 ⟨v3, rfl, ho3, hB3⟩; (obtain ⟨a3, cap3, rfl, _⟩ := srow_of_owns itm_len ho3)))
      have b3 := bt b2 hB3
      have HO := Lib.hid (owns_base ho3 b2.size)
      clear hB3 ho3 g1 g2
      go_loopw [24] (fun i wr => ∃ j : Nat, i = .int .i64 j ∧ j ≤ l.length ∧ Below w.heap.size w wr ∧ Hid (wr.ownsRow w.heap.size 67 13 (.slice a3 l.length cap3) (backL to l j).length (rowC itm (backL to l j)))) (fun i _ => l.length - (intOf i).toNat)
      case atStart => exact ⟨0, rfl, Nat.zero_le _, b3, Lib.hid (by rw [backL_zero]; exact HO.out)⟩
      case round =>
        clear b3 HO
        obtain ⟨j, rfl, hj, hB, HM⟩ := hrel
        by_cases hlt : j < l.length
        · have hltz : (j : Int) < (l.length : Int) := by omega
          have ll := backL_len to l j hj
          have h2l : j < (backL to l j).length := by rw [ll]; exact hlt
          have hat := backL_at to l j hlt h2l
          have ho := HM.out
          obtain ⟨g, cap4, e4, hg, hgl, hc4, hm4, hcell, hfz⟩ := owns_parts (by have := HM.out; rw [← ll] at this; exact this) (by omega)
          rw [ll] at e4
          cases e4
          obtain ⟨x, hx⟩ : ∃ x, x = l[j] := ⟨_, rfl⟩
          rw [← hx] at hat
          have HX := Lib.hid hx
          have c9 := hcell j h2l 9 (.int .i64 x.st) (by rw [hat]; rfl)
          have c10 := hcell j h2l 10 (.int .i64 x.to) (by rw [hat]; rfl)
          have c11 := hcell j h2l 11 (.int .u64 x.off) (by rw [hat]; rfl)
          obtain ⟨st, hst⟩ : ∃ s, s = x.st := ⟨_, rfl⟩
          obtain ⟨tt, htt⟩ : ∃ s, s = x.to := ⟨_, rfl⟩
          rw [← hst] at c9
          rw [← htt] at c10
          have HA : Hid (∀ p : j < (backL to l j).length, (backL to l j)[j] = x) := Lib.hid (fun p => hat)
          have LL := Lib.hid ll
          have H2 := Lib.hid h2l
          clear hcell hat ll h2l ho hx
          by_cases h4 : st = 2
          · by_cases h5 : tt = to
            · have t4 : (st == 2) = true := by simpa using h4
              have t5 : (tt == to) = true := by simpa using h5
              have hb : back1 to l[j] = heldI x := by rw [← HX.out]; unfold back1; rw [if_pos ⟨by rw [← hst]; exact h4, by rw [← htt]; exact h5⟩]
              have gh := Lib.hid (held_any g (j * 13) wr _ _ _ c9 c10 c11 hfz)
              have hm := HM.out
              rw [LL.out] at hm
              have o1 := owns_setCell (owns_setCell (owns_setCell hm (j := j * 13 + 9) (by omega) (.int .i64 1)) (j := j * 13 + 10) (by omega) (.int .i64 0)) (j := j * 13 + 11) (by omega) (.int .u64 0)
              clear hm
              rw [row_sets _ j H2.out 1 0 0, HA.out] at o1
              have b4 := ((hB.setCell (p := ⟨g, j * 13 + 9, none⟩) hg (.int .i64 1)).setCell (p := ⟨g, j * 13 + 10, none⟩) hg (.int .i64 0)).setCell (p := ⟨g, j * 13 + 11, none⟩) hg (.int .u64 0)
              have e5 : (backL to l j).set j ⟨x.b, 1, 0, 0, x.od⟩ = backL to l (j + 1) := by rw [← backL_succ to l j hlt, hb]; rfl
              have HN := Lib.hid (by rw [← e5, rowC_set_length, LL.out]; exact o1 : World.ownsRow _ w.heap.size 67 13 (.slice (some ⟨g, 0, none⟩) l.length cap3) (backL to l (j + 1)).length (rowC itm (backL to l (j + 1))))
              clear o1 e5 hb hst htt
              go_wp2_with (go_at_call 81; (with_reducible refine (gh.out).mono ?_); rintro e w4 ⟨rfl, rfl⟩)
              go_roundw
              case rel => exact ⟨j + 1, by go_num, by omega, b4, HN⟩
              case measure => simp [intOf]; omega
            · have t4 : (st == 2) = true := by simpa using h4
              have t5 : (tt == to) = false := by simpa using h5
              have hb : back1 to l[j] = l[j] := by rw [← HX.out]; unfold back1; rw [if_neg (by rw [← hst, ← htt]; omega)]
              have HN : Hid (wr.ownsRow w.heap.size 67 13 (.slice (some ⟨g, 0, none⟩) l.length cap3) (backL to l (j + 1)).length (rowC itm (backL to l (j + 1)))) := Lib.hid (by rw [backL_same to l j hlt hb]; exact HM.out)
              clear hb hst htt
              go_wp2
              go_roundw
              case rel => exact ⟨j + 1, by go_num, by omega, hB, HN⟩
              case measure => simp [intOf]; omega
          · have t4 : (st == 2) = false := by simpa using h4
            have hun : undef = Value.tuple #[] := rfl
            have hb : back1 to l[j] = l[j] := by rw [← HX.out]; unfold back1; rw [if_neg (by rw [← hst, ← htt]; omega)]
            have HN : Hid (wr.ownsRow w.heap.size 67 13 (.slice (some ⟨g, 0, none⟩) l.length cap3) (backL to l (j + 1)).length (rowC itm (backL to l (j + 1)))) := Lib.hid (by rw [backL_same to l j hlt hb]; exact HM.out)
            clear hb hst htt
            go_wp2
            go_roundw
            case rel => exact ⟨j + 1, by go_num, by omega, hB, HN⟩
            case measure => simp [intOf]; omega
        · obtain rfl : j = l.length := by omega
          have HN := HM.out
          rw [backL_all] at HN
          have HN := Lib.hid HN
          go_wp2
          go_ret2
          exact ⟨_, rfl, HN.out, hB⟩
  · rw [if_pos hf]
    obtain ⟨c, hc⟩ : ∃ c, (chkS l).1 = c := ⟨_, rfl⟩
    rw [hc] at g1 hf ⊢
    have q0 : (c != 0) = true := by simpa using hf
    replace g1 := Lib.hid g1
    clear hc hf hd hrow
    go_enter Tryd.func42, Tryd.ntmps42
    go_wp2_with (go_at_call 74; (with_reducible refine (g1.out).mono ?_); rintro e w2 ⟨rfl, h2⟩)
    go_ret2
    exact RetS.err _ h2
end Go.Proofs.YtahopnlibmiafaaDoor
