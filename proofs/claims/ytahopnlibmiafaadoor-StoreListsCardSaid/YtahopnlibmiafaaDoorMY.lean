/- Parts of a proof, printed by a program of mine out of my texts: StOffer. -/
import Derived.Test.YtahopnlibmiafaaDoorMX
set_option linter.unusedSimpArgs false
set_option linter.unusedVariables false
namespace Go.Proofs.YtahopnlibmiafaaDoor
open Go.RowKit
set_option maxRecDepth 100000 in
set_option maxHeartbeats 1600000 in
theorem offer_any (a : Option Addr) (cap : Nat) (l : List Itm) (k : Id3) (to off : Int) (hd : ∀ x ∈ l, x.b.da.size ≤ maxLen) (w : World) (hrow : SRow itm 13 w a cap l) :
    Calls Tryd.prog 38 #[.slice a l.length cap, .agg (idL k).toArray, .int .i64 to, .int .u64 off] w fun e w' => RetS (offerS l k to off) w e w' := by
  have g1 : ∀ W, Below w.heap.size w W → Calls Tryd.prog 78 #[.slice a l.length cap, .agg #[.int .i64 k.1, .int .u64 k.2.1, .int .i64 k.2.2]] W fun e w' => e = .returned (.tuple #[.int .i64 (findS l k).1, .int .i64 (findS l k).2]) ∧ Below W.heap.size W w' := fun W hB => sfind_any a cap l k hd W (hrow.below hB)
  by_cases hf : (findS l k).2 = 0
  · obtain ⟨i, hi, hf2, _, hv⟩ := findS_ok hf
    rw [offerS_at to off hi hf2]
    rw [hf2] at g1
    replace g1 := Lib.hid g1
    have g2 : ∀ W, Below w.heap.size w W → Calls Tryd.prog 76 #[.slice a l.length cap] W fun e w' => OwnS l W e w' := fun W hB => clone_any a cap l (by have := hv.1; omega) W (hrow.below hB)
    replace g2 := Lib.hid g2
    have q0 : ((0 : Int) != 0) = false := rfl
    have hcap := hrow.1
    have hmax := hrow.2.1
    unfold maxLen at hmax
    obtain ⟨b, o, rfl, hbl, hcs⟩ := hrow.2.2.2 (by omega)
    have hr := hcs i hi 9 _ rfl
    have p1 : (i : Int) < (l.length : Int) := by omega
    clear hcs hrow hd hf hf2 hv
    obtain ⟨k1, k2, k3⟩ := k
    show Calls Tryd.prog 38 #[.slice (some ⟨b, o, none⟩) l.length cap, .agg #[.int .i64 k1, .int .u64 k2, .int .i64 k3], .int .i64 to, .int .u64 off] w _
    obtain ⟨st, hst⟩ : ∃ s, s = l[i].st := ⟨_, rfl⟩
    rw [← hst]
    have hr : w.cell? ⟨b, o + i * 13 + 9, none⟩ = some (.int .i64 st) := by rw [hst]; exact hr
    by_cases h1 : st = 1
    · have t1 : (st != 1) = false := by simp [h1]
      rw [if_neg (by simp [h1])]
      by_cases h2 : to < 1 ∨ 16 < to
      · rw [if_pos h2]
        rcases h2 with h2 | h2
        · have t2 : decide (to < 1) = true := decide_eq_true h2
          go_enter Tryd.func38, Tryd.ntmps38
          go_wp2_with (go_at_call 78; (with_reducible refine (g1.out _ (by (repeat (first | (with_reducible assumption) | (with_reducible exact Below.refl _ _) | (with_reducible refine beld_drew ?_) | ((with_reducible refine bset' ?_ ?_); (first | (focus (dsimp only; assumption)) | (focus (simp; done)) | (focus (dsimp only; omega)))) | (with_reducible refine belt_alloc ?_) | ((with_reducible refine zeroed_below' ?_ ?_); (first | (focus (simp; done)) | (focus (dsimp only; omega)))) | (with_reducible refine bt ?_ (by assumption)))))).mono ?_); rintro e w2 ⟨rfl, h2'⟩; (have b2 : Below w.heap.size w w2 := (by (repeat (first | (with_reducible assumption) | (with_reducible exact Below.refl _ _) | (with_reducible refine beld_drew ?_) | ((with_reducible refine bset' ?_ ?_); (first | (focus (dsimp only; assumption)) | (focus (simp; done)) | (focus (dsimp only; omega)))) | (with_reducible refine belt_alloc ?_) | ((with_reducible refine zeroed_below' ?_ ?_); (first | (focus (simp; done)) | (focus (dsimp only; omega)))) | (with_reducible refine bt ?_ (by assumption)))))); (have c2 := (b2.cell (p := ⟨b, o + i * 13 + 9, none⟩) hbl).trans hr); clear h2')
          go_ret2
          exact RetS.err _ b2
        · have t2 : decide (to < 1) = false := decide_eq_false (by omega)
          have t3 : decide (16 < to) = true := decide_eq_true h2
          go_enter Tryd.func38, Tryd.ntmps38
          go_wp2_with (go_at_call 78; (with_reducible refine (g1.out _ (by (repeat (first | (with_reducible assumption) | (with_reducible exact Below.refl _ _) | (with_reducible refine beld_drew ?_) | ((with_reducible refine bset' ?_ ?_); (first | (focus (dsimp only; assumption)) | (focus (simp; done)) | (focus (dsimp only; omega)))) | (with_reducible refine belt_alloc ?_) | ((with_reducible refine zeroed_below' ?_ ?_); (first | (focus (simp; done)) | (focus (dsimp only; omega)))) | (with_reducible refine bt ?_ (by assumption)))))).mono ?_); rintro e w2 ⟨rfl, h2'⟩; (have b2 : Below w.heap.size w w2 := (by (repeat (first | (with_reducible assumption) | (with_reducible exact Below.refl _ _) | (with_reducible refine beld_drew ?_) | ((with_reducible refine bset' ?_ ?_); (first | (focus (dsimp only; assumption)) | (focus (simp; done)) | (focus (dsimp only; omega)))) | (with_reducible refine belt_alloc ?_) | ((with_reducible refine zeroed_below' ?_ ?_); (first | (focus (simp; done)) | (focus (dsimp only; omega)))) | (with_reducible refine bt ?_ (by assumption)))))); (have c2 := (b2.cell (p := ⟨b, o + i * 13 + 9, none⟩) hbl).trans hr); clear h2')
          go_ret2
          exact RetS.err _ b2
      · rw [if_neg h2]
        have t2 : decide (to < 1) = false := decide_eq_false (by omega)
        have t3 : decide (16 < to) = false := decide_eq_false (by omega)
        go_enter Tryd.func38, Tryd.ntmps38
        go_wp2_with (first | (go_at_call 78; (with_reducible refine (g1.out _ (by (repeat (first | (with_reducible assumption) | (with_reducible exact Below.refl _ _) | (with_reducible refine beld_drew ?_) | ((with_reducible refine bset' ?_ ?_); (first | (focus (dsimp only; assumption)) | (focus (simp; done)) | (focus (dsimp only; omega)))) | (with_reducible refine belt_alloc ?_) | ((with_reducible refine zeroed_below' ?_ ?_); (first | (focus (simp; done)) | (focus (dsimp only; omega)))) | (with_reducible refine bt ?_ (by assumption)))))).mono ?_); rintro e w2 ⟨rfl, h2'⟩; (have b2 : Below w.heap.size w w2 := (by (repeat (first | (with_reducible assumption) | (with_reducible exact Below.refl _ _) | (with_reducible refine beld_drew ?_) | ((with_reducible refine bset' ?_ ?_); (first | (focus (dsimp only; assumption)) | (focus (simp; done)) | (focus (dsimp only; omega)))) | (with_reducible refine belt_alloc ?_) | ((with_reducible refine zeroed_below' ?_ ?_); (first | (focus (simp; done)) | (focus (dsimp only; omega)))) | (with_reducible refine bt ?_ (by assumption)))))); (have c2 := (b2.cell (p := ⟨b, o + i * 13 + 9, none⟩) hbl).trans hr); clear h2') | (go_at_call 76; (with_reducible refine (g2.out _ b2).mono ?_); rintro e w3 ⟨v3, rfl, ho3, hB3⟩; (obtain ⟨g, cap3, rfl, hg3, hl3, hc3, hm3, hcell, hfz⟩ := owns_parts ho3 (by omega)); (have d9 := hcell i hi 9 _ rfl); (have d10 := hcell i hi 10 _ rfl); (have d11 := hcell i hi 11 _ rfl); (have b3 := bt b2 hB3); (have HO := Lib.hid ho3); clear ho3 hcell))
        go_ret2
        have o1 := owns_setCell (owns_setCell (owns_setCell (owns_base HO.out b2.size) (j := i * 13 + 9) (by omega) (.int .i64 2)) (j := i * 13 + 10) (by omega) (.int .i64 to)) (j := i * 13 + 11) (by omega) (.int .u64 off)
        rw [row_sets l i hi 2 to off] at o1
        have hg0 : w.heap.size ≤ g := Nat.le_trans b2.size hg3
        refine ⟨_, rfl, ?_, (((b3.setCell hg0 _).setCell hg0 _).setCell hg0 _)⟩
        rw [rowC_set_length]
        exact o1
    · have t1 : (st != 1) = true := by simpa using h1
      rw [if_pos h1]
      go_enter Tryd.func38, Tryd.ntmps38
      go_wp2_with (go_at_call 78; (with_reducible refine (g1.out _ (by (repeat (first | (with_reducible assumption) | (with_reducible exact Below.refl _ _) | (with_reducible refine beld_drew ?_) | ((with_reducible refine bset' ?_ ?_); (first | (focus (dsimp only; assumption)) | (focus (simp; done)) | (focus (dsimp only; omega)))) | (with_reducible refine belt_alloc ?_) | ((with_reducible refine zeroed_below' ?_ ?_); (first | (focus (simp; done)) | (focus (dsimp only; omega)))) | (with_reducible refine bt ?_ (by assumption)))))).mono ?_); rintro e w2 ⟨rfl, h2'⟩; (have b2 : Below w.heap.size w w2 := (by (repeat (first | (with_reducible assumption) | (with_reducible exact Below.refl _ _) | (with_reducible refine beld_drew ?_) | ((with_reducible refine bset' ?_ ?_); (first | (focus (dsimp only; assumption)) | (focus (simp; done)) | (focus (dsimp only; omega)))) | (with_reducible refine belt_alloc ?_) | ((with_reducible refine zeroed_below' ?_ ?_); (first | (focus (simp; done)) | (focus (dsimp only; omega)))) | (with_reducible refine bt ?_ (by assumption)))))); (have c2 := (b2.cell (p := ⟨b, o + i * 13 + 9, none⟩) hbl).trans hr); clear h2')
      go_ret2
      exact RetS.err _ b2
  · rw [offerS_bad to off hf]
    obtain ⟨c, hc⟩ : ∃ c, (findS l k).2 = c := ⟨_, rfl⟩
    obtain ⟨d, hdd⟩ : ∃ c, (findS l k).1 = c := ⟨_, rfl⟩
    rw [hc] at g1 hf ⊢
    rw [hdd] at g1
    have q0 : (c != 0) = true := by simpa using hf
    replace g1 := Lib.hid g1
    clear hc hf hdd hd hrow
    obtain ⟨k1, k2, k3⟩ := k
    show Calls Tryd.prog 38 #[.slice a l.length cap, .agg #[.int .i64 k1, .int .u64 k2, .int .i64 k3], .int .i64 to, .int .u64 off] w _
    go_enter Tryd.func38, Tryd.ntmps38
    go_wp2_with (go_at_call 78; (with_reducible refine (g1.out _ (by (repeat (first | (with_reducible assumption) | (with_reducible exact Below.refl _ _) | (with_reducible refine beld_drew ?_) | ((with_reducible refine bset' ?_ ?_); (first | (focus (dsimp only; assumption)) | (focus (simp; done)) | (focus (dsimp only; omega)))) | (with_reducible refine belt_alloc ?_) | ((with_reducible refine zeroed_below' ?_ ?_); (first | (focus (simp; done)) | (focus (dsimp only; omega)))) | (with_reducible refine bt ?_ (by assumption)))))).mono ?_); rintro e w2 ⟨rfl, h2⟩)
    go_ret2
    exact RetS.err _ (by (repeat (first | (with_reducible assumption) | (with_reducible exact Below.refl _ _) | (with_reducible refine beld_drew ?_) | ((with_reducible refine bset' ?_ ?_); (first | (focus (dsimp only; assumption)) | (focus (simp; done)) | (focus (dsimp only; omega)))) | (with_reducible refine belt_alloc ?_) | ((with_reducible refine zeroed_below' ?_ ?_); (first | (focus (simp; done)) | (focus (dsimp only; omega)))) | (with_reducible refine bt ?_ (by assumption)))))
end Go.Proofs.YtahopnlibmiafaaDoor
