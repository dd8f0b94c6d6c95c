/- Parts of a proof, printed by a program of mine out of my texts: StAwake. -/
import Derived.Test.YtahopnlibmiafaaDoorMAd
import Derived.Test.YtahopnlibmiafaaDoorMCh
import Derived.Test.YtahopnlibmiafaaDoorMY
import Derived.Test.YtahopnlibmiafaaDoorMZ
set_option linter.unusedSimpArgs false
set_option linter.unusedVariables false
namespace Go.Proofs.YtahopnlibmiafaaDoor
open Go.RowKit
def bun (n : Int) : Bn := ⟨1, n, 0, 2, if n = 3 then 2 else 1, 0, 10 * n, 2, ⟨#[120, 121]⟩⟩
theorem owns_full {w : World} {base : Nat} {l : List Itm} {v : Value} (h : w.ownsRow base 67 13 v l.length (rowC itm l)) (h0 : 0 < l.length) :
    ∃ g cap, v = .slice (some ⟨g, 0, none⟩) l.length cap ∧ SRow itm 13 w (some ⟨g, 0, none⟩) cap l ∧ (∀ i (hi : i < l.length) j u, (itm l[i])[j]? = some u → w.cell? ⟨g, i * 13 + j, none⟩ = some u) ∧ g < w.heap.size := by
  obtain ⟨g, cap, e, _, hg, _, _, hc, _⟩ := owns_parts h h0
  obtain ⟨a', cap', e', hS, _⟩ := srow_of_owns itm_len h
  rw [e] at e'
  cases e'
  exact ⟨g, cap, e, hS, hc, hg⟩
set_option maxRecDepth 100000 in
theorem bun1_any (w : World) : Calls Tryd.prog 45 #[.int .i64 1] w fun e w' => e = .returned (.agg #[.int .i64 1, .int .u64 1, .int .i64 0, .int .i64 2, .int .i64 1, .int .i64 0, .int .i64 10, .int .i64 2, .string ⟨#[120, 121]⟩]) ∧ Below w.heap.size w w' := by
  go_enter Tryd.func45, Tryd.ntmps45
  go_wp2
  refine ret_blk (b := w.heap.size) (c := #[.int .i64 1, .int .u64 1, .int .i64 0, .int .i64 2, .int .i64 1, .int .i64 0, .int .i64 10, .int .i64 2, .string ⟨#[120, 121]⟩]) (v := .agg #[.int .i64 1, .int .u64 1, .int .i64 0, .int .i64 2, .int .i64 1, .int .i64 0, .int .i64 10, .int .i64 2, .string ⟨#[120, 121]⟩]) (by (apply blk_to; (focus (repeat (first | (with_reducible assumption) | (with_reducible apply blk_drew) | (with_reducible apply blk_set) | ((with_reducible apply blk_other'); (first | (focus (dsimp only; assumption)) | (focus (simp; done)) | (focus (dsimp only; omega)))) | ((with_reducible apply blk_alloc_new); (first | (with_reducible rfl) | (focus (simp; done)) | (focus (simp; omega)))) | (with_reducible apply blk_alloc) | ((with_reducible apply blk_below); (with_reducible assumption))))); rfl)) (fun W' hc => by simp [results, Tryd.results45, go_sem, hc]) rfl ⟨rfl, by (repeat (first | (with_reducible assumption) | (with_reducible exact Below.refl _ _) | (with_reducible refine beld_drew ?_) | ((with_reducible refine bset' ?_ ?_); (first | (focus (dsimp only; assumption)) | (focus (simp; done)) | (focus (dsimp only; omega)))) | (with_reducible refine belt_alloc ?_) | ((with_reducible refine zeroed_below' ?_ ?_); (first | (focus (simp; done)) | (focus (dsimp only; omega)))) | (with_reducible refine bt ?_ (by assumption))))⟩
set_option maxRecDepth 100000 in
theorem bun2_any (w : World) : Calls Tryd.prog 45 #[.int .i64 2] w fun e w' => e = .returned (.agg #[.int .i64 1, .int .u64 2, .int .i64 0, .int .i64 2, .int .i64 1, .int .i64 0, .int .i64 20, .int .i64 2, .string ⟨#[120, 121]⟩]) ∧ Below w.heap.size w w' := by
  go_enter Tryd.func45, Tryd.ntmps45
  go_wp2
  refine ret_blk (b := w.heap.size) (c := #[.int .i64 1, .int .u64 2, .int .i64 0, .int .i64 2, .int .i64 1, .int .i64 0, .int .i64 20, .int .i64 2, .string ⟨#[120, 121]⟩]) (v := .agg #[.int .i64 1, .int .u64 2, .int .i64 0, .int .i64 2, .int .i64 1, .int .i64 0, .int .i64 20, .int .i64 2, .string ⟨#[120, 121]⟩]) (by (apply blk_to; (focus (repeat (first | (with_reducible assumption) | (with_reducible apply blk_drew) | (with_reducible apply blk_set) | ((with_reducible apply blk_other'); (first | (focus (dsimp only; assumption)) | (focus (simp; done)) | (focus (dsimp only; omega)))) | ((with_reducible apply blk_alloc_new); (first | (with_reducible rfl) | (focus (simp; done)) | (focus (simp; omega)))) | (with_reducible apply blk_alloc) | ((with_reducible apply blk_below); (with_reducible assumption))))); rfl)) (fun W' hc => by simp [results, Tryd.results45, go_sem, hc]) rfl ⟨rfl, by (repeat (first | (with_reducible assumption) | (with_reducible exact Below.refl _ _) | (with_reducible refine beld_drew ?_) | ((with_reducible refine bset' ?_ ?_); (first | (focus (dsimp only; assumption)) | (focus (simp; done)) | (focus (dsimp only; omega)))) | (with_reducible refine belt_alloc ?_) | ((with_reducible refine zeroed_below' ?_ ?_); (first | (focus (simp; done)) | (focus (dsimp only; omega)))) | (with_reducible refine bt ?_ (by assumption))))⟩
set_option maxRecDepth 100000 in
theorem bun3_any (w : World) : Calls Tryd.prog 45 #[.int .i64 3] w fun e w' => e = .returned (.agg #[.int .i64 1, .int .u64 3, .int .i64 0, .int .i64 2, .int .i64 2, .int .i64 0, .int .i64 30, .int .i64 2, .string ⟨#[120, 121]⟩]) ∧ Below w.heap.size w w' := by
  go_enter Tryd.func45, Tryd.ntmps45
  go_wp2
  refine ret_blk (b := w.heap.size) (c := #[.int .i64 1, .int .u64 3, .int .i64 0, .int .i64 2, .int .i64 2, .int .i64 0, .int .i64 30, .int .i64 2, .string ⟨#[120, 121]⟩]) (v := .agg #[.int .i64 1, .int .u64 3, .int .i64 0, .int .i64 2, .int .i64 2, .int .i64 0, .int .i64 30, .int .i64 2, .string ⟨#[120, 121]⟩]) (by (apply blk_to; (focus (repeat (first | (with_reducible assumption) | (with_reducible apply blk_drew) | (with_reducible apply blk_set) | ((with_reducible apply blk_other'); (first | (focus (dsimp only; assumption)) | (focus (simp; done)) | (focus (dsimp only; omega)))) | ((with_reducible apply blk_alloc_new); (first | (with_reducible rfl) | (focus (simp; done)) | (focus (simp; omega)))) | (with_reducible apply blk_alloc) | ((with_reducible apply blk_below); (with_reducible assumption))))); rfl)) (fun W' hc => by simp [results, Tryd.results45, go_sem, hc]) rfl ⟨rfl, by (repeat (first | (with_reducible assumption) | (with_reducible exact Below.refl _ _) | (with_reducible refine beld_drew ?_) | ((with_reducible refine bset' ?_ ?_); (first | (focus (dsimp only; assumption)) | (focus (simp; done)) | (focus (dsimp only; omega)))) | (with_reducible refine belt_alloc ?_) | ((with_reducible refine zeroed_below' ?_ ?_); (first | (focus (simp; done)) | (focus (dsimp only; omega)))) | (with_reducible refine bt ?_ (by assumption))))⟩
def T1 : List Itm := [⟨bun 1, 1, 0, 0, 0⟩]
def T2 : List Itm := [⟨bun 1, 1, 0, 0, 0⟩, ⟨bun 2, 1, 0, 0, 1⟩]
def T3 : List Itm := [⟨bun 1, 1, 0, 0, 0⟩, ⟨bun 2, 1, 0, 0, 1⟩, ⟨bun 3, 1, 0, 0, 2⟩]
def X3 : List Itm := [⟨bun 1, 1, 0, 0, 0⟩, ⟨bun 2, 2, 3, 26, 1⟩, ⟨bun 3, 1, 0, 0, 2⟩]
theorem add_1 : addS [] (bun 1) = (T1, 0) := by kernel_rfl
theorem add_2 : addS T1 (bun 2) = (T2, 0) := by kernel_rfl
theorem add_3 : addS T2 (bun 3) = (T3, 0) := by kernel_rfl
theorem size_3 : sizeS T3 = (39, 0) := by kernel_rfl
theorem offer_3 : offerS T3 (1, 2, 0) 3 26 = (X3, 0) := by kernel_rfl
theorem find_3 : findS X3 (1, 2, 0) = (1, 0) := by kernel_rfl
theorem for_3 : forS X3 1 5 = ([0], 0) := by kernel_rfl
theorem bun_da (n : Int) : (bun n).da.size ≤ maxLen := by show 2 ≤ maxLen; unfold maxLen; omega
theorem T1_ok : ∀ x ∈ T1, GdI x := by intro x hx; simp only [T1, List.mem_cons, List.not_mem_nil, or_false] at hx; subst hx; exact ⟨bun_da _, by decide⟩
theorem T2_ok : ∀ x ∈ T2, GdI x := by intro x hx; simp only [T2, List.mem_cons, List.not_mem_nil, or_false] at hx; rcases hx with rfl | rfl <;> exact ⟨bun_da _, by decide⟩
theorem T3_ok : ∀ x ∈ T3, GdI x := by intro x hx; simp only [T3, List.mem_cons, List.not_mem_nil, or_false] at hx; rcases hx with rfl | rfl | rfl <;> exact ⟨bun_da _, by decide⟩
theorem X3_ok : ∀ x ∈ X3, GdI x := by intro x hx; simp only [X3, List.mem_cons, List.not_mem_nil, or_false] at hx; rcases hx with rfl | rfl | rfl <;> exact ⟨bun_da _, by decide⟩
theorem addT1 (a : Option Addr) (cap : Nat) (w : World) (h : SRow itm 13 w a cap []) : Calls Tryd.prog 30 #[.slice a 0 cap, .agg #[.int .i64 1, .int .u64 1, .int .i64 0, .int .i64 2, .int .i64 1, .int .i64 0, .int .i64 10, .int .i64 2, .string ⟨#[120, 121]⟩]] w fun e w' => RetS (T1, 0) w e w' := by
  have := add_any a cap [] (bun 1) (fun x hx => by cases hx) (bun_da _) w h
  rw [add_1] at this
  exact this
theorem addT2 (a : Option Addr) (cap : Nat) (w : World) (h : SRow itm 13 w a cap T1) : Calls Tryd.prog 30 #[.slice a 1 cap, .agg #[.int .i64 1, .int .u64 2, .int .i64 0, .int .i64 2, .int .i64 1, .int .i64 0, .int .i64 20, .int .i64 2, .string ⟨#[120, 121]⟩]] w fun e w' => RetS (T2, 0) w e w' := by
  have := add_any a cap T1 (bun 2) (fun x hx => (T1_ok x hx).1) (bun_da _) w h
  rw [add_2] at this
  exact this
theorem addT3 (a : Option Addr) (cap : Nat) (w : World) (h : SRow itm 13 w a cap T2) : Calls Tryd.prog 30 #[.slice a 2 cap, .agg #[.int .i64 1, .int .u64 3, .int .i64 0, .int .i64 2, .int .i64 2, .int .i64 0, .int .i64 30, .int .i64 2, .string ⟨#[120, 121]⟩]] w fun e w' => RetS (T3, 0) w e w' := by
  have := add_any a cap T2 (bun 3) (fun x hx => (T2_ok x hx).1) (bun_da _) w h
  rw [add_3] at this
  exact this
set_option maxRecDepth 100000 in
set_option maxHeartbeats 1600000 in
theorem three_any (w : World) : Calls Tryd.prog 44 #[] w fun e w' => ∃ g cap, e = .returned (.tuple #[.slice (some ⟨g, 0, none⟩) 3 cap, .bool true]) ∧ SRow itm 13 w' (some ⟨g, 0, none⟩) cap T3 ∧ Below w.heap.size w w' := by
  go_enter Tryd.func44, Tryd.ntmps44
  go_wp2
  refine wp_loop_rounds 4 ?_
  rw [rounds_succ]
  go_wp2_with (first | (go_at_call 45; (with_reducible refine (bun1_any _).mono ?_); rintro e u1 ⟨rfl, hu1⟩; (have bu1 := bt (Below.refl w.heap.size w) hu1)) | (go_at_call 30; (with_reducible refine (addT1 none 0 u1 (srow_nil _)).mono ?_); rintro e w1 ⟨v1, rfl, ho1, hB1⟩; (obtain ⟨g1, cap1, hv1, hS1, hc1, hg1⟩ := owns_full ho1 (by decide)); (have hv1 : v1 = .slice (some ⟨g1, 0, none⟩) 1 cap1 := hv1); subst hv1; (have b1 := bt bu1 hB1); (have c1a : w1.cell? ⟨g1, 12, none⟩ = some (.int .i64 0) := (hc1 0 (by decide) 12 _ rfl)); (have c1b : w1.cell? ⟨g1, 9, none⟩ = some (.int .i64 1) := (hc1 0 (by decide) 9 _ rfl)); (replace hS1 := Lib.hid hS1); clear hc1 ho1 hB1 bu1 hu1))
  rw [rounds_succ]
  go_wp2_with (first | (go_at_call 45; (with_reducible refine (bun2_any _).mono ?_); rintro e u2 ⟨rfl, hu2⟩; (have bu2 := bt (b1) hu2)) | (go_at_call 30; (with_reducible refine (addT2 (some ⟨g1, 0, none⟩) cap1 u2 (hS1.out.below hu2)).mono ?_); rintro e w2 ⟨v2, rfl, ho2, hB2⟩; (obtain ⟨g2, cap2, hv2, hS2, hc2, hg2⟩ := owns_full ho2 (by decide)); (have hv2 : v2 = .slice (some ⟨g2, 0, none⟩) 2 cap2 := hv2); subst hv2; (have b2 := bt bu2 hB2); (have c2a : w2.cell? ⟨g2, 25, none⟩ = some (.int .i64 1) := (hc2 1 (by decide) 12 _ rfl)); (have c2b : w2.cell? ⟨g2, 22, none⟩ = some (.int .i64 1) := (hc2 1 (by decide) 9 _ rfl)); (replace hS2 := Lib.hid hS2); clear hc2 ho2 hB2 bu2 hu2))
  rw [rounds_succ]
  go_wp2_with (first | (go_at_call 45; (with_reducible refine (bun3_any _).mono ?_); rintro e u3 ⟨rfl, hu3⟩; (have bu3 := bt (b2) hu3)) | (go_at_call 30; (with_reducible refine (addT3 (some ⟨g2, 0, none⟩) cap2 u3 (hS2.out.below hu3)).mono ?_); rintro e w3 ⟨v3, rfl, ho3, hB3⟩; (obtain ⟨g3, cap3, hv3, hS3, hc3, hg3⟩ := owns_full ho3 (by decide)); (have hv3 : v3 = .slice (some ⟨g3, 0, none⟩) 3 cap3 := hv3); subst hv3; (have b3 := bt bu3 hB3); (have c3a : w3.cell? ⟨g3, 38, none⟩ = some (.int .i64 2) := (hc3 2 (by decide) 12 _ rfl)); (have c3b : w3.cell? ⟨g3, 35, none⟩ = some (.int .i64 1) := (hc3 2 (by decide) 9 _ rfl)); (replace hS3 := Lib.hid hS3); clear hc3 ho3 hB3 bu3 hu3))
  rw [rounds_succ]
  go_wp2
  go_ret2
  exact ⟨g3, cap3, rfl, hS3.out, b3⟩
set_option maxRecDepth 100000 in
set_option maxHeartbeats 1600000 in
theorem awake_any (w : World) (hH : HTab w) : Calls Tryd.prog 20 #[] w fun e w' => e = .returned (.bool true) ∧ Below w.heap.size w w' := by
  have HH := Lib.hid hH
  clear hH
  have gs : ∀ (g cap : Nat) (W : World), HTab W → SRow itm 13 W (some ⟨g, 0, none⟩) cap T3 → Calls Tryd.prog 36 #[.slice (some ⟨g, 0, none⟩) 3 cap] W fun e w' => e = .returned (.tuple #[.int .u64 39, .int .i64 0]) ∧ Below W.heap.size W w' := fun g cap W h1 h2 => by
    have := size_any (some ⟨g, 0, none⟩) cap T3 T3_ok W h1 h2
    rw [size_3] at this
    exact this
  have go : ∀ (g cap : Nat) (W : World), SRow itm 13 W (some ⟨g, 0, none⟩) cap T3 → Calls Tryd.prog 38 #[.slice (some ⟨g, 0, none⟩) 3 cap, .agg #[.int .i64 1, .int .u64 2, .int .i64 0], .int .i64 3, .int .u64 26] W fun e w' => RetS (X3, 0) W e w' := fun g cap W h2 => by
    have := offer_any (some ⟨g, 0, none⟩) cap T3 (1, 2, 0) 3 26 (fun x hx => (T3_ok x hx).1) W h2
    rw [offer_3] at this
    exact this
  have gf : ∀ (g cap : Nat) (W : World), SRow itm 13 W (some ⟨g, 0, none⟩) cap X3 → Calls Tryd.prog 34 #[.slice (some ⟨g, 0, none⟩) 3 cap, .agg #[.int .i64 1, .int .u64 2, .int .i64 0]] W fun e w' => e = .returned (.tuple #[.int .i64 1, .int .i64 0]) ∧ Below W.heap.size W w' := fun g cap W h2 => by
    have := sFind_any (some ⟨g, 0, none⟩) cap X3 (1, 2, 0) (fun x hx => (X3_ok x hx).1) W h2
    rw [find_3] at this
    exact this
  have gr : ∀ (g cap : Nat) (W : World), SRow itm 13 W (some ⟨g, 0, none⟩) cap X3 → Calls Tryd.prog 24 #[.slice (some ⟨g, 0, none⟩) 3 cap, .int .i64 1, .int .i64 5] W fun e w' => RetN ([0], 0) W e w' := fun g cap W h2 => by
    have := for_any (some ⟨g, 0, none⟩) cap X3 1 5 (fun x hx => (X3_ok x hx).1) (by decide) W h2
    rw [for_3] at this
    exact this
  have gz : ∀ (a : Option Addr) (cap : Nat) (W : World), SRow ic 1 W a cap [0] → Calls Tryd.prog 26 #[.slice a 1 cap, .slice (some ⟨W.heap.size, 0, none⟩) 1 1] (W.alloc (.cells #[.int .i64 0] 3)) fun e w' => e = .returned (.bool true) ∧ Below W.heap.size W w' := fun a cap W h => by
    have hb : Below W.heap.size W (W.alloc (.cells #[.int .i64 0] 3)) := (Below.refl _ _).alloc (Nat.le_refl _) _
    have := sameZ_any a (some ⟨W.heap.size, 0, none⟩) cap 1 [0] [0] (by decide) (by decide) (W.alloc (.cells #[.int .i64 0] 3)) (h.below hb) ⟨by decide, by unfold maxLen; omega, (fun h => by cases h), fun _ => ⟨W.heap.size, 0, rfl, by simp, fun i hi => by
      obtain rfl : i = 0 := by simpa using hi
      exact range_of_blk (blk_alloc_new _ _ _ rfl) 0 (ic 0) rfl⟩⟩
    exact this.mono (fun e w' h => ⟨h.1, bta h.2⟩)
  replace gs := Lib.hid gs; replace go := Lib.hid go; replace gf := Lib.hid gf; replace gr := Lib.hid gr; replace gz := Lib.hid gz
  have ef : ∀ W, Sem.run Tryd.prog (Instr.field 28 (.agg #[.int .i64 1, .int .u64 2, .int .i64 0, .int .i64 2, .int .i64 1, .int .i64 0, .int .i64 20, .int .i64 2, .string ⟨#[120, 121]⟩]) 0) W = .ok (.agg #[.int .i64 1, .int .u64 2, .int .i64 0]) W := fun W => by kernel_rfl
  go_enter Tryd.func20, Tryd.ntmps20
  go_upto_region 8 with (first
    | (go_at_call 44; (with_reducible refine (three_any _).mono ?_); rintro e w1 ⟨g, cap, rfl, hS1, b1⟩)
    | (go_at_call 36; (with_reducible refine (gs.out g cap w1 (HH.out.on b1) hS1).mono ?_); rintro e w2 ⟨rfl, h2⟩; (have b2 := bt b1 h2); (have hS2 := hS1.below h2); clear h2 hS1 b1)
    | (go_at_call 45; first
        | (with_reducible refine (bun2_any w2).mono ?_; rintro e w3 ⟨rfl, h3⟩; (have b3 := bt b2 h3); (have hS3 := hS2.below h3); clear h3 hS2 b2)
        | (with_reducible refine (bun2_any w4).mono ?_; rintro e w5 ⟨rfl, h5⟩; (have b5 := bt b4 h5); (have hX5 := hX4.below h5); (have hc5 := h5); clear h5 hX4 b4))
    | (go_at_call 38; (with_reducible refine (go.out g cap w3 hS3).mono ?_); rintro e w4 ⟨v4, rfl, ho4, h4⟩; (obtain ⟨g4, cap4, hv4, hX4, hc4, hg4⟩ := owns_full ho4 (by decide)); (have hv4 : v4 = .slice (some ⟨g4, 0, none⟩) 3 cap4 := hv4); subst hv4; (have b4 := bt b3 h4); (have d1 : w4.cell? ⟨g4, 22, none⟩ = some (.int .i64 2) := (hc4 1 (by decide) 9 _ rfl)); (have d2 : w4.cell? ⟨g4, 23, none⟩ = some (.int .i64 3) := (hc4 1 (by decide) 10 _ rfl)); (have d3 : w4.cell? ⟨g4, 24, none⟩ = some (.int .u64 26) := (hc4 1 (by decide) 11 _ rfl)); (replace d1 := Lib.hid d1); (replace d2 := Lib.hid d2); (replace d3 := Lib.hid d3); clear h4 hS3 b3 hc4 ho4)
    | (go_at_call 34; (with_reducible refine (gf.out g4 cap4 w5 hX5).mono ?_); rintro e w6 ⟨rfl, h6⟩; (have b6 := bt b5 h6); (have hX6 := hX5.below h6); (have hc6 := hc5.trans (h6.mono hc5.size)); clear h6 hX5 b5 hc5)
    | (go_at_call 24; (with_reducible refine (gr.out g4 cap4 w6 hX6).mono ?_); rintro e w7 ⟨a7, cap7, rfl, hr7, h7⟩; (have b7 := bt b6 h7); (have hc7 := hc6.trans (h7.mono hc6.size)); clear h7 hX6 b6 hc6))
  have e1 := (hc7.cell (p := ⟨g4, 22, none⟩) hg4).trans d1.out
  have e2 := (hc7.cell (p := ⟨g4, 23, none⟩) hg4).trans d2.out
  have e3 := (hc7.cell (p := ⟨g4, 24, none⟩) hg4).trans d3.out
  have g8 := Lib.hid (gz.out a7 cap7 w7 hr7)
  clear hc7 hr7 hg4
  go_wp2_with (go_at_call 26; (with_reducible refine (g8.out).mono ?_); rintro e w8 ⟨rfl, h8⟩)
  go_ret
  exact ⟨rfl, bt b7 h8⟩
end Go.Proofs.YtahopnlibmiafaaDoor
