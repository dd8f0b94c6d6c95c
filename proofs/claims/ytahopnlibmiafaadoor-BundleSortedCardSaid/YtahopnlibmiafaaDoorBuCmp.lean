/- Comparing: cmp.Compare, cmp.Or, and the comparison of IDs. -/
import Derived.Test.YtahopnlibmiafaaDoorBuCheck
import Derived.Test.YtahopnlibmiafaaDoorReg
namespace Go.Proofs.YtahopnlibmiafaaDoor
set_option linter.unusedVariables false
open Go.RowKit
def cmp3 (a b : Int) : Int := if a < b then -1 else if b < a then 1 else 0
set_option maxRecDepth 100000 in
theorem cmpInt_any (a b : Int) (w : World) : Calls Tryd.prog 91 #[.int .i64 a, .int .i64 b] w fun e w' => e = .returned (.int .i64 (cmp3 a b)) ∧ w = w' := by
  unfold cmp3
  by_cases h1 : a < b
  · rw [if_pos h1]
    go_enter Tryd.func91, Tryd.ntmps91
    go_wp2
    go_ret
    exact ⟨rfl, rfl⟩
  · rw [if_neg h1]
    by_cases h2 : b < a
    · rw [if_pos h2]
      go_enter Tryd.func91, Tryd.ntmps91
      go_wp2
      go_ret
      exact ⟨rfl, rfl⟩
    · rw [if_neg h2]
      go_enter Tryd.func91, Tryd.ntmps91
      go_wp2
      go_ret
      exact ⟨rfl, rfl⟩
set_option maxRecDepth 100000 in
theorem cmpNat_any (a b : Int) (w : World) : Calls Tryd.prog 92 #[.int .u64 a, .int .u64 b] w fun e w' => e = .returned (.int .i64 (cmp3 a b)) ∧ w = w' := by
  unfold cmp3
  by_cases h1 : a < b
  · rw [if_pos h1]
    go_enter Tryd.func92, Tryd.ntmps92
    go_wp2
    go_ret
    exact ⟨rfl, rfl⟩
  · rw [if_neg h1]
    by_cases h2 : b < a
    · rw [if_pos h2]
      go_enter Tryd.func92, Tryd.ntmps92
      go_wp2
      go_ret
      exact ⟨rfl, rfl⟩
    · rw [if_neg h2]
      go_enter Tryd.func92, Tryd.ntmps92
      go_wp2
      go_ret
      exact ⟨rfl, rfl⟩
/-- The first that is not 0. -/
def orL : List Int → Int
  | [] => 0
  | x :: l => if x ≠ 0 then x else orL l
theorem orL_at (l : List Int) (k : Nat) (hk : k < l.length) (h0 : ∀ j (hj : j < l.length), j < k → l[j] = 0) (h : l[k] ≠ 0) : orL l = l[k] := by
  induction l generalizing k with
  | nil => simp at hk
  | cons x l ih =>
    cases k with
    | zero => simp [orL] at h ⊢; intro hx; exact absurd hx h
    | succ k =>
      have h1 : x = 0 := h0 0 (by simp) (by omega)
      subst h1
      simp only [orL, ne_eq, not_true_eq_false, if_false, List.getElem_cons_succ]
      exact ih k (by simpa using hk) (fun j hj hjk => by have := h0 (j + 1) (by simpa using hj) (by omega); rwa [List.getElem_cons_succ] at this) (by simpa using h)
theorem orL_none {l : List Int} (h0 : ∀ j (hj : j < l.length), l[j] = 0) : orL l = 0 := by
  induction l with
  | nil => rfl
  | cons x l ih =>
    have h1 : x = 0 := h0 0 (by simp)
    subst h1
    simp only [orL, ne_eq, not_true_eq_false, if_false]
    exact ih fun j hj => by have := h0 (j + 1) (by simpa using hj); rwa [List.getElem_cons_succ] at this

set_option maxRecDepth 100000 in
set_option maxHeartbeats 800000 in
theorem or_any (b cap : Nat) (l : List Int) (w : World) (hl : l.length ≤ 100) (hcap : l.length ≤ cap) (hcap2 : cap ≤ 1000) (hb : blk w b = some (l.map (Value.int .i64)).toArray) :
    Calls Tryd.prog 90 #[.slice (some ⟨b, 0, none⟩) l.length cap] w fun e w' => e = .returned (.int .i64 (orL l)) ∧ w = w' := by
  have hc : ∀ k (hk : k < l.length), w.cell? ⟨b, k, none⟩ = some (.int .i64 l[k]) := fun k hk => (blk_cell hb k).trans (by simp [hk])
  have Hc := Lib.hid hc; clear hc hb
  have At := Lib.hid (orL_at l)
  have None := Lib.hid (@orL_none l)
  obtain ⟨R, hR⟩ : ∃ R, R = orL l := ⟨_, rfl⟩
  rw [← hR]
  have HR := Lib.hid hR; clear hR
  go_enter Tryd.func90, Tryd.ntmps90
  go_wp2
  go_loop [8] (fun i => ∃ k : Nat, i = .int .i64 k ∧ k ≤ l.length ∧ ∀ j (hj : j < l.length), j < k → l[j] = 0) (fun i => l.length - (intOf i).toNat)
  case atStart => exact ⟨0, rfl, by omega, fun j hj h => absurd h (by omega)⟩
  case round =>
    obtain ⟨k, rfl, hk, hz⟩ := hrel
    have Hz := Lib.hid hz; clear hz
    by_cases hlt : k < l.length
    · have hk1 := Hc.out k hlt
      obtain ⟨V, hV⟩ : ∃ V, l[k] = V := ⟨_, rfl⟩
      rw [hV] at hk1
      have HV := Lib.hid hV; clear hV
      by_cases h0 : V = 0
      · have h0' : (V != 0) = false := by simp [h0]
        have H0 := Lib.hid h0; clear h0
        go_wp2
        go_round
        case rel =>
          refine ⟨k + 1, by go_num, by omega, fun j hj h => ?_⟩
          by_cases e : j = k
          · subst e; rw [HV.out, H0.out]
          · exact Hz.out j hj (by omega)
        case measure => simp [intOf]; omega
      · have h0' : (V != 0) = true := by simp [h0]
        go_wp2
        go_ret
        exact ⟨ret_int (by rw [HR.out, At.out k hlt Hz.out (by rw [HV.out]; exact h0), HV.out]), rfl⟩
    · obtain rfl : k = l.length := by omega
      go_wp2
      go_ret
      exact ⟨ret_int (by rw [HR.out]; exact (None.out fun j hj => Hz.out j hj hj).symm), rfl⟩

/-- The comparison of two IDs. -/
def cmpI (no sq of no' sq' of' : Int) : Int := orL [cmp3 no no', cmp3 sq sq', cmp3 of of']
theorem or3 (x y z r : Int) (hr : orL [x, y, z] = r) (b cap : Nat) (W : World) (hcap : cap = 3) (hb : blk W b = some #[.int .i64 x, .int .i64 y, .int .i64 z]) :
    Calls Tryd.prog 90 #[.slice (some ⟨b, 0, none⟩) 3 cap] W fun e w' => e = .returned (.int .i64 r) ∧ W = w' := by
  subst hcap; rw [← hr]; exact or_any b 3 [x, y, z] W (by simp) (by simp) (by simp) hb
set_option maxRecDepth 100000 in
set_option maxHeartbeats 800000 in
theorem compare_any (no sq of no' sq' of' : Int) (w : World) :
    Calls Tryd.prog 53 #[idv no sq of, idv no' sq' of'] w fun e w' => e = .returned (.int .i64 (cmpI no sq of no' sq' of')) ∧ Below w.heap.size w w' := by
  obtain ⟨r, hr⟩ : ∃ r, cmpI no sq of no' sq' of' = r := ⟨_, rfl⟩
  rw [hr]
  have g4 := Lib.hid (or3 _ _ _ r hr); clear hr
  go_enter Tryd.func53, Tryd.ntmps53
  go_wp2
  refine wp_region_tail 15 (by kernel_rfl) (by kernel_rfl) ?_
  intro W0_1 hE_1 hN_1
  have bW0_1 : Below w.heap.size w W0_1 := (by rw [hE_1.out]; (repeat (first | (with_reducible assumption) | (with_reducible exact Below.refl _ _) | (with_reducible refine beld_drew ?_) | ((with_reducible refine bset' ?_ ?_); (first | (focus (dsimp only; assumption)) | (focus (simp; done)) | (focus (dsimp only; omega)))) | (with_reducible refine belt_alloc ?_) | ((with_reducible refine zeroed_below' ?_ ?_); (first | (focus (simp; done)) | (focus (dsimp only; omega)))) | (with_reducible refine bt ?_ (by assumption)))))
  have kk2 : blk W0_1 (w.heap.size) = some #[.int .i64 no, .int .u64 sq, .int .i64 of] := (by rw [hE_1.out]; (apply blk_to; (focus (repeat (first | (with_reducible assumption) | (with_reducible apply blk_drew) | (with_reducible apply blk_set) | ((with_reducible apply blk_other'); (first | (focus (dsimp only; assumption)) | (focus (simp; done)) | (focus (dsimp only; omega)))) | ((with_reducible apply blk_alloc_new); (first | (with_reducible rfl) | (focus (simp; done)) | (focus (simp; omega)))) | (with_reducible apply blk_alloc) | ((with_reducible apply blk_below); (with_reducible assumption))))); rfl))
  have kn2 := calm_kn kk2
  have kk3 : blk W0_1 (w.heap.size + 1) = some #[.int .i64 no', .int .u64 sq', .int .i64 of'] := (by rw [hE_1.out]; (apply blk_to; (focus (repeat (first | (with_reducible assumption) | (with_reducible apply blk_drew) | (with_reducible apply blk_set) | ((with_reducible apply blk_other'); (first | (focus (dsimp only; assumption)) | (focus (simp; done)) | (focus (dsimp only; omega)))) | ((with_reducible apply blk_alloc_new); (first | (with_reducible rfl) | (focus (simp; done)) | (focus (simp; omega)))) | (with_reducible apply blk_alloc) | ((with_reducible apply blk_below); (with_reducible assumption))))); rfl))
  have kn3 := calm_kn kk3
  clear hE_1
  simp only [List.take_succ_cons, List.take_zero, List.drop_succ_cons, List.drop_zero]
  repeat (go_big_quiet_step ((first | (go_at_call 91; exact Class.same _ (cmpInt_any _ _ _)) | (go_at_call 92; exact Class.same _ (cmpNat_any _ _ _)))))
  refine wpQuiet_nil ?_
  rintro _ ⟨x_1, rfl⟩
  have hx_1 : Calm W0_1 x_1.wd := x_1.ok
  have bwn : Below w.heap.size w x_1.wd := bt bW0_1 hx_1
  clear kn2; replace kk2 := blk_below hx_1 kk2; have kn2 := kn kk2
  clear kn3; replace kk3 := blk_below hx_1 kk3; have kn3 := kn kk3
  clear hx_1 bW0_1 hN_1
  generalize x_1.wd = wn at *
  go_wp2_with (go_at_call 90; (with_reducible refine (g4.out _ _ _ rfl (blk_alloc_new _ _ _ (by simp))).mono ?_); rintro e wx ⟨rfl, rfl⟩)
  go_ret
  exact ⟨rfl, by (repeat (first | (with_reducible assumption) | (with_reducible exact Below.refl _ _) | (with_reducible refine beld_drew ?_) | ((with_reducible refine bset' ?_ ?_); (first | (focus (dsimp only; assumption)) | (focus (simp; done)) | (focus (dsimp only; omega)))) | (with_reducible refine belt_alloc ?_) | ((with_reducible refine zeroed_below' ?_ ?_); (first | (focus (simp; done)) | (focus (dsimp only; omega)))) | (with_reducible refine bt ?_ (by assumption))))⟩
end Go.Proofs.YtahopnlibmiafaaDoor
