/- Parts of a proof, printed by a program of mine out of my texts: StMade. -/
import Derived.Test.YtahopnlibmiafaaDoorMKitMod
import Derived.Test.YtahopnlibmiafaaDoorMSlice
import Derived.Test.YtahopnlibmiafaaDoorMW
set_option linter.unusedSimpArgs false
set_option linter.unusedVariables false
namespace Go.Proofs.YtahopnlibmiafaaDoor
open Go.RowKit
def mkI (k : Int) (i : Nat) : Itm := ⟨⟨1 + k % 3, i, 0, 4, k / 3 % 3, k / 9 % 4, 1 + k / 36 % 9, 1 + k % 5, ⟨#[120]⟩⟩, if k / 324 % 3 = 0 then 2 else 1, if k / 324 % 3 = 0 then 1 + k / 972 % 4 else 0, if k / 324 % 3 = 0 then k else 0, 3 * (i : Int) + k % 3⟩
def mkL (zs : List Int) (n : Nat) : List Itm := (List.range n).map fun i => mkI (zs.getD i 0 % 1048576) i
theorem mkL_length (zs : List Int) (n : Nat) : (mkL zs n).length = n := by simp [mkL]
theorem mkL_succ (zs : List Int) (n : Nat) : mkL zs (n + 1) = mkL zs n ++ [mkI (zs.getD n 0 % 1048576) n] := by simp [mkL, List.range_succ]
theorem mkL_at {zs : List Int} {n i : Nat} (h : i < (mkL zs n).length) : (mkL zs n)[i] = mkI (zs.getD i 0 % 1048576) i := by simp [mkL]
theorem mkL_take {zs : List Int} {n i : Nat} (h : i ≤ n) : (mkL zs n).take i = mkL zs i := by
  unfold mkL
  rw [← List.map_take, List.take_range, Nat.min_eq_left h]
theorem mkI_v (z : Int) (i : Nat) (hi : i < 12) : itE (mkI (z % 1048576) i) = 0 := by
  have h0 := Int.emod_nonneg z (show (1048576 : Int) ≠ 0 by decide)
  have h1 := Int.emod_lt_of_pos z (show (0 : Int) < 1048576 by decide)
  generalize z % 1048576 = k at h0 h1
  have hb : bcode (mkI k i).b = 0 := (by
    unfold bcode mkI
    simp only
    have hI : okI (1 + k % 3) i 0 := (by unfold okI; omega)
    have hN : okN 4 (k / 3 % 3) (k / 9 % 4) (1 + k / 36 % 9) (1 + k % 5) := (by unfold okN; omega)
    rcases buC_cases (1 + k % 3) i 0 4 (k / 3 % 3) (k / 9 % 4) (1 + k / 36 % 9) (1 + k % 5) (⟨#[120]⟩ : ByteArray).size with h | h | h | h | h | h
    · exact absurd hI h.2
    · exact absurd hN h.2.2
    · exfalso; have h9 := h.2.2.2; have : (⟨#[120]⟩ : ByteArray).size = 1 := rfl; omega
    · exfalso; have h9 := h.2.2.2.2; have : (⟨#[120]⟩ : ByteArray).size = 1 := rfl; omega
    · exfalso; have h9 := h.2.2.2.2.2; have : (⟨#[120]⟩ : ByteArray).size = 1 := rfl; omega
    · exact h.1)
  unfold itE
  rw [if_neg (by rw [hb]; simp)]
  unfold mkI
  simp only
  by_cases c : k / 324 % 3 = 0
  · simp only [c, if_true]
    rw [if_neg (by omega), if_neg (by omega), if_neg (by omega), if_neg (by omega)]
  · simp only [c, if_false]
    rw [if_neg (by omega), if_neg (by omega), if_neg (by omega), if_neg (by omega)]
theorem mkI_od (z : Int) (i : Nat) : 3 * (i : Int) ≤ (mkI (z % 1048576) i).od ∧ (mkI (z % 1048576) i).od ≤ 3 * (i : Int) + 2 := by
  show 3 * (i : Int) ≤ 3 * (i : Int) + z % 1048576 % 3 ∧ 3 * (i : Int) + z % 1048576 % 3 ≤ _
  omega
theorem mkL_v (zs : List Int) (n : Nat) (hn : n ≤ 12) : StV (mkL zs n) := by
  refine ⟨by rw [mkL_length]; omega, fun j hj => ?_⟩
  rw [mkL_length] at hj
  rw [fltS_at (by rw [mkL_length]; exact hj), mkL_at, mkL_take (by omega)]
  unfold itF
  rw [if_neg (by rw [mkI_v _ _ (by omega)]; simp)]
  rw [if_neg, if_neg]
  · intro hm
    obtain ⟨x, hx, e⟩ := List.mem_map.1 hm
    obtain ⟨i, hi, rfl⟩ := List.getElem_of_mem hx
    rw [mkL_at] at e
    rw [mkL_length] at hi
    have := (Prod.mk.inj (Prod.mk.inj e).2).1
    have h9 : (i : Int) = j := this
    omega
  · cases j with
    | zero => simp [mkL]
    | succ j =>
      rw [mkL_succ, List.getLast?_append]
      simp only [List.getLast?_singleton, Option.some_or, Option.elim_some, decide_eq_true_eq]
      have h1 := mkI_od (zs.getD (j + 1) 0) (j + 1)
      have h2 := mkI_od (zs.getD j 0) j
      omega
theorem mkL_gd (zs : List Int) (n : Nat) : ∀ x ∈ mkL zs n, GdI x := by
  intro x hx
  obtain ⟨i, hi, rfl⟩ := List.getElem_of_mem hx
  rw [mkL_at]
  exact ⟨show 1 ≤ maxLen by unfold maxLen; omega, show (0 : Int) ≤ i by omega⟩
theorem wp_freshM {P : Program} {cd : Code} {Q : Exit → Act → World → Prop} {a : Act} {W w0 w1 : World} {B B1 : Nat} (b : Nat) (c : Array Value) (h1 : blk W b = some c) (hB : Below B w0 W) (hB1 : Below B1 w1 W)
    (h : ∀ w', blk w' b = some c → Below B w0 w' → Below B1 w1 w' → cd.wp P Q a w') : cd.wp P Q a W := h W h1 hB hB1
set_option maxRecDepth 100000 in
set_option maxHeartbeats 3200000 in
theorem made_any (a : Option Addr) (cap : Nat) (zs : List Int) (w : World) (hrow : Row .i64 w a cap zs) :
    Calls Tryd.prog 46 #[.slice a zs.length cap] w fun e w' => ∃ v n, e = .returned v ∧ n ≤ 12 ∧ w'.ownsRow w.heap.size 67 13 v n (rowC itm (mkL zs n)) ∧ Below w.heap.size w w' := by
  obtain ⟨i2, hi', hz0', hz1', hz2'⟩ := info_parts infoIt
  have Hj := Lib.hid hi'; have Hy0 := Lib.hid hz0'; have Hy1 := Lib.hid hz1'; have Hy2 := Lib.hid hz2'
  clear hi' hz0' hz1' hz2'
  have HR := Lib.hid hrow
  have hz2 := hrow.2.1
  have hz1 := hrow.1
  unfold maxLen at hz2
  clear hrow
  go_enter Tryd.func46, Tryd.ntmps46
  go_wp2
  go_loopw [3, 4] (fun o i wr => ∃ n : Nat, i = .int .i64 n ∧ n ≤ 12 ∧ n ≤ zs.length ∧ Below w.heap.size w wr ∧ Hid (wr.ownsRow w.heap.size 67 13 o n (rowC itm (mkL zs n)))) (fun _ i _ => 12 - (intOf i).toNat)
  case atStart => exact ⟨0, rfl, by omega, by omega, Below.refl _ _, Lib.hid (by simpa [rowC, mkL] using World.ownsRow_nil w _ _ _)⟩
  case round =>
    obtain ⟨n, rfl, h20, hlz, hB, hq⟩ := hrel
    by_cases hz : n < zs.length
    · have t1 : decide ((n : Int) < (zs.length : Int)) = true := decide_eq_true (by omega)
      have l1 : (n : Int) < (zs.length : Int) := by omega
      by_cases ht : n < 12
      · have t2 : decide ((n : Int) < 12) = true := decide_eq_true (by omega)
        obtain ⟨b, off, rfl, hbl, hc⟩ := (HR.out.below hB).2.2.2.2 (by omega)
        have h1 := hc n hz
        clear hc
        obtain ⟨z, hzz⟩ : ∃ z, z = zs[n] := ⟨_, rfl⟩
        rw [← hzz] at h1
        have HZ := Lib.hid hzz
        clear hzz
        have hb := Lib.hid (fun w => mod_any z 1048576 w (by decide) (by decide))
        have k0 := Int.emod_nonneg z (show (1048576 : Int) ≠ 0 by decide)
        have k1 := Int.emod_lt_of_pos z (show (0 : Int) < 1048576 by decide)
        have m1 : IntKind.u64.wrap (n : Int) = n := IntWalk.u64_in _ (by omega)
        obtain ⟨k, hk⟩ : ∃ k, z % 1048576 = k := ⟨_, rfl⟩
        have HK := Lib.hid hk
        rw [hk] at hb k0 k1
        clear hk
        have m2 : IntKind.u64.wrap k = k := IntWalk.u64_in _ (by omega)
        have szr := hB.size
        have hgd : zs.getD n 0 = z := (by rw [List.getD_eq_getElem?_getD, List.getElem?_eq_getElem hz, HZ.out]; rfl)
        have hML : mkL zs (n + 1) = mkL zs n ++ [mkI k n] := (by rw [mkL_succ, hgd, HK.out])
        have HML := Lib.hid hML
        clear hgd hML
        have ln := Lib.hid (mkL_length zs n)
        by_cases c : k / 324 % 3 = 0
        · have xe : mkI k n = ⟨⟨1 + k % 3, n, 0, 4, k / 3 % 3, k / 9 % 4, 1 + k / 36 % 9, 1 + k % 5, ⟨#[120]⟩⟩, 2, 1 + k / 972 % 4, k, 3 * (n : Int) + k % 3⟩ := (by unfold mkI; simp only [c, if_true, if_false])
          have XE := Lib.hid xe
          clear xe
          go_upto_region 12 with (go_at_call 47; (with_reducible refine (hb.out _).mono ?_); rintro e wx ⟨rfl, rfl⟩)
          refine wp_freshM (wr.heap.size + 1) #[.int .i64 (1 + k % 3), .int .u64 n, .int .i64 0, .int .i64 4, .int .i64 (k / 3 % 3), .int .i64 (k / 9 % 4), .int .i64 (1 + k / 36 % 9), .int .i64 (1 + k % 5), .string ⟨#[120]⟩, .int .i64 2, .int .i64 (1 + k / 972 % 4), .int .u64 k, .int .i64 (3 * (n : Int) + k % 3)] (by (apply blk_to; (focus (repeat (first | (with_reducible assumption) | (with_reducible apply blk_drew) | (with_reducible apply blk_set) | ((with_reducible apply blk_other'); (first | (focus (dsimp only; assumption)) | (focus (simp; done)) | (focus (dsimp only; omega)))) | ((with_reducible apply blk_alloc_new); (first | (with_reducible rfl) | (focus (simp; done)) | (focus (simp; omega)))) | (with_reducible apply blk_alloc) | ((with_reducible apply blk_below); (with_reducible assumption))))); rfl)) (by (repeat (first | (with_reducible assumption) | (with_reducible exact Below.refl _ _) | (with_reducible refine beld_drew ?_) | ((with_reducible refine bset' ?_ ?_); (first | (focus (dsimp only; assumption)) | (focus (simp; done)) | (focus (dsimp only; omega)))) | (with_reducible refine belt_alloc ?_) | ((with_reducible refine zeroed_below' ?_ ?_); (first | (focus (simp; done)) | (focus (dsimp only; omega)))) | (with_reducible refine bt ?_ (by assumption)))) : Below w.heap.size w _) (by (repeat (first | (with_reducible assumption) | (with_reducible exact Below.refl _ _) | (with_reducible refine beld_drew ?_) | ((with_reducible refine bset' ?_ ?_); (first | (focus (dsimp only; assumption)) | (focus (simp; done)) | (focus (dsimp only; omega)))) | (with_reducible refine belt_alloc ?_) | ((with_reducible refine zeroed_below' ?_ ?_); (first | (focus (simp; done)) | (focus (dsimp only; omega)))) | (with_reducible refine bt ?_ (by assumption)))) : Below wr.heap.size wr _) ?_
          intro w2 kb2 hb2 hr2
          have nb2 := kn kb2
          have ho2 := Lib.hid (owns_belowS hq.out hr2)
          have sw2 := hb2.size
          go_wp2_with (at_builtin; refine wpList_append_struct (enc := itm) rfl _ _ 39 rfl w.heap.size 67 i2 (.agg #[.int .i64 0, .int .u64 0, .int .i64 0, .int .i64 0, .int .i64 0, .int .i64 0, .int .i64 0, .int .i64 0, .string ⟨#[]⟩, .int .i64 0, .int .i64 0, .int .u64 0, .int .i64 0]) 13 112 Tryd.underlying39 Hj.out Hy0.out Hy1.out Hy2.out rfl (by decide) itm_len itm_one _ (mkL zs n) rfl (by rw [ln.out]; exact ho2.out.alloc _) w2.heap.size 1 ⟨⟨1 + k % 3, n, 0, 4, k / 3 % 3, k / 9 % 4, 1 + k / 36 % 9, 1 + k % 5, ⟨#[120]⟩⟩, 2, 1 + k / 972 % 4, k, 3 * (n : Int) + k % 3⟩ rfl (blk_alloc_new _ _ _ rfl) (by rw [ln.out]; unfold maxLen; omega) (by rw [ln.out]; omega) (by simp; omega) ?_; intro v' wb hown2 hgrow2)
          have hB3 : Below w.heap.size w wb := (hb2.alloc hb2.size _).grown hgrow2 (by simp; omega) (fun k e => (ho2.out.lt k e).1)
          replace hown2 := Lib.hid hown2
          go_wp2
          go_roundw
          case rel => exact ⟨n + 1, by go_num, by omega, by omega, hB3, Lib.hid (by have h9 := hown2.out; rw [← XE.out, ← HML.out, mkL_length] at h9; exact h9)⟩
          case measure => simp [intOf]; omega
        · have xe : mkI k n = ⟨⟨1 + k % 3, n, 0, 4, k / 3 % 3, k / 9 % 4, 1 + k / 36 % 9, 1 + k % 5, ⟨#[120]⟩⟩, 1, 0, 0, 3 * (n : Int) + k % 3⟩ := (by unfold mkI; simp only [c, if_true, if_false])
          have XE := Lib.hid xe
          clear xe
          go_upto_region 12 with (go_at_call 47; (with_reducible refine (hb.out _).mono ?_); rintro e wx ⟨rfl, rfl⟩)
          refine wp_freshM (wr.heap.size + 1) #[.int .i64 (1 + k % 3), .int .u64 n, .int .i64 0, .int .i64 4, .int .i64 (k / 3 % 3), .int .i64 (k / 9 % 4), .int .i64 (1 + k / 36 % 9), .int .i64 (1 + k % 5), .string ⟨#[120]⟩, .int .i64 1, .int .i64 0, .int .u64 0, .int .i64 (3 * (n : Int) + k % 3)] (by (apply blk_to; (focus (repeat (first | (with_reducible assumption) | (with_reducible apply blk_drew) | (with_reducible apply blk_set) | ((with_reducible apply blk_other'); (first | (focus (dsimp only; assumption)) | (focus (simp; done)) | (focus (dsimp only; omega)))) | ((with_reducible apply blk_alloc_new); (first | (with_reducible rfl) | (focus (simp; done)) | (focus (simp; omega)))) | (with_reducible apply blk_alloc) | ((with_reducible apply blk_below); (with_reducible assumption))))); rfl)) (by (repeat (first | (with_reducible assumption) | (with_reducible exact Below.refl _ _) | (with_reducible refine beld_drew ?_) | ((with_reducible refine bset' ?_ ?_); (first | (focus (dsimp only; assumption)) | (focus (simp; done)) | (focus (dsimp only; omega)))) | (with_reducible refine belt_alloc ?_) | ((with_reducible refine zeroed_below' ?_ ?_); (first | (focus (simp; done)) | (focus (dsimp only; omega)))) | (with_reducible refine bt ?_ (by assumption)))) : Below w.heap.size w _) (by (repeat (first | (with_reducible assumption) | (with_reducible exact Below.refl _ _) | (with_reducible refine beld_drew ?_) | ((with_reducible refine bset' ?_ ?_); (first | (focus (dsimp only; assumption)) | (focus (simp; done)) | (focus (dsimp only; omega)))) | (with_reducible refine belt_alloc ?_) | ((with_reducible refine zeroed_below' ?_ ?_); (first | (focus (simp; done)) | (focus (dsimp only; omega)))) | (with_reducible refine bt ?_ (by assumption)))) : Below wr.heap.size wr _) ?_
          intro w2 kb2 hb2 hr2
          have nb2 := kn kb2
          have ho2 := Lib.hid (owns_belowS hq.out hr2)
          have sw2 := hb2.size
          go_wp2_with (at_builtin; refine wpList_append_struct (enc := itm) rfl _ _ 39 rfl w.heap.size 67 i2 (.agg #[.int .i64 0, .int .u64 0, .int .i64 0, .int .i64 0, .int .i64 0, .int .i64 0, .int .i64 0, .int .i64 0, .string ⟨#[]⟩, .int .i64 0, .int .i64 0, .int .u64 0, .int .i64 0]) 13 112 Tryd.underlying39 Hj.out Hy0.out Hy1.out Hy2.out rfl (by decide) itm_len itm_one _ (mkL zs n) rfl (by rw [ln.out]; exact ho2.out.alloc _) w2.heap.size 1 ⟨⟨1 + k % 3, n, 0, 4, k / 3 % 3, k / 9 % 4, 1 + k / 36 % 9, 1 + k % 5, ⟨#[120]⟩⟩, 1, 0, 0, 3 * (n : Int) + k % 3⟩ rfl (blk_alloc_new _ _ _ rfl) (by rw [ln.out]; unfold maxLen; omega) (by rw [ln.out]; omega) (by simp; omega) ?_; intro v' wb hown2 hgrow2)
          have hB3 : Below w.heap.size w wb := (hb2.alloc hb2.size _).grown hgrow2 (by simp; omega) (fun k e => (ho2.out.lt k e).1)
          replace hown2 := Lib.hid hown2
          go_wp2
          go_roundw
          case rel => exact ⟨n + 1, by go_num, by omega, by omega, hB3, Lib.hid (by have h9 := hown2.out; rw [← XE.out, ← HML.out, mkL_length] at h9; exact h9)⟩
          case measure => simp [intOf]; omega
      · have t2 : decide ((n : Int) < 12) = false := decide_eq_false (by omega)
        go_wp2
        go_ret
        exact ⟨_, n, rfl, h20, hq.out, hB⟩
    · have t1 : decide ((n : Int) < (zs.length : Int)) = false := decide_eq_false (by omega)
      go_wp2
      go_ret
      exact ⟨_, n, rfl, h20, hq.out, hB⟩
end Go.Proofs.YtahopnlibmiafaaDoor
