/- Parts of a proof, printed by a program of mine out of my texts: StLawB. -/
import Derived.Test.YtahopnlibmiafaaDoorMStBks
import Derived.Test.YtahopnlibmiafaaDoorMStLawK
set_option linter.unusedSimpArgs false
set_option linter.unusedVariables false
namespace Go.Proofs.YtahopnlibmiafaaDoor
open Go.RowKit
theorem srow_at {w : World} {b o cap : Nat} {l : List Itm} (h : SRow itm 13 w (some ⟨b, o, none⟩) cap l) {j : Nat} (hj : j < l.length) : w.rangeAt b (o + j * 13) (itm l[j]) := by
  obtain ⟨b', o', e, _, r⟩ := h.2.2.2 (by omega)
  cases e
  exact r j hj
theorem wp_freshB {P : Program} {cd : Code} {Q : Exit → Act → World → Prop} {a : Act} {W w0 : World} {B : Nat} (b pa off : Nat) (cs : List Value) (c : Array Value) (w1 : World) (h1 : blk W b = some c) (hB1 : Below b w1 W) (hpa : pa < b) (hr : w1.rangeAt pa off cs) (hs : pa < w1.heap.size) (hB : Below B w0 W)
    (h : ∀ w', blk w' b = some c → (pa < w'.heap.size ∧ w'.rangeAt pa off cs) → Below B w0 w' → cd.wp P Q a w') : cd.wp P Q a W :=
  h W h1 ⟨Nat.lt_of_lt_of_le hs hB1.size, fun j v hv => (hB1.cell (p := ⟨pa, off + j, none⟩) hpa).trans (hr j v hv)⟩ hB
set_option maxRecDepth 100000 in
set_option maxHeartbeats 6400000 in
theorem storeBacks_walk (a : Option Addr) (cap : Nat) (zs : List Int) (zi z : Int) (w : World) (hH : HTab w) (hrow : Row .i64 w a cap zs) :
    Calls Tryd.prog 10 #[.slice a zs.length cap, .int .i64 zi, .int .i64 z] w fun e w' => e = .returned (.bool true) ∧ Below w.heap.size w w' := by
  have HH := Lib.hid hH; have HZ := Lib.hid hrow
  clear hH hrow
  go_enter Tryd.func10, Tryd.ntmps10
  go_wp2_with fail
  (with_reducible refine (known_any w HH.out).mono ?_)
  rintro e W1 ⟨rfl, h1⟩
  have B1 := bt (Below.refl _ _) h1
  clear h1
  go_wp2_with fail
  (with_reducible refine (made_S a cap zs W1 (HZ.out.below B1)).mono ?_)
  rintro e W2 ⟨a2, c2, M, rfl, hM, hl, hS2, h2⟩
  have HR := Lib.hid hS2
  clear hS2
  have B2 := bt B1 h2
  clear h2 B1
  have hz : MadeS M := madeS hM hl
  clear hM
  have k0 := Int.emod_nonneg z (show (4 : Int) ≠ 0 by decide)
  have k1 := Int.emod_lt_of_pos z (show (0 : Int) < 4 by decide)
  have hm := Lib.hid (fun w => mod_any z 4 w (by decide) (by decide))
  obtain ⟨k, hk⟩ : ∃ k, z % 4 = k := ⟨_, rfl⟩
  rw [hk] at hm k0 k1
  clear hk
  obtain ⟨t, ht⟩ : ∃ t, t = 1 + k := ⟨_, rfl⟩
  have t1 : 1 ≤ t := by omega
  have t2 : t ≤ 4 := by omega
  have e1 : ∀ W, SRow itm 13 W a2 c2 M → Calls Tryd.prog 42 #[.slice a2 M.length c2, .int .i64 (1 + k)] W fun e w' => ∃ a c, e = .returned (.tuple #[.slice a M.length c, .int .i64 0]) ∧ SRow itm 13 w' a c (M.map (back1 t)) ∧ Below W.heap.size W w' := fun W h => by
    have h9 := backAll_any a2 c2 M t (fun x hx => (hz.gd x hx).1) W h
    rw [b_all hz.v t1 t2, ht] at h9
    rw [ht]
    exact h9.mono fun e w h => retS_row (by simp) h
  replace e1 := Lib.hid e1
  have TK := Lib.hid ht
  have TZ := Lib.hid (And.intro t1 t2)
  have HQ := Lib.hid hz
  have l12 := hl
  clear ht t1 t2 hz hl
  go_upto_region 4 with (go_at_call 47; (with_reducible refine (hm.out _).mono ?_); rintro e Wx ⟨rfl, rfl⟩)
  go_wp2_with fail
  (with_reducible refine (e1.out W2 HR.out).mono ?_)
  rintro e W3 ⟨a3, c3, rfl, hS3, h3⟩
  have HA := Lib.hid hS3
  clear hS3
  replace HR := Lib.hid (HR.out.below h3)
  have B3 := bt B2 h3
  clear h3 B2
  clear e1 hm
  rw [← TK.out]
  have q0 : ((M.length : Int) != (M.length : Int)) = false := by simp
  go_wp2
  go_loopw [11] (fun i wr => ∃ m : Nat, i = .int .i64 m ∧ m ≤ M.length ∧ Below W3.heap.size W3 wr) (fun i _ => M.length - (intOf i).toNat)
  case atStart => exact ⟨0, rfl, Nat.zero_le _, Below.refl _ _⟩
  case round =>
    obtain ⟨m, rfl, hm, hB⟩ := hrel
    by_cases hlt : m < M.length
    · have i1 : (m : Int) < (M.length : Int) := by omega
      obtain ⟨pa, oa, rfl, ga, ra⟩ := (HA.out.below hB).2.2.2 (by simp; omega)
      obtain ⟨pb, ob, rfl, gb, rb⟩ := (HR.out.below hB).2.2.2 (by omega)
      obtain ⟨x, hx⟩ : ∃ x, x = M[m] := ⟨_, rfl⟩
      have R1 := ra m (by simpa using hlt)
      have R2 := rb m hlt
      have hst := itE_st (HQ.out.v.at hlt)
      rw [List.getElem_map] at R1
      rw [← hx] at R1 R2 hst
      have f1 : wr.cell? ⟨pb, ob + m * 13 + 9, none⟩ = some (.int .i64 x.st) := R2 9 _ rfl
      have f2 : wr.cell? ⟨pb, ob + m * 13 + 10, none⟩ = some (.int .i64 x.to) := R2 10 _ rfl
      clear ra rb hx
      by_cases s2 : x.st = 2
      · have d1 : (x.st == 2) = true := by simpa using s2
        by_cases s3 : x.to = t
        · have d2 : (x.to == t) = true := by simpa using s3
          have AE : back1 t x = heldI x := if_pos ⟨s2, s3⟩
          rw [AE] at R1
          clear AE s2 s3 hst
          go_upto_region 11 with fail
          refine wp_region_tail0 3 ?_
          intro W0 hE hN
          have hrW : W0.rangeAt pb (ob + m * 13) (itm x) := (by rw [hE.out]; exact R2)
          have hrA : W0.rangeAt pa (oa + m * 13) (itm (heldI x)) := (by rw [hE.out]; exact R1)
          have hBW : Below W3.heap.size W3 W0 := (by rw [hE.out]; exact hB)
          have bW : pb < W0.heap.size := (by rw [hE.out]; exact gb)
          have aW : pa < W0.heap.size := (by rw [hE.out]; exact ga)
          clear hE R1 R2 hB ga gb f1 f2
          simp only [List.take_succ_cons, List.take_zero, List.drop_succ_cons, List.drop_zero]
          repeat (go_big_quiet_step (fail))
          refine wpQuiet_nil ?_
          rintro _ ⟨x', rfl⟩
          have hr1 := range_below bW hrW x'.ok
          have hr2 := range_below aW hrA x'.ok
          have aU : pa < x'.wd.heap.size := Nat.lt_of_lt_of_le aW x'.ok.size
          have hB1 := bt hBW x'.ok
          obtain ⟨u, hu⟩ : ∃ u, u = x'.wd := ⟨_, rfl⟩
          rw [← hu] at hr1 hr2 hB1 aU ⊢
          clear hu x' hN hrW hBW bW aW hrA
          refine wpList_load_mid rfl 67 (.tmp 62) rfl pb (ob + m * 13) rfl (itm x) _ hr1 Tryd.underlying67 rfl (by kernel_rfl) ?_
          conv => arg 5; simp [Act.put]
          refine Go.Great.wpList_allocTo rfl (some 12) rfl (.pointer (some ⟨u.heap.size, 0, none⟩)) (.cells #[.int .i64 0, .int .u64 0, .int .i64 0, .int .i64 0, .int .i64 0, .int .i64 0, .int .i64 0, .int .i64 0, .string ⟨#[]⟩, .int .i64 0, .int .i64 0, .int .u64 0, .int .i64 0] 67) (by kernel_rfl) ?_
          conv => arg 5; simp [Act.put]
          refine wpList_store_midB 67 (.tmp 12) (.tmp 63) u.heap.size 0 #[.int .i64 0, .int .u64 0, .int .i64 0, .int .i64 0, .int .i64 0, .int .i64 0, .int .i64 0, .int .i64 0, .string ⟨#[]⟩, .int .i64 0, .int .i64 0, .int .u64 0, .int .i64 0] #[.int .i64 x.b.no, .int .u64 x.b.sq, .int .i64 x.b.of, .int .i64 x.b.de, .int .i64 x.b.pr, .int .i64 x.b.bo, .int .i64 x.b.li, .int .i64 x.b.to, .string x.b.da, .int .i64 x.st, .int .i64 x.to, .int .u64 x.off, .int .i64 x.od] #[.int .i64 x.b.no, .int .u64 x.b.sq, .int .i64 x.b.of, .int .i64 x.b.de, .int .i64 x.b.pr, .int .i64 x.b.bo, .int .i64 x.b.li, .int .i64 x.b.to, .string x.b.da, .int .i64 x.st, .int .i64 x.to, .int .u64 x.off, .int .i64 x.od] (blk_alloc_new _ _ _ rfl) rfl rfl rfl rfl (by simp) (by kernel_rfl) (by kernel_rfl) (by kernel_rfl) ?_
          intro w1 kb1 o1 B1' z1
          conv => arg 5; simp [Act.put]
          have hw1 : Below u.heap.size u w1 := B1' _ _ (Nat.le_refl _) ((Below.refl _ _).alloc (Nat.le_refl _) _)
          have hb1 : Below W3.heap.size W3 w1 := B1' _ _ hB1.size (hB1.alloc hB1.size _)
          have hra := range_below aU hr2 hw1
          have aw1 : pa < w1.heap.size := Nat.lt_of_lt_of_le aU hw1.size
          have ne1 : pa < u.heap.size := aU
          obtain ⟨c0, hc0⟩ : ∃ c, c = u.heap.size := ⟨_, rfl⟩
          have hc3 : W3.heap.size ≤ c0 := by rw [hc0]; exact hB1.size
          rw [← hc0] at kb1 ne1 ⊢
          have nb1 := kn kb1
          clear o1 B1' z1 hr1 hr2 hB1 hc0 hw1 aU u
          go_upto_region 15 with fail
          refine wp_freshB c0 pa (oa + m * 13) (itm (heldI x)) #[.int .i64 x.b.no, .int .u64 x.b.sq, .int .i64 x.b.of, .int .i64 x.b.de, .int .i64 x.b.pr, .int .i64 x.b.bo, .int .i64 x.b.li, .int .i64 x.b.to, .string x.b.da, .int .i64 1, .int .i64 0, .int .u64 0, .int .i64 x.od] w1 (by (apply blk_to; (focus (repeat (first | (with_reducible assumption) | (with_reducible apply blk_drew) | (with_reducible apply blk_set) | ((with_reducible apply blk_other'); (first | (focus (dsimp only; assumption)) | (focus (simp; done)) | (focus (dsimp only; omega)))) | ((with_reducible apply blk_alloc_new); (first | (with_reducible rfl) | (focus (simp; done)) | (focus (simp; omega)))) | (with_reducible apply blk_alloc) | ((with_reducible apply blk_below); (with_reducible assumption))))); rfl)) (by (repeat (first | (with_reducible assumption) | (with_reducible exact Below.refl _ _) | (with_reducible refine beld_drew ?_) | ((with_reducible refine bset' ?_ ?_); (first | (focus (dsimp only; assumption)) | (focus (simp; done)) | (focus (dsimp only; omega)))) | (with_reducible refine belt_alloc ?_) | ((with_reducible refine zeroed_below' ?_ ?_); (first | (focus (simp; done)) | (focus (dsimp only; omega)))) | (with_reducible refine bt ?_ (by assumption)))) : Below c0 w1 _) ne1 hra aw1 (by (repeat (first | (with_reducible assumption) | (with_reducible exact Below.refl _ _) | (with_reducible refine beld_drew ?_) | ((with_reducible refine bset' ?_ ?_); (first | (focus (dsimp only; assumption)) | (focus (simp; done)) | (focus (dsimp only; omega)))) | (with_reducible refine belt_alloc ?_) | ((with_reducible refine zeroed_below' ?_ ?_); (first | (focus (simp; done)) | (focus (dsimp only; omega)))) | (with_reducible refine bt ?_ (by assumption)))) : Below W3.heap.size W3 _) ?_
          intro W4 kb4 R1 hB
          have G1 := R1.1
          have G2 := blk_lt kb4
          replace R1 := R1.2
          have R2 : W4.rangeAt c0 0 (itm (heldI x)) := range_of_blk kb4 0 _ rfl
          have E := fun W => run_itmNe (heldI x) W
          clear kb1 nb1 hb1 hra aw1 ne1 kb4 w1
          refine wp_region_in (by kernel_rfl) (by kernel_rfl) ?_
          intro W0 hE hN
          have r1 : W0.rangeAt pa (oa + m * 13) (itm (heldI x)) := (by rw [hE.out]; exact R1)
          have g1 : pa < W0.heap.size := (by rw [hE.out]; exact G1)
          have r2 : W0.rangeAt c0 (0) (itm (heldI x)) := (by rw [hE.out]; exact R2)
          have g2 : c0 < W0.heap.size := (by rw [hE.out]; exact G2)
          have hB' : Below W3.heap.size W3 W0 := (by rw [hE.out]; exact hB)
          clear hE R1 R2 G1 G2 hB
          refine wpQuiet_split 3 ?_
          simp only [List.take_succ_cons, List.take_zero, List.drop_succ_cons, List.drop_zero]
          repeat (go_big_quiet_step (fail))
          refine wpQuiet_nil ?_
          refine wpQuiet_load_range 67 (.tmp 69) pa (oa + m * 13) (itm (heldI x)) (fun W hW => by obtain ⟨x', rfl⟩ := hW; exact range_below g1 r1 x'.ok) _ (by kernel_rfl) rfl (by kernel_rfl) Tryd.underlying67 rfl (by kernel_rfl) ?_
          conv => arg 6; simp [Act.put]
          refine wpQuiet_load_range 67 (.tmp 12) c0 (0) (itm (heldI x)) (fun W hW => by obtain ⟨x', rfl⟩ := hW; exact range_below g2 r2 x'.ok) _ (by kernel_rfl) rfl (by kernel_rfl) Tryd.underlying67 rfl (by kernel_rfl) ?_
          conv => arg 6; simp [Act.put]
          repeat (go_big_quiet_step (fail))
          refine wpQuiet_nil ?_
          rintro _ ⟨x', rfl⟩
          have hB2 := bt hB' x'.ok
          obtain ⟨u, hu⟩ : ∃ u, u = x'.wd := ⟨_, rfl⟩
          rw [← hu] at hB2 ⊢
          clear hu x' hN r1 r2 g1 g2 hB' E
          go_wp2
          go_roundw
          case rel => exact ⟨m + 1, by go_num, by omega, hB2⟩
          case measure => simp [intOf]; omega
        · have d2 : (x.to == t) = false := by simpa using s3
          have ne : ¬ (x.st = 2 ∧ x.to = t) := fun h => s3 h.2
          have AE : back1 t x = x := if_neg ne
          rw [AE] at R1
          have E := fun W => run_itmNe x W
          have G1 := ga; have G2 := gb
          clear AE
          go_upto_region 17 with fail
          refine wp_region_in (by kernel_rfl) (by kernel_rfl) ?_
          intro W0 hE hN
          have r1 : W0.rangeAt pa (oa + m * 13) (itm x) := (by rw [hE.out]; exact R1)
          have g1 : pa < W0.heap.size := (by rw [hE.out]; exact G1)
          have r2 : W0.rangeAt pb (ob + m * 13) (itm x) := (by rw [hE.out]; exact R2)
          have g2 : pb < W0.heap.size := (by rw [hE.out]; exact G2)
          have hB' : Below W3.heap.size W3 W0 := (by rw [hE.out]; exact hB)
          clear hE R1 R2 G1 G2 hB
          refine wpQuiet_split 3 ?_
          simp only [List.take_succ_cons, List.take_zero, List.drop_succ_cons, List.drop_zero]
          repeat (go_big_quiet_step (fail))
          refine wpQuiet_nil ?_
          refine wpQuiet_load_range 67 (.tmp 75) pa (oa + m * 13) (itm x) (fun W hW => by obtain ⟨x', rfl⟩ := hW; exact range_below g1 r1 x'.ok) _ (by kernel_rfl) rfl (by kernel_rfl) Tryd.underlying67 rfl (by kernel_rfl) ?_
          conv => arg 6; simp [Act.put]
          refine wpQuiet_split 3 ?_
          simp only [List.take_succ_cons, List.take_zero, List.drop_succ_cons, List.drop_zero]
          repeat (go_big_quiet_step (fail))
          refine wpQuiet_nil ?_
          refine wpQuiet_load_range 67 (.tmp 79) pb (ob + m * 13) (itm x) (fun W hW => by obtain ⟨x', rfl⟩ := hW; exact range_below g2 r2 x'.ok) _ (by kernel_rfl) rfl (by kernel_rfl) Tryd.underlying67 rfl (by kernel_rfl) ?_
          conv => arg 6; simp [Act.put]
          repeat (go_big_quiet_step (fail))
          refine wpQuiet_nil ?_
          rintro _ ⟨x', rfl⟩
          have hB2 := bt hB' x'.ok
          obtain ⟨u, hu⟩ : ∃ u, u = x'.wd := ⟨_, rfl⟩
          rw [← hu] at hB2 ⊢
          clear hu x' hN r1 r2 g1 g2 hB' E
          go_wp2
          go_roundw
          case rel => exact ⟨m + 1, by go_num, by omega, hB2⟩
          case measure => simp [intOf]; omega
      · have d1 : (x.st == 2) = false := by simpa using s2
        have ne : ¬ (x.st = 2 ∧ x.to = t) := fun h => s2 h.1
        have AE : back1 t x = x := if_neg ne
        rw [AE] at R1
        have E := fun W => run_itmNe x W
        have G1 := ga; have G2 := gb
        clear AE
        go_upto_region 17 with fail
        refine wp_region_in (by kernel_rfl) (by kernel_rfl) ?_
        intro W0 hE hN
        have r1 : W0.rangeAt pa (oa + m * 13) (itm x) := (by rw [hE.out]; exact R1)
        have g1 : pa < W0.heap.size := (by rw [hE.out]; exact G1)
        have r2 : W0.rangeAt pb (ob + m * 13) (itm x) := (by rw [hE.out]; exact R2)
        have g2 : pb < W0.heap.size := (by rw [hE.out]; exact G2)
        have hB' : Below W3.heap.size W3 W0 := (by rw [hE.out]; exact hB)
        clear hE R1 R2 G1 G2 hB
        refine wpQuiet_split 3 ?_
        simp only [List.take_succ_cons, List.take_zero, List.drop_succ_cons, List.drop_zero]
        repeat (go_big_quiet_step (fail))
        refine wpQuiet_nil ?_
        refine wpQuiet_load_range 67 (.tmp 75) pa (oa + m * 13) (itm x) (fun W hW => by obtain ⟨x', rfl⟩ := hW; exact range_below g1 r1 x'.ok) _ (by kernel_rfl) rfl (by kernel_rfl) Tryd.underlying67 rfl (by kernel_rfl) ?_
        conv => arg 6; simp [Act.put]
        refine wpQuiet_split 3 ?_
        simp only [List.take_succ_cons, List.take_zero, List.drop_succ_cons, List.drop_zero]
        repeat (go_big_quiet_step (fail))
        refine wpQuiet_nil ?_
        refine wpQuiet_load_range 67 (.tmp 79) pb (ob + m * 13) (itm x) (fun W hW => by obtain ⟨x', rfl⟩ := hW; exact range_below g2 r2 x'.ok) _ (by kernel_rfl) rfl (by kernel_rfl) Tryd.underlying67 rfl (by kernel_rfl) ?_
        conv => arg 6; simp [Act.put]
        repeat (go_big_quiet_step (fail))
        refine wpQuiet_nil ?_
        rintro _ ⟨x', rfl⟩
        have hB2 := bt hB' x'.ok
        obtain ⟨u, hu⟩ : ∃ u, u = x'.wd := ⟨_, rfl⟩
        rw [← hu] at hB2 ⊢
        clear hu x' hN r1 r2 g1 g2 hB' E
        go_wp2
        go_roundw
        case rel => exact ⟨m + 1, by go_num, by omega, hB2⟩
        case measure => simp [intOf]; omega
    · obtain rfl : m = M.length := by omega
      have HR' := Lib.hid (HR.out.below hB)
      have BW := bt B3 hB
      clear HR HA hB B3
      by_cases h0 : M.length = 0
      · have p0 : ((M.length : Int) == 0) = true := by simpa using h0
        clear h0
        go_wp2
        go_ret
        exact ⟨rfl, BW⟩
      · have p0 : ((M.length : Int) == 0) = false := by simpa using h0
        have m0 := Int.emod_nonneg zi (show (M.length : Int) ≠ 0 by omega)
        have m1 := Int.emod_lt_of_pos zi (show 0 < (M.length : Int) by omega)
        have gm := Lib.hid (fun w => mod_any zi (M.length : Int) w (by omega) (by omega))
        obtain ⟨j, hj⟩ : ∃ j : Nat, zi % (M.length : Int) = (j : Int) := ⟨(zi % (M.length : Int)).toNat, (Int.toNat_of_nonneg m0).symm⟩
        rw [hj] at gm m0 m1
        have hjl : j < M.length := by omega
        clear hj m0
        obtain ⟨x, hx⟩ : ∃ x, x = M[j] := ⟨_, rfl⟩
        have hst := itE_st (HQ.out.v.at hjl)
        rw [← hx] at hst
        obtain ⟨b, o, rfl, gb, r⟩ := HR'.out.2.2.2 (by omega)
        have R := r j hjl
        rw [← hx] at R
        have f0 : wr.cell? ⟨b, o + j * 13, none⟩ = some (.int .i64 x.b.no) := R 0 _ rfl
        have f1 : wr.cell? ⟨b, o + j * 13 + 1, none⟩ = some (.int .u64 x.b.sq) := R 1 _ rfl
        have f2 : wr.cell? ⟨b, o + j * 13 + 2, none⟩ = some (.int .i64 x.b.of) := R 2 _ rfl
        clear r R
        have HJ := Lib.hid hjl
        have HXX : Hid (x = M[j]'HJ.out) := Lib.hid hx
        clear hjl hx h0
        go_upto_region 23 with (go_at_call 47; (with_reducible refine (gm.out _).mono ?_); rintro e Wx ⟨rfl, rfl⟩)
        have swr := BW.size
        refine wp_freshM wr.heap.size #[.int .i64 x.b.no, .int .u64 x.b.sq, .int .i64 x.b.of] (by (apply blk_to; (focus (repeat (first | (with_reducible assumption) | (with_reducible apply blk_drew) | (with_reducible apply blk_set) | ((with_reducible apply blk_other'); (first | (focus (dsimp only; assumption)) | (focus (simp; done)) | (focus (dsimp only; omega)))) | ((with_reducible apply blk_alloc_new); (first | (with_reducible rfl) | (focus (simp; done)) | (focus (simp; omega)))) | (with_reducible apply blk_alloc) | ((with_reducible apply blk_below); (with_reducible assumption))))); rfl)) (by (repeat (first | (with_reducible assumption) | (with_reducible exact Below.refl _ _) | (with_reducible refine beld_drew ?_) | ((with_reducible refine bset' ?_ ?_); (first | (focus (dsimp only; assumption)) | (focus (simp; done)) | (focus (dsimp only; omega)))) | (with_reducible refine belt_alloc ?_) | ((with_reducible refine zeroed_below' ?_ ?_); (first | (focus (simp; done)) | (focus (dsimp only; omega)))) | (with_reducible refine bt ?_ (by assumption)))) : Below w.heap.size w _) (by (repeat (first | (with_reducible assumption) | (with_reducible exact Below.refl _ _) | (with_reducible refine beld_drew ?_) | ((with_reducible refine bset' ?_ ?_); (first | (focus (dsimp only; assumption)) | (focus (simp; done)) | (focus (dsimp only; omega)))) | (with_reducible refine belt_alloc ?_) | ((with_reducible refine zeroed_below' ?_ ?_); (first | (focus (simp; done)) | (focus (dsimp only; omega)))) | (with_reducible refine bt ?_ (by assumption)))) : Below wr.heap.size wr _) ?_
        intro V kb BV hr2
        replace HR' := Lib.hid (HR'.out.below hr2)
        obtain ⟨bx, hbx⟩ : ∃ b, b = wr.heap.size := ⟨_, rfl⟩
        rw [← hbx] at kb ⊢
        clear hbx hr2 f0 f1 f2 gb gm BW swr
        have nkb := kn kb
        have gd : ∀ x ∈ M, x.b.da.size ≤ maxLen := fun x hx => (HQ.out.gd x hx).1
        have HD := Lib.hid gd
        have hlen := Lib.hid (show (M.set j (offI x t)).length = M.length from by simp)
        by_cases s2 : x.st = 2
        · have d1 : (x.st == 2) = true := by simpa using s2
          have e2 : ∀ a c W, SRow itm 13 W a c M → Calls Tryd.prog 38 #[.slice a M.length c, .agg #[.int .i64 x.b.no, .int .u64 x.b.sq, .int .i64 x.b.of], .int .i64 t, .int .u64 7] W fun e w' => RetS ([], 12) W e w' := fun a c W h => by
            have h9 := offer_any a c M (bid x.b) t 7 HD.out W h
            rw [HXX.out, b_off2 HQ.out.v HJ.out t (by rw [← HXX.out]; exact s2)] at h9
            rw [HXX.out]
            exact h9
          replace e2 := Lib.hid e2
          clear s2 hst gd
          go_wp2_with fail
          (with_reducible refine (e2.out (some ⟨b, o, none⟩) c2 V HR'.out).mono ?_)
          rintro e W1 ⟨v1, rfl, ho1, h1⟩
          clear ho1
          replace HR' := Lib.hid (HR'.out.below h1)
          replace kb := blk_below h1 kb
          replace nkb := kn kb
          have B1 := bt BV h1
          clear h1 BV
          have f9 : W1.cell? ⟨b, o + j * 13 + 9, none⟩ = some (.int .i64 x.st) := by rw [HXX.out]; exact srow_at HR'.out HJ.out 9 _ rfl
          go_wp2
          go_ret
          exact ⟨rfl, B1⟩
        · have d1 : (x.st == 2) = false := by simpa using s2
          have s1 : x.st = 1 := by omega
          obtain ⟨X, hX⟩ : ∃ X, X = M.set j (offI x t) := ⟨_, rfl⟩
          have XL := Lib.hid (show X.length = M.length by rw [hX]; simp)
          have gX : ∀ y ∈ X, y.b.da.size ≤ maxLen := fun y hy => by
            rw [hX] at hy
            rcases List.mem_or_eq_of_mem_set hy with h | h
            · exact HD.out y h
            · rw [h]; exact HD.out x (by rw [HXX.out]; exact List.getElem_mem _)
          have e3 : ∀ a c W, SRow itm 13 W a c M → Calls Tryd.prog 38 #[.slice a M.length c, .agg #[.int .i64 x.b.no, .int .u64 x.b.sq, .int .i64 x.b.of], .int .i64 t, .int .u64 7] W fun e w' => ∃ a c, e = .returned (.tuple #[.slice a M.length c, .int .i64 0]) ∧ SRow itm 13 w' a c X ∧ Below W.heap.size W w' := fun a c W h => by
            have h9 := offer_any a c M (bid x.b) t 7 HD.out W h
            have h8 := b_off1 HQ.out.v HJ.out TZ.out.1 TZ.out.2 (by rw [← HXX.out]; exact s1)
            rw [← HXX.out, ← hX] at h8
            rw [h8] at h9
            exact h9.mono fun e w h => retS_row XL.out h
          have e4 : ∀ a c W, SRow itm 13 W a c X → Calls Tryd.prog 40 #[.slice a M.length c, .agg #[.int .i64 x.b.no, .int .u64 x.b.sq, .int .i64 x.b.of]] W fun e w' => ∃ a c, e = .returned (.tuple #[.slice a M.length c, .int .i64 0]) ∧ SRow itm 13 w' a c M ∧ Below W.heap.size W w' := fun a c W h => by
            have h9 := back_any a c X (bid x.b) gX W h
            have h8 := b_back HQ.out.v HJ.out TZ.out.1 TZ.out.2 (by rw [← HXX.out]; exact s1)
            rw [← HXX.out, ← hX] at h8
            rw [h8, XL.out] at h9
            exact h9.mono fun e w h => retS_row rfl h
          have xj : X[j]'(by rw [XL.out]; exact HJ.out) = offI x t := by simp [hX]
          have XJ := Lib.hid xj
          replace e3 := Lib.hid e3; replace e4 := Lib.hid e4
          have u1 : (t == t) = true := by simp
          have u2 : ((M.length : Int) == (M.length : Int)) = true := by simp
          clear s1 s2 hst gd gX hX xj
          go_wp2_with fail
          (with_reducible refine (e3.out (some ⟨b, o, none⟩) c2 V HR'.out).mono ?_)
          rintro e W1 ⟨a1, y1, rfl, hS1, h1⟩
          have HX := Lib.hid hS1
          obtain ⟨px, ox, rfl, _, _⟩ := hS1.2.2.2 (by rw [XL.out]; omega)
          clear hS1
          replace HR' := Lib.hid (HR'.out.below h1)
          replace kb := blk_below h1 kb
          replace nkb := kn kb
          have B1 := bt BV h1
          clear h1 BV
          have f9 : W1.cell? ⟨b, o + j * 13 + 9, none⟩ = some (.int .i64 x.st) := by rw [HXX.out]; exact srow_at HR'.out HJ.out 9 _ rfl
          go_wp2_with fail
          (with_reducible refine (e4.out (some ⟨px, ox, none⟩) y1 W1 HX.out).mono ?_)
          rintro e W2 ⟨a2, y2, rfl, hS2, h2⟩
          have HY := Lib.hid hS2
          clear hS2
          replace HR' := Lib.hid (HR'.out.below h2)
          replace HX := Lib.hid (HX.out.below h2)
          replace kb := blk_below h2 kb
          replace nkb := kn kb
          have B2 := bt B1 h2
          clear h2 B1
          have x1 : W2.cell? ⟨px, ox + j * 13 + 10, none⟩ = some (.int .i64 t) := by have h9 := srow_at HX.out (by rw [XL.out]; exact HJ.out) 10 _ rfl; rw [XJ.out] at h9; exact h9
          have x2 : W2.cell? ⟨px, ox + j * 13 + 11, none⟩ = some (.int .u64 7) := by have h9 := srow_at HX.out (by rw [XL.out]; exact HJ.out) 11 _ rfl; rw [XJ.out] at h9; exact h9
          go_wp2_with fail
          (with_reducible refine (same_self a2 (some ⟨b, o, none⟩) y2 c2 M W2 HY.out HR'.out).mono ?_)
          rintro e W3 ⟨rfl, h3⟩
          replace HR' := Lib.hid (HR'.out.below h3)
          replace HX := Lib.hid (HX.out.below h3)
          replace HY := Lib.hid (HY.out.below h3)
          replace kb := blk_below h3 kb
          replace nkb := kn kb
          have B3 := bt B2 h3
          clear h3 B2
          go_wp2
          go_ret
          exact ⟨rfl, B3⟩
theorem storeBacks_at (a : Option Addr) (len cap : Nat) (zs : List Int) (zi z : Int) (w : World) (h : IsRow .i64 w a len cap zs) (hT : Lib.TabIs Tryd.prog w headsNm .u8 headsTab) :
    Calls Tryd.prog 10 #[.slice a len cap, .int .i64 zi, .int .i64 z] w fun e w' => e = .returned (.bool true) ∧ Below w.heap.size w w' := by
  obtain ⟨e, hr⟩ := row_of h
  have := storeBacks_walk a cap (zs.take len) zi z w (htab_of hT) hr
  rw [← e] at this
  exact this
end Go.Proofs.YtahopnlibmiafaaDoor
