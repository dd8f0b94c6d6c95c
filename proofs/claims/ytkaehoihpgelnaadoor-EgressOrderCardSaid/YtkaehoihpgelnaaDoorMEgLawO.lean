/- Parts of a proof, printed by a program of mine out of my texts: EgLawO. -/
import Derived.Test.YtkaehoihpgelnaaDoorMP
import Derived.Test.YtkaehoihpgelnaaDoorMX9
set_option linter.unusedSimpArgs false
set_option linter.unusedVariables false
namespace Go.Proofs.YtkaehoihpgelnaaDoor
open Go.RowKit
theorem allS_len : ∀ (n : Nat) (w : Wy), (allS n w).1.length ≤ n
  | 0, w => Nat.le_refl _
  | n + 1, w => by
    by_cases hz : (chooseS w).2.2 = 0
    · rw [allS_succ hz]
      have := allS_len n (stepW w)
      simp only [List.length_cons]; omega
    · rw [allS_zero hz]; simp
theorem srow_range {w : World} {b o cap : Nat} {l : List Bn} (h : SRow bn 9 w (some ⟨b, o, none⟩) cap l) {j : Nat} (hj : j < l.length) : b < w.heap.size ∧ w.rangeAt b (o + j * 9) (bn l[j]) := srow_atG h hj
set_option maxRecDepth 100000 in
set_option maxHeartbeats 6400000 in
theorem egressOrder_walk (a : Option Addr) (cap : Nat) (zs : List Int) (z1 z2 z3 : Int) (w : World) (hH : HTab w) (hrow : Row .i64 w a cap zs) :
    Calls Tryd.prog 4 #[.slice a zs.length cap, .int .i64 z1, .int .i64 z2, .int .i64 z3] w fun e w' => e = .returned (.bool true) ∧ Below w.heap.size w w' := by
  obtain ⟨i2, hi', hz0', hz1', hz2'⟩ := info_parts infoBu
  have Hj := Lib.hid hi'; have Hy0 := Lib.hid hz0'; have Hy1 := Lib.hid hz1'; have Hy2 := Lib.hid hz2'
  clear hi' hz0' hz1' hz2'
  have HH := Lib.hid hH; have HZ := Lib.hid hrow
  clear hH hrow
  go_enter Tryd.func4, Tryd.ntmps4
  go_wp2_with fail
  (with_reducible refine (madeE_any a cap zs w HZ.out).mono ?_)
  rintro e W1 ⟨v1, l, rfl, hM, ho1, B1⟩
  obtain ⟨al, cl, rfl, hSl, _⟩ := srow_of_owns bn_len ho1
  clear ho1
  have h12 := hM.len
  have HM := Lib.hid hM
  have HSl := Lib.hid hSl
  clear hM hSl
  have m0 : IntKind.i64.wrap ((l.length : Int) - 1) = (l.length : Int) - 1 := IntWalk.i64_in _ (by omega)
  go_wp2
  go_loopw [10, 11] (fun o i wr => ∃ k : Nat, i = .int .i64 ((l.length : Int) - 1 - k) ∧ k ≤ l.length ∧ Below W1.heap.size W1 wr ∧ Hid (wr.ownsRow W1.heap.size 38 9 o k (rowC bn (l.reverse.take k)))) (fun _ i _ => (intOf i + 1).toNat)
  case atStart => exact ⟨0, by simp, Nat.zero_le _, Below.refl _ _, Lib.hid (by simpa [rowC] using World.ownsRow_nil W1 _ _ _)⟩
  case round =>
    obtain ⟨k, rfl, hk, hB, hq⟩ := hrel
    by_cases hkl : k < l.length
    · obtain ⟨j, hj⟩ : ∃ j : Nat, (l.length : Int) - 1 - k = j := ⟨l.length - 1 - k, by omega⟩
      rw [hj]
      have hjl : j < l.length := by omega
      have j1 : (j : Int) < (l.length : Int) := by omega
      have j2 : decide ((0 : Int) ≤ (j : Int)) = true := decide_eq_true (by omega)
      have j3 : IntKind.i64.wrap ((j : Int) - 1) = (j : Int) - 1 := IntWalk.i64_in _ (by omega)
      have hsn : l.reverse.take (k + 1) = l.reverse.take k ++ [l[j]] := by
        rw [List.take_succ_eq_append_getElem (by rw [List.length_reverse]; exact hkl), rev_get]
        have e : l.length - 1 - k = j := by omega
        simp only [e]
      have hlk : (l.reverse.take k).length = k := by rw [List.length_take, List.length_reverse]; omega
      have HSN := Lib.hid hsn; have HLK := Lib.hid hlk; have HJ2 := Lib.hid hj
      clear hsn hlk hj
      obtain ⟨pb, po, rfl, _, _⟩ := (HSl.out.below hB).2.2.2 (by omega)
      have r1 := srow_range (HSl.out.below hB) hjl
      obtain ⟨x, hx⟩ : ∃ x, x = l[j] := ⟨_, rfl⟩
      rw [← hx] at r1
      have HX := Lib.hid hx
      clear hx
      go_upto_region 6 with fail
      refine wp_region_tail0 4 ?_
      intro W0 hE hN
      have r0 : pb < W0.heap.size ∧ W0.rangeAt pb (po + j * 9) (bn x) := (by rw [hE.out]; exact r1)
      have hB0 : Below W1.heap.size W1 W0 := (by rw [hE.out]; exact hB)
      have hO0 := hq
      rw [← hE.out] at hO0
      clear hE r1 hB hq
      simp only [List.take_succ_cons, List.take_zero, List.drop_succ_cons, List.drop_zero]
      repeat (go_big_quiet_step (fail))
      refine wpQuiet_nil ?_
      rintro _ ⟨x', rfl⟩
      have r2 := range_below r0.1 r0.2 x'.ok
      have hB1 := bt hB0 x'.ok
      have hO1 := Lib.hid (owns_belowS hO0.out x'.ok)
      obtain ⟨u, hu⟩ : ∃ u, u = x'.wd := ⟨_, rfl⟩
      rw [← hu] at r2 hB1 hO1 ⊢
      clear hu x' hN r0 hB0 hO0
      refine wpList_load_mid rfl 38 (.tmp 31) rfl pb (po + j * 9) rfl [.int .i64 x.no, .int .u64 x.sq, .int .i64 x.of, .int .i64 x.de, .int .i64 x.pr, .int .i64 x.bo, .int .i64 x.li, .int .i64 x.to, .string x.da] _ r2 Tryd.underlying38 rfl (by kernel_rfl) ?_
      conv => arg 5; simp [Act.put]
      have szu := hB1.size
      go_wp2_with (at_builtin; go_loud ((refine wpList_append_struct (enc := bn) rfl _ _ 23 rfl W1.heap.size 38 i2 (.agg #[.int .i64 0, .int .u64 0, .int .i64 0, .int .i64 0, .int .i64 0, .int .i64 0, .int .i64 0, .int .i64 0, .string ⟨#[]⟩]) 9 80 Tryd.underlying23 Hj.out Hy0.out Hy1.out Hy2.out rfl (by decide) bn_len bn_one _ (l.reverse.take k) rfl (by rw [HLK.out]; exact hO1.out.alloc _) u.heap.size 1 x rfl (blk_alloc_new _ _ _ rfl) (by rw [HLK.out]; unfold maxLen; omega) (by rw [HLK.out]; omega) (by simp; omega) ?_); (intro v' wb hown2 hgrow2)))
      have hB3 : Below W1.heap.size W1 wb := (hB1.alloc hB1.size _).grown hgrow2 (by simp; omega) (fun k e => (hO1.out.lt k e).1)
      have ho3 : Hid (wb.ownsRow W1.heap.size 38 9 v' (k + 1) (rowC bn (l.reverse.take (k + 1)))) := Lib.hid (by
        have h9 := hown2
        rw [HX.out, ← HSN.out, List.length_take, List.length_reverse, Nat.min_eq_left (by omega : k + 1 ≤ l.length)] at h9
        exact h9)
      clear hown2 hgrow2 hO1 hB1 r2
      go_wp2
      go_roundw
      case rel => exact ⟨k + 1, by have := HJ2.out; congr 1; omega, by omega, hB3, ho3⟩
      case measure => simp [intOf] <;> omega
    · obtain rfl : k = l.length := by omega
      have e0 : (l.length : Int) - 1 - (l.length : Int) = -1 := by omega
      rw [e0]
      have j2 : decide ((0 : Int) ≤ -1) = false := by decide
      have hq9 := hq.out
      rw [List.take_of_length_le (by rw [List.length_reverse]; exact Nat.le_refl _)] at hq9
      have hlr : l.reverse.length = l.length := List.length_reverse
      rw [← hlr] at hq9
      obtain ⟨ab, cb, hv, hSb, _⟩ := srow_of_owns bn_len hq9
      rw [hlr] at hv
      subst hv
      have HSl2 := Lib.hid (HSl.out.below hB)
      have HSb := Lib.hid hSb
      have b1 := bt B1 hB
      obtain ⟨V, hV⟩ : ∃ v, v = wr := ⟨_, rfl⟩
      rw [← hV] at HSl2 HSb b1 ⊢
      clear hV hq9 hSb hq hB e0 hlr HSl m0
      have g1 := Lib.hid (fun w => mod_any z1 900 w (by decide) (by decide))
      have g2 := Lib.hid (fun w => mod_any z2 900 w (by decide) (by decide))
      have g3 := Lib.hid (fun w => mod_any z3 5 w (by decide) (by decide))
      have a1 := Int.emod_nonneg z1 (show (900 : Int) ≠ 0 by decide)
      have a2 := Int.emod_lt_of_pos z1 (show (0 : Int) < 900 by decide)
      have a3 := Int.emod_nonneg z2 (show (900 : Int) ≠ 0 by decide)
      have a4 := Int.emod_lt_of_pos z2 (show (0 : Int) < 900 by decide)
      have a5 := Int.emod_nonneg z3 (show (5 : Int) ≠ 0 by decide)
      have a6 := Int.emod_lt_of_pos z3 (show (0 : Int) < 5 by decide)
      obtain ⟨us, e1⟩ : ∃ v, z1 % 900 = v := ⟨_, rfl⟩
      obtain ⟨bu, e2⟩ : ∃ v, z2 % 900 = v := ⟨_, rfl⟩
      obtain ⟨by', e3⟩ : ∃ v, z3 % 5 = v := ⟨_, rfl⟩
      rw [e1] at g1 a1 a2; rw [e2] at g2 a3 a4; rw [e3] at g3 a5 a6
      clear e1 e2 e3
      have hA := rev_all HM.out us bu by'
      have hA9 := allS_len (l.length + 1) (firW l us bu by')
      have k1 := made_spec HM.out us bu by'
      have O1 := made_opn HM.out (us := us) (bu := bu) (by' := by') (by omega) (by omega) (by omega)
      have O2 := rev_opn HM.out (us := us) (bu := bu) (by' := by') (by omega) (by omega) (by omega)
      obtain ⟨R, hR⟩ : ∃ R, R = allS (l.length + 1) (firW l us bu by') := ⟨_, rfl⟩
      obtain ⟨R2, hR2⟩ : ∃ R, R = allS (l.length + 1) (firW l.reverse us bu by') := ⟨_, rfl⟩
      rw [← hR, ← hR2] at hA
      rw [← hR] at k1
      obtain ⟨L, hL⟩ : ∃ L, L = R.1 := ⟨_, rfl⟩
      obtain ⟨L2, hL2⟩ : ∃ L, L = R2.1 := ⟨_, rfl⟩
      rw [← hL, ← hL2] at hA
      rw [← hR, ← hL] at hA9
      obtain ⟨hOrd, hdr, hps⟩ := hA
      have GA := Lib.hid (fun W c (hB : Below V.heap.size V W) (hX : ExitS (fun _ => False) W c fstR [0, 0, 0]) => (show Calls Tryd.prog 11 #[.agg c, .slice al l.length cl, .int .u64 us, .int .i64 bu, .int .i64 by'] W fun e w' => RetAl (fun _ => False) L R.2 W e w' from by
        have h9 := allX_any O1 (l.length + 1) (Nat.lt_succ_self _) c al cl W ((HH.out.on b1).on hB) (fun _ => False) (fun _ h => h.elim) hX (HSl2.out.below hB) (fun _ _ _ _ h => h)
        rw [opn_fir, ← hR, ← hL] at h9
        exact h9))
      have GB := Lib.hid (fun W c (hB : Below V.heap.size V W) (hX : ExitS (fun _ => False) W c fstR [0, 0, 0]) => (show Calls Tryd.prog 11 #[.agg c, .slice ab l.length cb, .int .u64 us, .int .i64 bu, .int .i64 by'] W fun e w' => RetAl (fun _ => False) L2 R2.2 W e w' from by
        have h9 := allX_any O2 (l.length + 1) (by rw [List.length_reverse]; exact Nat.lt_succ_self _) c ab cb W ((HH.out.on b1).on hB) (fun _ => False) (fun _ h => h.elim) hX (HSb.out.below hB) (fun _ _ _ _ h => h)
        rw [opn_fir, ← hR2, ← hL2, List.length_reverse] at h9
        exact h9))
      unfold RetAl at GA GB
      rw [hdr, hps] at GB
      have q3 : R.2.ps.length = 3 := k1.gd.ps3
      have q4 := k1.gd.dr.1
      have q5 := k1.gd.dr.2.1
      obtain ⟨xr, hxr⟩ : ∃ v, v = R.2.dr := ⟨_, rfl⟩
      obtain ⟨xp, hxp⟩ : ∃ v, v = R.2.ps := ⟨_, rfl⟩
      rw [← hxr, ← hxp] at GA GB
      rw [← hxr] at q4 q5; rw [← hxp] at q3
      have GX : Hid (∀ W c c', ExitS (fun _ => False) W c xr xp → ExitS (fun _ => False) W c' xr xp → Calls Tryd.prog 16 #[.agg c, .agg c'] W fun e w' => e = .returned (.bool true) ∧ Below W.heap.size W w') := Lib.hid (fun W c c' h1 h2 => by
        have h9 := sameX_any c c' xr xr xp xp W (h1.g q4 q5 q3) (h2.g q4 q5 q3) (by omega) (by omega) (by omega) (by omega) (by omega) (by omega)
        rw [eqX_self] at h9
        exact h9)
      have HO := Lib.hid hOrd
      have m1 : IntKind.u64.wrap us = us := IntWalk.u64_in _ (by omega)
      have t1 : ((0 : Int) != 0) = false := rfl
      have t2 : ((L.length : Int) != (L2.length : Int)) = false := by simp [hOrd.len]
      have LL := Lib.hid hOrd.len
      clear hR hR2 hL hL2 hxr hxp hdr hps O1 O2 k1 q3 q4 q5 hOrd HSl2 HSb R R2
      go_upto_region 9 with (first
        | (go_at_call 15; first | (with_reducible refine (g1.out _).mono ?_; rintro e wx ⟨rfl, rfl⟩) | (with_reducible refine (g2.out _).mono ?_; rintro e wx ⟨rfl, rfl⟩) | (with_reducible refine (g3.out _).mono ?_; rintro e wx ⟨rfl, rfl⟩))
        | (go_at_call 12; (with_reducible refine (first_any _).mono ?_); rintro e W2 ⟨f1, f2, f3, f4, f5, f6, rfl, R1, R2, R3, U1, U2, U3, h2⟩; (have X1 := first_exit (w := V) (fun _ => False) (fun _ h => h.elim) R1 R2 R3 U1 U2 U3); clear R1 R2 R3 U1 U2 U3)
        | (go_at_call 11; (with_reducible refine (GA.out _ _ h2 X1).mono ?_); rintro e W3 ⟨o1, oc, cc, rfl, RO, hE, h3, UO⟩; (have b3 := bt h2 h3); (have HE := Lib.hid hE); obtain ⟨xa, xb, xc, xd, xe, xf, rfl, _⟩ := hE; clear X1 h2 h3 UO))
      obtain ⟨P, hP⟩ : ∃ v, v = W3.alloc (.cells #[.slice xa 3 xb, .int .i64 xr.q, .slice xc 3 xd, .int .i64 xr.t, .slice xe 3 xf] 28) := ⟨_, rfl⟩
      obtain ⟨p, hp⟩ : ∃ v, v = W3.heap.size := ⟨_, rfl⟩
      have qP : Below W3.heap.size W3 P := (by rw [hP]; exact (Below.refl _ _).alloc (Nat.le_refl _) _)
      have kP : blk P p = some #[.slice xa 3 xb, .int .i64 xr.q, .slice xc 3 xd, .int .i64 xr.t, .slice xe 3 xf] := (by rw [hP]; exact blk_alloc_new _ _ _ hp)
      have ROP := RO.below qP
      have HEP := Lib.hid (HE.out.below qP)
      have bP := bt b3 qP
      rw [← hP, ← hp]
      clear hP hp qP RO HE b3
      go_upto_region 10 with (first
        | (go_at_call 12; (with_reducible refine (first_any _).mono ?_); rintro e W4 ⟨f1, f2, f3, f4, f5, f6, rfl, R1, R2, R3, U1, U2, U3, h4⟩; (have X1 := first_exit (w := P) (fun _ => False) (fun _ h => h.elim) R1 R2 R3 U1 U2 U3); (have b4 := bt bP h4); (have k4 := blk_below h4 kP); (have RO4 := ROP.below h4); (have HE4 := Lib.hid (HEP.out.below h4)); clear R1 R2 R3 U1 U2 U3 h4)
        | (go_at_call 11; (with_reducible refine (GB.out _ _ b4 X1).mono ?_); rintro e W5 ⟨o2, oc2, cc, rfl, RP, hE2, h5, UO2⟩; (have b5 := bt b4 h5); (have k5 := blk_below h5 k4); (have RO5 := RO4.below h5); (have HE5 := Lib.hid (HE4.out.below h5)); (have HF := Lib.hid hE2); obtain ⟨ya, yb, yc, yd, ye, yf, rfl, _⟩ := hE2; clear X1 h5 UO2 b4 k4 RO4 HE4))
      obtain ⟨Q, hQ⟩ : ∃ v, v = W5.alloc (.cells #[.slice ya 3 yb, .int .i64 xr.q, .slice yc 3 yd, .int .i64 xr.t, .slice ye 3 yf] 28) := ⟨_, rfl⟩
      obtain ⟨q, hq⟩ : ∃ v, v = W5.heap.size := ⟨_, rfl⟩
      have qQ : Below W5.heap.size W5 Q := (by rw [hQ]; exact (Below.refl _ _).alloc (Nat.le_refl _) _)
      have kq : blk Q q = some #[.slice ya 3 yb, .int .i64 xr.q, .slice yc 3 yd, .int .i64 xr.t, .slice ye 3 yf] := (by rw [hQ]; exact blk_alloc_new _ _ _ hq)
      have kp := blk_below qQ k5
      have ROQ := RO5.below qQ
      have RPQ := RP.below qQ
      have HEQ := Lib.hid (HE5.out.below qQ)
      have HFQ := Lib.hid (HF.out.below qQ)
      have bQ := bt b1 (bt b5 qQ)
      have np := kn kp
      have nq := kn kq
      rw [← hQ, ← hq]
      clear hQ hq qQ k5 RO5 RP HE5 HF b5 kP ROP HEP bP GA GB
      have hun : undef = Value.tuple #[] := rfl
      go_upto_region 12 with (go_at_call 16; (with_reducible refine (GX.out _ _ _ HEQ.out HFQ.out).mono ?_); rintro e W6 ⟨rfl, h6⟩; (have b6 := bt bQ h6); (have RO6 := ROQ.below h6); (have RP6 := RPQ.below h6); clear h6 np nq kp kq ROQ RPQ HEQ HFQ bQ GX)
      have HT6 := HH.out.on b6
      have H6 := Lib.hid (And.intro RO6 RP6)
      clear RO6 RP6 g1 g2 g3
      go_wp2
      go_loopw [18] (fun ti wr => ∃ i : Nat, ti = .int .i64 i ∧ i ≤ L.length ∧ Below W6.heap.size W6 wr) (fun ti _ => L.length - (intOf ti).toNat)
      case atStart => exact ⟨0, rfl, Nat.zero_le _, Below.refl _ _⟩
      case round =>
        obtain ⟨i, rfl, hi, hB⟩ := hrel
        by_cases hil : i < L.length
        · have i1 : (i : Int) < (L.length : Int) := by omega
          have i3 : i < L2.length := by rw [LL.out]; exact hil
          have i2 : (i : Int) < (L2.length : Int) := by omega
          obtain ⟨x, y, hx, hy, hxy⟩ := HO.out.at_ i hil
          obtain ⟨pb, po, rfl, _, _⟩ := H6.out.1.2.2.2 (by omega)
          obtain ⟨qb, qo, rfl, _, _⟩ := H6.out.2.2.2.2 (by omega)
          have r1 := srow_atG (H6.out.1.below hB) hil
          have r2 := srow_atG (H6.out.2.below hB) i3
          have c1 := r1.2 0 _ rfl
          have c2 := r2.2 0 _ rfl
          rw [Nat.mul_one, hx] at c1
          rw [Nat.mul_one, hy] at c2
          have d1 : decide ((x : Int) < 0) = false := decide_eq_false (by omega)
          have d2 : decide ((y : Int) < 0) = false := decide_eq_false (by omega)
          have w1 : IntKind.i64.wrap ((x : Int) + (y : Int)) = (l.length : Int) - 1 := (IntWalk.i64_in _ (by omega)).trans (by omega)
          have w2 : IntKind.i64.wrap ((l.length : Int) - 1) = (l.length : Int) - 1 := IntWalk.i64_in _ (by omega)
          have d3 : (((l.length : Int) - 1) != ((l.length : Int) - 1)) = false := by simp
          clear hx hy hxy
          go_upto_region 15 with fail
          refine wp_region_in (by kernel_rfl) (by kernel_rfl) ?_
          intro W0 hE hN
          have n1 : ∀ x9 : Class (Calm W0), x9.wd.cell? ⟨pb, po + i, none⟩ = some (.int .i64 x) := calm_cell (by rw [hE.out]; exact r1.1) (by rw [hE.out]; exact c1)
          have n2 : ∀ x9 : Class (Calm W0), x9.wd.cell? ⟨qb, qo + i, none⟩ = some (.int .i64 y) := calm_cell (by rw [hE.out]; exact r2.1) (by rw [hE.out]; exact c2)
          have hB0 : Below W6.heap.size W6 W0 := (by rw [hE.out]; exact hB)
          clear hE hB r1 r2 c1 c2
          repeat (go_big_quiet_step (fail))
          refine wpQuiet_nil ?_
          rintro _ ⟨x', rfl⟩
          have hB2 := bt hB0 x'.ok
          obtain ⟨u, hu⟩ : ∃ u, u = x'.wd := ⟨_, rfl⟩
          rw [← hu] at hB2 ⊢
          clear hu x' hN n1 n2 hB0
          go_wp2
          go_roundw
          case rel => first | exact ⟨i + 1, by go_num, by omega, hB2⟩ | exact ⟨i + 1, by omega, by omega⟩
          case measure => simp [intOf]; omega
        · obtain rfl : i = L.length := by omega
          have b7 := bt b6 hB
          clear hB
          go_wp2_with (go_at_call 14; (with_reducible refine (awake_any _ (HH.out.on b7)).mono ?_); rintro e W9 ⟨rfl, h9⟩)
          go_ret
          exact ⟨rfl, bt b7 h9⟩
theorem egressOrder_row (a : Option Addr) (len cap : Nat) (zs : List Int) (z1 z2 z3 : Int) (w : World) (h : IsRow .i64 w a len cap zs) (hT : Lib.TabIs Tryd.prog w headsNm .u8 headsTab) :
    Calls Tryd.prog 4 #[.slice a len cap, .int .i64 z1, .int .i64 z2, .int .i64 z3] w fun e w' => e = .returned (.bool true) ∧ Below w.heap.size w w' := by
  obtain ⟨e, hr⟩ := row_of h
  have := egressOrder_walk a cap (zs.take len) z1 z2 z3 w (htab_of hT) hr
  rw [← e] at this
  exact this
end Go.Proofs.YtkaehoihpgelnaaDoor
