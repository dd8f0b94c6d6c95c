/- Parts of a proof, printed by a program of mine out of my texts: StLawF. -/
import Derived.Deep.OwnRows
import Derived.Test.YtahopnlibmiafaaDoorMBuOrd2
import Derived.Test.YtahopnlibmiafaaDoorMStFr
import Derived.Test.YtahopnlibmiafaaDoorMStLawK
set_option linter.unusedSimpArgs false
set_option linter.unusedVariables false
namespace Go.Proofs.YtahopnlibmiafaaDoor
open Go.RowKit
theorem rlessC_any (a b : Bn) (ha : BnI a) (hb : BnI b) (w : World) : Calls Tryd.prog 49 #[.agg (bn a).toArray, .agg (bn b).toArray] w fun e w' => e = .returned (.bool (ltB a b)) ∧ Below w.heap.size w w' :=
  refLess_any a.no a.sq a.of a.de a.pr a.bo a.li a.to a.da b.no b.sq b.of b.de b.pr b.bo b.li b.to b.da ha.1 ha.2 hb.1 hb.2 w
theorem infoBool : (Tryd.prog.info? 4).map (fun i => (i.zero, i.size, i.bytes)) = some (some (.bool false), 1, 1) := by kernel_rfl
theorem srow_atG {α : Type} {enc : α → List Value} {k : Nat} {w : World} {b o cap : Nat} {l : List α} (h : SRow enc k w (some ⟨b, o, none⟩) cap l) {j : Nat} (hj : j < l.length) : b < w.heap.size ∧ w.rangeAt b (o + j * k) (enc l[j]) := by
  obtain ⟨b', o', e, g, r⟩ := h.2.2.2 (by omega)
  cases e
  exact ⟨g, r j hj⟩
theorem calm_cell {W0 : World} {b o : Nat} {v : Value} (hb : b < W0.heap.size) (h : W0.cell? ⟨b, o, none⟩ = some v) : ∀ x : Class (Calm W0), x.wd.cell? ⟨b, o, none⟩ = some v := fun x => (x.ok.cell (p := ⟨b, o, none⟩) hb).trans h
set_option maxRecDepth 100000 in
set_option maxHeartbeats 6400000 in
theorem storeFor_walk (a : Option Addr) (cap : Nat) (zs : List Int) (z : Int) (w : World) (hH : HTab w) (hrow : Row .i64 w a cap zs) :
    Calls Tryd.prog 11 #[.slice a zs.length cap, .int .i64 z] w fun e w' => e = .returned (.bool true) ∧ Below w.heap.size w w' := by
  obtain ⟨i2, hi', hz0', hz1', hz2'⟩ := info_parts infoBool
  have Hj := Lib.hid hi'; have Hy0 := Lib.hid hz0'; have Hy1 := Lib.hid hz1'; have Hy2 := Lib.hid hz2'
  clear hi' hz0' hz1' hz2'
  have HH := Lib.hid hH; have HZ := Lib.hid hrow
  clear hH hrow
  go_enter Tryd.func11, Tryd.ntmps11
  go_wp2_with fail
  (with_reducible refine (known_any w HH.out).mono ?_)
  rintro e W1 ⟨rfl, h1⟩
  have B1 := bt (Below.refl _ _) h1
  clear h1
  go_wp2_with fail
  (with_reducible refine (made_S a cap zs W1 (HZ.out.below B1)).mono ?_)
  rintro e W2 ⟨a2, c2, M, rfl, hM, hl, hS2, h2⟩
  have HR := Lib.hid hS2
  clear hS2
  have B2 := bt B1 h2
  clear h2 B1
  have hz : MadeS M := madeS hM hl
  clear hM
  have k0 := Int.emod_nonneg z (show (14 : Int) ≠ 0 by decide)
  have k1 := Int.emod_lt_of_pos z (show (0 : Int) < 14 by decide)
  have hm := Lib.hid (fun w => mod_any z 14 w (by decide) (by decide))
  obtain ⟨now, hk⟩ : ∃ k, z % 14 = k := ⟨_, rfl⟩
  rw [hk] at hm k0 k1
  clear hk
  have HQ := Lib.hid hz
  have hda : ∀ x ∈ M, x.b.da.size ≤ maxLen := fun x hx => (hz.gd x hx).1
  have HD := Lib.hid hda
  have hbi : ∀ x ∈ M, BnI x.b := fun x hx => by obtain ⟨i, hi, rfl⟩ := List.getElem_of_mem hx; exact bcode_i (hz.v.code hi)
  have HB := Lib.hid hbi
  clear hda hbi hz
  have s2 := B2.size
  go_upto_region 4 with (go_at_call 47; (with_reducible refine (hm.out _).mono ?_); rintro e Wx ⟨rfl, rfl⟩)
  go_wp2_with (refine wpList_make_row _ rfl _ _ 73 rfl 4 i2 (.bool false) Tryd.underlying73 Hj.out Hy0.out Hy1.out rfl .i64 .i64 M.length rfl rfl (by rw [Hy2.out]; omega) (by omega) ?_)
  obtain ⟨V, hV⟩ : ∃ V, V = W2.alloc (.cells (madeCells #[.bool false] M.length) 4) := ⟨_, rfl⟩
  obtain ⟨sb, hsb⟩ : ∃ s, s = W2.heap.size := ⟨_, rfl⟩
  have kb : blk V sb = some (cellB (seenB M now ((0 : Nat) : Int))) := by
    show blk V sb = some (cellB (seenB M now 0))
    rw [seen_zero HQ.out, ← cellB_made, hV, hsb]; exact blk_alloc_new _ _ _ rfl
  have BV : Below w.heap.size w V := by rw [hV]; exact B2.alloc B2.size _
  have hq : Below W2.heap.size W2 V := by rw [hV]; exact (Below.refl _ _).alloc (Nat.le_refl _) _
  have HR2 : Hid (SRow itm 13 V a2 c2 M ∧ blk V sb = some (cellB (seenB M now ((0 : Nat) : Int)))) := Lib.hid ⟨HR.out.below hq, kb⟩
  have HSB : Hid (w.heap.size ≤ sb) := Lib.hid (by rw [hsb]; exact s2)
  rw [← hV, ← hsb]
  clear hV hsb HR kb hq B2 hm s2
  go_loopw [8] (fun ti wr => ∃ p : Nat, ti = .int .i64 p ∧ p ≤ 3 ∧ Below w.heap.size w wr ∧ Hid (SRow itm 13 wr a2 c2 M ∧ blk wr sb = some (cellB (seenB M now p)))) (fun ti _ => 3 - (intOf ti).toNat)
  case atStart => exact ⟨0, rfl, by omega, BV, HR2⟩
  case round =>
    clear HR2 BV
    obtain ⟨p, rfl, hp, hB, hR⟩ := hrel
    by_cases hlt : p < 3
    · have t1 : decide ((p : Int) < 3) = true := decide_eq_true (by omega)
      obtain ⟨K, hKd⟩ : ∃ K, K = lstF M p now := ⟨_, rfl⟩
      have gF : Calls Tryd.prog 24 #[.slice a2 M.length c2, .int .i64 p, .int .i64 now] wr fun e w' => RetN (K, 0) wr e w' := (by
        have h9 := for_any a2 c2 M p now HD.out (by omega) wr hR.out.1
        rw [forS_made HQ.out (by omega) (by omega) k0 k1, ← hKd] at h9
        exact h9)
      have HKd := Lib.hid hKd; have GF := Lib.hid gF
      clear hKd gF
      go_wp2_with fail
      refine (GF.out).mono ?_
      rintro e W5 ⟨aK, cK, rfl, hKS, h5⟩
      have B5 := bt hB h5
      have HS : Hid (SRow itm 13 W5 a2 c2 M ∧ SRow ic 1 W5 aK cK K ∧ blk W5 sb = some (cellB (setK (seenB M now p) (K.take 0)))) := Lib.hid ⟨hR.out.1.below h5, hKS, blk_below h5 hR.out.2⟩
      clear hKS h5 hB hR GF
      have hKl : K.length ≤ 12 := (by rw [HKd.out]; unfold lstF; rw [isort_length]; exact Nat.le_trans (chL_len _ _ _ _) hl)
      go_wp2_with fail
      go_loopw [11] (fun ti wr => ∃ i : Nat, ti = .int .i64 i ∧ i ≤ K.length ∧ Below w.heap.size w wr ∧ Hid (SRow itm 13 wr a2 c2 M ∧ SRow ic 1 wr aK cK K ∧ blk wr sb = some (cellB (setK (seenB M now p) (K.take i))))) (fun ti _ => K.length - (intOf ti).toNat)
      case atStart => exact ⟨0, rfl, Nat.zero_le _, B5, HS⟩
      case round =>
        clear HS B5
        obtain ⟨i, rfl, hi, hB, hR⟩ := hrel
        by_cases hil : i < K.length
        · have i2' : (i : Int) < (K.length : Int) := by omega
          have hat := lstF_at (M := M) (p := p) (now := now) (i := i) (by rw [← HKd.out]; exact hil)
          simp only [← HKd.out] at hat
          obtain ⟨kn, hkn, hkl, _, hpr, _⟩ := hat
          have hnew : (setK (seenB M now p) (K.take i))[kn]'(by rw [setK_length, seenB_length]; exact hkl) = false := (by
            have h9 := seen_new (M := M) (p := p) (now := now) (i := i) (k := kn) (by rw [← HKd.out]; exact hil) (by simp only [← HKd.out]; exact hkn) hkl
            simp only [← HKd.out] at h9
            exact h9)
          have hstep : (setK (seenB M now p) (K.take i)).set kn true = setK (seenB M now p) (K.take (i + 1)) := (by
            rw [List.take_succ_eq_append_getElem hil, setK_snoc, hkn]; rfl)
          obtain ⟨S, hS⟩ : ∃ S, S = setK (seenB M now p) (K.take i) := ⟨_, rfl⟩
          have hSl : S.length = M.length := (by rw [hS, setK_length, seenB_length])
          have hS0 : S[kn]'(by rw [hSl]; exact hkl) = false := (by simp only [hS]; exact hnew)
          rw [← hS] at hR hstep
          have HST := Lib.hid hstep; have HS0 := Lib.hid hS0; have HKN := Lib.hid hkn; have HPR := Lib.hid hpr; have HKL := Lib.hid hkl; have HSL := Lib.hid hSl
          clear hS hnew hstep hS0
          obtain ⟨pb, po, rfl, _, _⟩ := hR.out.1.2.2.2 (by omega)
          obtain ⟨qb, qo, rfl, _, _⟩ := hR.out.2.1.2.2.2 (by omega)
          have l1 : (kn : Int) < (M.length : Int) := by omega
          have d1 : decide ((kn : Int) < 0) = false := decide_eq_false (by omega)
          have d2 : decide ((M.length : Int) ≤ (kn : Int)) = false := decide_eq_false (by omega)
          have d2' : decide (M.length ≤ kn) = false := decide_eq_false (by omega)
          have u1 : ((p : Int) != (p : Int)) = false := by simp
          have fin : ∀ W, Hid (SRow itm 13 W (some ⟨pb, po, none⟩) c2 M ∧ SRow ic 1 W (some ⟨qb, qo, none⟩) cK K ∧ blk W sb = some (cellB S)) → (W.cell? ⟨qb, qo + i, none⟩ = some (.int .i64 kn) ∧ W.cell? ⟨pb, po + kn * 13 + 4, none⟩ = some (.int .i64 p) ∧ W.cell? ⟨sb, kn, none⟩ = some (.bool false)) ∧ qb < W.heap.size ∧ pb < W.heap.size ∧ sb < W.heap.size := (by
            intro W h
            have h1 := srow_atG h.out.2.1 hil
            have h2 := srow_atG h.out.1 HKL.out
            have c1 := h1.2 0 _ rfl
            have c2 := h2.2 4 _ rfl
            rw [Nat.mul_one, HKN.out] at c1
            rw [HPR.out] at c2
            refine ⟨⟨c1, c2, ?_⟩, h1.1, h2.1, blk_lt h.out.2.2⟩
            rw [blk_cell h.out.2.2, cellB_at (by rw [HSL.out]; exact HKL.out), HS0.out])
          have FIN := Lib.hid fin
          clear fin hkn hpr
          rcases Nat.eq_zero_or_pos i with h0 | h0
          · have d3 : decide ((0 : Int) < (i : Int)) = false := decide_eq_false (by omega)
            have d3' : decide (0 < i) = false := decide_eq_false (by omega)
            clear h0
            go_wp2_with fail
            refine wp_region_in (by kernel_rfl) (by kernel_rfl) ?_
            intro W0 hE hN
            have hR0 : Hid (SRow itm 13 W0 (some ⟨pb, po, none⟩) c2 M ∧ SRow ic 1 W0 (some ⟨qb, qo, none⟩) cK K ∧ blk W0 sb = some (cellB S)) := (by rw [hE.out]; exact hR)
            have hB0 : Below w.heap.size w W0 := (by rw [hE.out]; exact hB)
            obtain ⟨⟨f1, f2, f3⟩, g1, g2, g3⟩ := FIN.out W0 hR0
            have n1 := calm_cell g1 f1; have n2 := calm_cell g2 f2; have n3 := calm_cell g3 f3
            clear hE hR hB f1 f2 f3 g1 g2 g3
            repeat (go_big_quiet_step (fail))
            refine wpQuiet_nil ?_
            rintro _ ⟨x', rfl⟩
            have hB2 := bt hB0 x'.ok
            have hR2 : Hid (SRow itm 13 x'.wd (some ⟨pb, po, none⟩) c2 M ∧ SRow ic 1 x'.wd (some ⟨qb, qo, none⟩) cK K ∧ blk x'.wd sb = some (cellB S)) := Lib.hid ⟨hR0.out.1.below x'.ok, hR0.out.2.1.below x'.ok, blk_below x'.ok hR0.out.2.2⟩
            obtain ⟨u, hu⟩ : ∃ u, u = x'.wd := ⟨_, rfl⟩
            rw [← hu] at hB2 hR2 ⊢
            clear hu x' hN n1 n2 n3 hB0 hR0
            obtain ⟨⟨f1, f2, f3⟩, g1, g2, g3⟩ := FIN.out u hR2
            have z3 := blk_frozen hR2.out.2.2 kn
            have e1 : qb ≠ sb := ne_bool hR2.out.2.2 f1
            have e2 : pb ≠ sb := ne_bool hR2.out.2.2 f2
            have ls : S.length = M.length := HSL.out
            have q4 : (kn : Int) < (M.length : Int) := l1
            clear f2 ls
            have hB3 : Below w.heap.size w (u.setCell ⟨sb, kn, none⟩ (.bool true)) := hB2.setCell (by exact HSB.out) _
            have hR3 : Hid (SRow itm 13 (u.setCell ⟨sb, kn, none⟩ (.bool true)) (some ⟨pb, po, none⟩) c2 M ∧ SRow ic 1 (u.setCell ⟨sb, kn, none⟩ (.bool true)) (some ⟨qb, qo, none⟩) cK K ∧ blk (u.setCell ⟨sb, kn, none⟩ (.bool true)) sb = some (cellB (setK (seenB M now p) (K.take (i + 1))))) :=
              Lib.hid ⟨hR2.out.1.setOther (fun b o h => by cases h; exact e2) _ _, hR2.out.2.1.setOther (fun b o h => by cases h; exact e1) _ _, by rw [← HST.out, ← cellB_set]; exact blk_set hR2.out.2.2⟩
            go_wp2
            go_roundw
            case rel => exact ⟨i + 1, by go_num, by omega, hB3, hR3⟩
            case measure => simp [intOf]; omega
          · obtain ⟨j, rfl⟩ : ∃ j, i = j + 1 := ⟨i - 1, by omega⟩
            have d3 : decide ((0 : Int) < ((j + 1 : Nat) : Int)) = true := decide_eq_true (by omega)
            have d3' : decide (0 < j + 1) = true := decide_eq_true (by omega)
            have i3 : (j : Int) < (K.length : Int) := by omega
            have sj : ((j + 1 : Nat) : Int) - 1 = (j : Int) := by omega
            have hat := lstF_at (M := M) (p := p) (now := now) (i := j) (by rw [← HKd.out]; omega)
            simp only [← HKd.out] at hat
            obtain ⟨kp, hkp, hkpl, _⟩ := hat
            have l2 : (kp : Int) < (M.length : Int) := by omega
            have hless : ltF M kp kn = true := (by
              have h9 := lstF_less (M := M) HQ.out.v (p := p) (now := now) (j := j) (by rw [← HKd.out]; exact hil)
              simp only [← HKd.out] at h9
              rw [hkp, HKN.out] at h9
              exact h9)
            unfold ltF at hless
            rw [bnAt_nat M kp hkpl, bnAt_nat M kn HKL.out] at hless
            obtain ⟨x, hx⟩ : ∃ x, x = M[kp] := ⟨_, rfl⟩
            obtain ⟨y, hy⟩ : ∃ x, x = M[kn]'HKL.out := ⟨_, rfl⟩
            have gL : ∀ W, Calls Tryd.prog 49 #[.agg (bn x.b).toArray, .agg (bn y.b).toArray] W fun e w' => e = .returned (.bool true) ∧ Below W.heap.size W w' := (by
              intro W
              have h9 := rlessC_any x.b y.b (by rw [hx]; exact HB.out _ (List.getElem_mem _)) (by rw [hy]; exact HB.out _ (List.getElem_mem _)) W
              rw [hx, hy, hless] at h9
              rw [hx, hy]
              exact h9)
            have GL := Lib.hid gL; have HX : Hid (x = M[kp]'hkpl) := Lib.hid hx; have HY := Lib.hid hy; have HKP := Lib.hid hkp; have HPL := Lib.hid hkpl
            clear gL hless hx hy hkp h0
            go_wp2_with fail
            refine wp_region_in (by kernel_rfl) (by kernel_rfl) ?_
            intro W0 hE hN
            have hR0 : Hid (SRow itm 13 W0 (some ⟨pb, po, none⟩) c2 M ∧ SRow ic 1 W0 (some ⟨qb, qo, none⟩) cK K ∧ blk W0 sb = some (cellB S)) := (by rw [hE.out]; exact hR)
            have hB0 : Below w.heap.size w W0 := (by rw [hE.out]; exact hB)
            obtain ⟨⟨f1, f2, f3⟩, g1, g2, g3⟩ := FIN.out W0 hR0
            have f4 : W0.cell? ⟨qb, qo + j, none⟩ = some (.int .i64 kp) := (by
              have h9 := (srow_atG hR0.out.2.1 (j := j) (by omega)).2 0 _ rfl
              rw [Nat.mul_one, HKP.out] at h9
              exact h9)
            have r1 : W0.rangeAt pb (po + kp * 13) (bn x.b) := (by
              have h9 := (srow_atG hR0.out.1 hkpl).2
              rw [← HX.out] at h9
              exact range_bnF h9)
            have r2 : W0.rangeAt pb (po + kn * 13) (bn y.b) := (by
              have h9 := (srow_atG hR0.out.1 HKL.out).2
              rw [← HY.out] at h9
              exact range_bnF h9)
            have n1 := calm_cell g1 f1; have n2 := calm_cell g2 f2; have n3 := calm_cell g3 f3; have n4 := calm_cell g1 f4
            clear hE hR hB f1 f2 f3 f4 g1 g3
            refine wpQuiet_split 48 ?_
            simp only [List.take_succ_cons, List.take_zero, List.drop_succ_cons, List.drop_zero]
            repeat (go_big_quiet_step (fail))
            refine wpQuiet_nil ?_
            refine wpQuiet_load_range 28 (.tmp 88) pb (po + kp * 13) (bn x.b) (fun W hW => by obtain ⟨x', rfl⟩ := hW; exact range_below g2 r1 x'.ok) _ (by kernel_rfl) rfl (by kernel_rfl) Tryd.underlying28 rfl (by kernel_rfl) ?_
            conv => arg 6; simp [Act.put]
            refine wpQuiet_split 7 ?_
            simp only [List.take_succ_cons, List.take_zero, List.drop_succ_cons, List.drop_zero]
            repeat (go_big_quiet_step (fail))
            refine wpQuiet_nil ?_
            refine wpQuiet_load_range 28 (.tmp 96) pb (po + kn * 13) (bn y.b) (fun W hW => by obtain ⟨x', rfl⟩ := hW; exact range_below g2 r2 x'.ok) _ (by kernel_rfl) rfl (by kernel_rfl) Tryd.underlying28 rfl (by kernel_rfl) ?_
            conv => arg 6; simp [Act.put]
            repeat (go_big_quiet_step ((go_at_call 49; (with_reducible refine Class.go _ (GL.out _)))))
            refine wpQuiet_nil ?_
            clear r1 r2 g2 n4
            rintro _ ⟨x', rfl⟩
            have hB2 := bt hB0 x'.ok
            have hR2 : Hid (SRow itm 13 x'.wd (some ⟨pb, po, none⟩) c2 M ∧ SRow ic 1 x'.wd (some ⟨qb, qo, none⟩) cK K ∧ blk x'.wd sb = some (cellB S)) := Lib.hid ⟨hR0.out.1.below x'.ok, hR0.out.2.1.below x'.ok, blk_below x'.ok hR0.out.2.2⟩
            obtain ⟨u, hu⟩ : ∃ u, u = x'.wd := ⟨_, rfl⟩
            rw [← hu] at hB2 hR2 ⊢
            clear hu x' hN n1 n2 n3 hB0 hR0
            obtain ⟨⟨f1, f2, f3⟩, g1, g2, g3⟩ := FIN.out u hR2
            have z3 := blk_frozen hR2.out.2.2 kn
            have e1 : qb ≠ sb := ne_bool hR2.out.2.2 f1
            have e2 : pb ≠ sb := ne_bool hR2.out.2.2 f2
            have ls : S.length = M.length := HSL.out
            have q4 : (kn : Int) < (M.length : Int) := l1
            clear f2 ls
            have hB3 : Below w.heap.size w (u.setCell ⟨sb, kn, none⟩ (.bool true)) := hB2.setCell (by exact HSB.out) _
            have hR3 : Hid (SRow itm 13 (u.setCell ⟨sb, kn, none⟩ (.bool true)) (some ⟨pb, po, none⟩) c2 M ∧ SRow ic 1 (u.setCell ⟨sb, kn, none⟩ (.bool true)) (some ⟨qb, qo, none⟩) cK K ∧ blk (u.setCell ⟨sb, kn, none⟩ (.bool true)) sb = some (cellB (setK (seenB M now p) (K.take (j + 1 + 1))))) :=
              Lib.hid ⟨hR2.out.1.setOther (fun b o h => by cases h; exact e2) _ _, hR2.out.2.1.setOther (fun b o h => by cases h; exact e1) _ _, by rw [← HST.out, ← cellB_set]; exact blk_set hR2.out.2.2⟩
            go_wp2
            go_roundw
            case rel => exact ⟨j + 1 + 1, by go_num, by omega, hB3, hR3⟩
            case measure => simp [intOf]; omega
        · obtain rfl : i = K.length := by omega
          have hR' := hR.out
          rw [List.take_length, HKd.out, seen_done] at hR'
          have HR' : Hid (SRow itm 13 _ a2 c2 M ∧ blk _ sb = some (cellB (seenB M now ((p + 1 : Nat) : Int)))) := Lib.hid ⟨hR'.1, hR'.2.2⟩
          clear hR' hR
          go_wp2
          go_roundw
          case rel => exact ⟨p + 1, by go_num, by omega, hB, HR'⟩
          case measure => simp [intOf]; omega
    · obtain rfl : p = 3 := by omega
      have t1 : decide (((3 : Nat) : Int) < 3) = false := decide_eq_false (by omega)
      have HS := hR
      have B8 := hB
      clear hR hB
      obtain ⟨wE, hwE⟩ : ∃ v, v = wr := ⟨_, rfl⟩
      rw [← hwE] at HS B8 ⊢
      clear hwE
      go_wp2
      go_loopw [12] (fun ti W => ∃ i : Nat, ti = .int .i64 i ∧ i ≤ M.length ∧ Below wE.heap.size wE W) (fun ti _ => M.length - (intOf ti).toNat)
      case atStart => exact ⟨0, rfl, Nat.zero_le _, Below.refl _ _⟩
      case round =>
        obtain ⟨i, rfl, hi, hb⟩ := hrel
        by_cases hil : i < M.length
        · have i1 : (i : Int) < (M.length : Int) := by omega
          obtain ⟨pb, po, rfl, _, _⟩ := HS.out.1.2.2.2 (by omega)
          obtain ⟨x, hx⟩ : ∃ x, x = M[i] := ⟨_, rfl⟩
          have hpr := made_pr HQ.out hil
          have hsv := seen_three HQ.out k0 k1 hil
          rw [← hx] at hpr hsv
          obtain ⟨_, _, b1, b2, b3, b4⟩ := hpr
          have HX := Lib.hid hx; have HIL := Lib.hid hil
          obtain ⟨sv, hsv'⟩ : ∃ v, v = (decide (x.st = 1) && !decide (x.b.bo + x.b.li ≤ now)) := ⟨_, rfl⟩
          rw [← hsv'] at hsv
          have HSV := Lib.hid hsv
          have fin : ∀ W, Below wE.heap.size wE W → (W.cell? ⟨pb, po + i * 13 + 5, none⟩ = some (.int .i64 x.b.bo) ∧ W.cell? ⟨pb, po + i * 13 + 6, none⟩ = some (.int .i64 x.b.li) ∧ W.cell? ⟨pb, po + i * 13 + 9, none⟩ = some (.int .i64 x.st) ∧ W.cell? ⟨sb, i, none⟩ = some (.bool sv)) ∧ pb < W.heap.size ∧ sb < W.heap.size := (by
            intro W h
            have h2 := srow_atG (HS.out.1.below h) HIL.out
            rw [← HX.out] at h2
            have h3 := blk_below h HS.out.2
            refine ⟨⟨h2.2 5 _ rfl, h2.2 6 _ rfl, h2.2 9 _ rfl, ?_⟩, h2.1, blk_lt h3⟩
            have e3 : cellB (seenB M now ((3 : Nat) : Int)) = cellB (seenB M now 3) := rfl
            rw [blk_cell h3, e3, cellB_at (by rw [seenB_length]; exact HIL.out), HSV.out])
          have FIN := Lib.hid fin
          clear fin hsv hx
          by_cases c1 : x.st = 1
          · have q1 : (x.st == 1) = true := by simpa using c1
            by_cases c2 : x.b.bo + x.b.li ≤ now
            · have q2 : decide (x.b.bo + x.b.li ≤ now) = true := decide_eq_true c2
              obtain rfl : sv = false := by rw [hsv']; simp [c1, c2]
              clear hsv' c1 c2
              go_wp2_with fail
              refine wp_region_in (by kernel_rfl) (by kernel_rfl) ?_
              intro W0 hE hN
              have hb0 : Below wE.heap.size wE W0 := (by rw [hE.out]; exact hb)
              obtain ⟨⟨f1, f2, f3, f4⟩, g1, g2⟩ := FIN.out W0 hb0
              have n1 := calm_cell g1 f1; have n2 := calm_cell g1 f2; have n3 := calm_cell g1 f3; have n4 := calm_cell g2 f4
              clear hE hb f1 f2 f3 f4 g1 g2
              repeat (go_big_quiet_step (fail))
              refine wpQuiet_nil ?_
              rintro _ ⟨x', rfl⟩
              have hb := bt hb0 x'.ok
              obtain ⟨u, hu⟩ : ∃ u, u = x'.wd := ⟨_, rfl⟩
              rw [← hu] at hb ⊢
              clear hu x' hN n1 n2 n3 n4 hb0 W0
              go_wp2_with fail
              refine wp_region_in (by kernel_rfl) (by kernel_rfl) ?_
              intro W0 hE hN
              have hb0 : Below wE.heap.size wE W0 := (by rw [hE.out]; exact hb)
              obtain ⟨⟨f1, f2, f3, f4⟩, g1, g2⟩ := FIN.out W0 hb0
              have n1 := calm_cell g1 f1; have n2 := calm_cell g1 f2; have n3 := calm_cell g1 f3; have n4 := calm_cell g2 f4
              clear hE hb f1 f2 f3 f4 g1 g2
              repeat (go_big_quiet_step (fail))
              refine wpQuiet_nil ?_
              rintro _ ⟨x', rfl⟩
              have hb := bt hb0 x'.ok
              obtain ⟨u, hu⟩ : ∃ u, u = x'.wd := ⟨_, rfl⟩
              rw [← hu] at hb ⊢
              clear hu x' hN n1 n2 n3 n4 hb0 W0
              go_wp2
              go_roundw
              case rel => exact ⟨i + 1, by go_num, by omega, hb⟩
              case measure => simp [intOf]; omega
            · have q2 : decide (x.b.bo + x.b.li ≤ now) = false := decide_eq_false c2
              obtain rfl : sv = true := by rw [hsv']; simp [c1, c2]
              clear hsv' c1 c2
              go_wp2_with fail
              refine wp_region_in (by kernel_rfl) (by kernel_rfl) ?_
              intro W0 hE hN
              have hb0 : Below wE.heap.size wE W0 := (by rw [hE.out]; exact hb)
              obtain ⟨⟨f1, f2, f3, f4⟩, g1, g2⟩ := FIN.out W0 hb0
              have n1 := calm_cell g1 f1; have n2 := calm_cell g1 f2; have n3 := calm_cell g1 f3; have n4 := calm_cell g2 f4
              clear hE hb f1 f2 f3 f4 g1 g2
              repeat (go_big_quiet_step (fail))
              refine wpQuiet_nil ?_
              rintro _ ⟨x', rfl⟩
              have hb := bt hb0 x'.ok
              obtain ⟨u, hu⟩ : ∃ u, u = x'.wd := ⟨_, rfl⟩
              rw [← hu] at hb ⊢
              clear hu x' hN n1 n2 n3 n4 hb0 W0
              go_wp2_with fail
              refine wp_region_in (by kernel_rfl) (by kernel_rfl) ?_
              intro W0 hE hN
              have hb0 : Below wE.heap.size wE W0 := (by rw [hE.out]; exact hb)
              obtain ⟨⟨f1, f2, f3, f4⟩, g1, g2⟩ := FIN.out W0 hb0
              have n1 := calm_cell g1 f1; have n2 := calm_cell g1 f2; have n3 := calm_cell g1 f3; have n4 := calm_cell g2 f4
              clear hE hb f1 f2 f3 f4 g1 g2
              repeat (go_big_quiet_step (fail))
              refine wpQuiet_nil ?_
              rintro _ ⟨x', rfl⟩
              have hb := bt hb0 x'.ok
              obtain ⟨u, hu⟩ : ∃ u, u = x'.wd := ⟨_, rfl⟩
              rw [← hu] at hb ⊢
              clear hu x' hN n1 n2 n3 n4 hb0 W0
              go_wp2
              go_roundw
              case rel => exact ⟨i + 1, by go_num, by omega, hb⟩
              case measure => simp [intOf]; omega
          · have q1 : (x.st == 1) = false := by simpa using c1
            by_cases c2 : x.b.bo + x.b.li ≤ now
            · have q2 : decide (x.b.bo + x.b.li ≤ now) = true := decide_eq_true c2
              obtain rfl : sv = false := by rw [hsv']; simp [c1, c2]
              clear hsv' c1 c2
              go_wp2_with fail
              refine wp_region_in (by kernel_rfl) (by kernel_rfl) ?_
              intro W0 hE hN
              have hb0 : Below wE.heap.size wE W0 := (by rw [hE.out]; exact hb)
              obtain ⟨⟨f1, f2, f3, f4⟩, g1, g2⟩ := FIN.out W0 hb0
              have n1 := calm_cell g1 f1; have n2 := calm_cell g1 f2; have n3 := calm_cell g1 f3; have n4 := calm_cell g2 f4
              clear hE hb f1 f2 f3 f4 g1 g2
              repeat (go_big_quiet_step (fail))
              refine wpQuiet_nil ?_
              rintro _ ⟨x', rfl⟩
              have hb := bt hb0 x'.ok
              obtain ⟨u, hu⟩ : ∃ u, u = x'.wd := ⟨_, rfl⟩
              rw [← hu] at hb ⊢
              clear hu x' hN n1 n2 n3 n4 hb0 W0
              go_wp2_with fail
              refine wp_region_in (by kernel_rfl) (by kernel_rfl) ?_
              intro W0 hE hN
              have hb0 : Below wE.heap.size wE W0 := (by rw [hE.out]; exact hb)
              obtain ⟨⟨f1, f2, f3, f4⟩, g1, g2⟩ := FIN.out W0 hb0
              have n1 := calm_cell g1 f1; have n2 := calm_cell g1 f2; have n3 := calm_cell g1 f3; have n4 := calm_cell g2 f4
              clear hE hb f1 f2 f3 f4 g1 g2
              repeat (go_big_quiet_step (fail))
              refine wpQuiet_nil ?_
              rintro _ ⟨x', rfl⟩
              have hb := bt hb0 x'.ok
              obtain ⟨u, hu⟩ : ∃ u, u = x'.wd := ⟨_, rfl⟩
              rw [← hu] at hb ⊢
              clear hu x' hN n1 n2 n3 n4 hb0 W0
              go_wp2
              go_roundw
              case rel => exact ⟨i + 1, by go_num, by omega, hb⟩
              case measure => simp [intOf]; omega
            · have q2 : decide (x.b.bo + x.b.li ≤ now) = false := decide_eq_false c2
              obtain rfl : sv = false := by rw [hsv']; simp [c1, c2]
              clear hsv' c1 c2
              go_wp2_with fail
              refine wp_region_in (by kernel_rfl) (by kernel_rfl) ?_
              intro W0 hE hN
              have hb0 : Below wE.heap.size wE W0 := (by rw [hE.out]; exact hb)
              obtain ⟨⟨f1, f2, f3, f4⟩, g1, g2⟩ := FIN.out W0 hb0
              have n1 := calm_cell g1 f1; have n2 := calm_cell g1 f2; have n3 := calm_cell g1 f3; have n4 := calm_cell g2 f4
              clear hE hb f1 f2 f3 f4 g1 g2
              repeat (go_big_quiet_step (fail))
              refine wpQuiet_nil ?_
              rintro _ ⟨x', rfl⟩
              have hb := bt hb0 x'.ok
              obtain ⟨u, hu⟩ : ∃ u, u = x'.wd := ⟨_, rfl⟩
              rw [← hu] at hb ⊢
              clear hu x' hN n1 n2 n3 n4 hb0 W0
              go_wp2_with fail
              refine wp_region_in (by kernel_rfl) (by kernel_rfl) ?_
              intro W0 hE hN
              have hb0 : Below wE.heap.size wE W0 := (by rw [hE.out]; exact hb)
              obtain ⟨⟨f1, f2, f3, f4⟩, g1, g2⟩ := FIN.out W0 hb0
              have n1 := calm_cell g1 f1; have n2 := calm_cell g1 f2; have n3 := calm_cell g1 f3; have n4 := calm_cell g2 f4
              clear hE hb f1 f2 f3 f4 g1 g2
              repeat (go_big_quiet_step (fail))
              refine wpQuiet_nil ?_
              rintro _ ⟨x', rfl⟩
              have hb := bt hb0 x'.ok
              obtain ⟨u, hu⟩ : ∃ u, u = x'.wd := ⟨_, rfl⟩
              rw [← hu] at hb ⊢
              clear hu x' hN n1 n2 n3 n4 hb0 W0
              go_wp2
              go_roundw
              case rel => exact ⟨i + 1, by go_num, by omega, hb⟩
              case measure => simp [intOf]; omega
        · obtain rfl : i = M.length := by omega
          have hB9 := B8
          have BF := hB9.trans (hb.mono hB9.size)
          go_wp2
          go_ret
          exact ⟨rfl, BF⟩
theorem storeFor_at (a : Option Addr) (len cap : Nat) (zs : List Int) (z : Int) (w : World) (h : IsRow .i64 w a len cap zs) (hT : Lib.TabIs Tryd.prog w headsNm .u8 headsTab) :
    Calls Tryd.prog 11 #[.slice a len cap, .int .i64 z] w fun e w' => e = .returned (.bool true) ∧ Below w.heap.size w w' := by
  obtain ⟨e, hr⟩ := row_of h
  have := storeFor_walk a cap (zs.take len) z w (htab_of hT) hr
  rw [← e] at this
  exact this
end Go.Proofs.YtahopnlibmiafaaDoor
