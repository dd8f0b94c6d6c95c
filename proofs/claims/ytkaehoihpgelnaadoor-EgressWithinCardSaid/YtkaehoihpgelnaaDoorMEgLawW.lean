/- Parts of a proof, printed by a program of mine out of my texts: EgLawW. -/
import Derived.Test.YtkaehoihpgelnaaDoorMP
import Derived.Test.YtkaehoihpgelnaaDoorMX9
set_option linter.unusedSimpArgs false
set_option linter.unusedVariables false
namespace Go.Proofs.YtkaehoihpgelnaaDoor
open Go.RowKit
theorem allS_lenW : ∀ (n : Nat) (w : Wy), (allS n w).1.length ≤ n
  | 0, w => Nat.le_refl _
  | n + 1, w => by
    by_cases hz : (chooseS w).2.2 = 0
    · rw [allS_succ hz]
      have := allS_lenW n (stepW w)
      simp only [List.length_cons]; omega
    · rw [allS_zero hz]; simp
theorem sumZ_le {sz : List Int} : ∀ {L : List Int}, (∀ x ∈ L, at3 sz x ≤ 1200) → sumZ sz L ≤ 1200 * (L.length : Int)
  | [], _ => by simp [sumZ]
  | x :: L, h => by
    have h1 := h x (by simp)
    have h2 := sumZ_le (L := L) (fun y hy => h y (List.mem_cons_of_mem _ hy))
    rw [sumZ_cons, List.length_cons]; omega
set_option maxRecDepth 100000 in
set_option maxHeartbeats 800000 in
theorem sizeE_any (x : Bn) (hda : x.da.size ≤ maxLen) (hsq : 0 ≤ x.sq) (w : World) : Calls Tryd.prog 28 #[.agg #[.int .i64 x.no, .int .u64 x.sq, .int .i64 x.of, .int .i64 x.de, .int .i64 x.pr, .int .i64 x.bo, .int .i64 x.li, .int .i64 x.to, .string x.da]] w fun e w' => e = .returned (.int .i64 (szB x)) ∧ Below w.heap.size w w' := by
  obtain ⟨s, hs⟩ : ∃ s, szB x = s := ⟨_, rfl⟩
  have G : Hid (∀ W, Calls Tryd.prog 54 #[.agg #[.int .i64 x.no, .int .u64 x.sq, .int .i64 x.of, .int .i64 x.de, .int .i64 x.pr, .int .i64 x.bo, .int .i64 x.li, .int .i64 x.to, .string x.da]] W fun e w' => ∃ z, e = .returned (.tuple #[.int .i64 s, .int .i64 z]) ∧ Below W.heap.size W w') := Lib.hid (fun W => by
    have h9 := refSizeB_any x.no x.sq x.of x.de x.pr x.bo x.li x.to x.da hda hsq W
    rw [← hs]
    exact h9.mono fun e w' h => ⟨_, h.1, h.2⟩)
  rw [hs]
  clear hs hda hsq
  go_enter Tryd.func28, Tryd.ntmps28
  go_wp2_with (go_at_call 54; (with_reducible refine (G.out _).mono ?_); rintro e w1 ⟨z, rfl, h1⟩)
  go_ret
  exact ⟨rfl, bta h1⟩
def LpW (W : World) (al a1 : Option Addr) (cl c1 sb eb : Nat) (l : List Bn) (L : List Int) (S : List Bool) (c : Array Value) (r : Rr) (ps : List Int) : Prop :=
  SRow bn 9 W al cl l ∧ SRow ic 1 W a1 c1 L ∧ blk W sb = some (cellB S) ∧ blk W eb = some c ∧ ExitS (or2 (fun _ => False) sb sb) W c r ps
theorem LpW.below {W W' : World} {al a1 : Option Addr} {cl c1 sb eb : Nat} {l : List Bn} {L : List Int} {S : List Bool} {c : Array Value} {r : Rr} {ps : List Int} (h : LpW W al a1 cl c1 sb eb l L S c r ps) (hb : Below W.heap.size W W') : LpW W' al a1 cl c1 sb eb l L S c r ps :=
  ⟨h.1.below hb, h.2.1.below hb, blk_below hb h.2.2.1, blk_below hb h.2.2.2.1, h.2.2.2.2.below hb⟩
theorem LpW.step {W : World} {al a1 : Option Addr} {cl c1 sb eb : Nat} {l : List Bn} {L : List Int} {S : List Bool} {c : Array Value} {r : Rr} {ps : List Int} (h : LpW W al a1 cl c1 sb eb l L S c r ps) (nl : neA sb al l) (na : neA sb a1 L) (hne : eb ≠ sb) (m : Nat) :
    LpW (W.setCell ⟨sb, m, none⟩ (.bool true)) al a1 cl c1 sb eb l L (S.set m true) c r ps := by
  have s1 : SameB sb W (W.setCell ⟨sb, m, none⟩ (.bool true)) := (SameB.refl _ _).set _ _
  exact ⟨h.1.sameB s1 nl, h.2.1.sameB s1 na, by rw [← cellB_set]; exact blk_set h.2.2.1, blk_same h.2.2.2.1 hne s1, h.2.2.2.2.sameB s1 or2_1⟩
set_option maxRecDepth 100000 in
set_option maxHeartbeats 6400000 in
theorem egressWithin_walk (a : Option Addr) (cap : Nat) (zs : List Int) (z1 z2 z3 : Int) (w : World) (hH : HTab w) (hrow : Row .i64 w a cap zs) :
    Calls Tryd.prog 6 #[.slice a zs.length cap, .int .i64 z1, .int .i64 z2, .int .i64 z3] w fun e w' => e = .returned (.bool true) ∧ Below w.heap.size w w' := by
  obtain ⟨i2, hi', hz0', hz1', hz2'⟩ := info_parts infoBu
  have Hj := Lib.hid hi'; have Hy0 := Lib.hid hz0'; have Hy1 := Lib.hid hz1'; have Hy2 := Lib.hid hz2'
  clear hi' hz0' hz1' hz2'
  obtain ⟨i3, hi', hz0', hz1', hz2'⟩ := info_parts infoBool
  have Bj := Lib.hid hi'; have By0 := Lib.hid hz0'; have By1 := Lib.hid hz1'; have By2 := Lib.hid hz2'
  clear hi' hz0' hz1' hz2'
  have HH := Lib.hid hH; have HZ := Lib.hid hrow
  clear hH hrow
  go_enter Tryd.func6, Tryd.ntmps6
  go_wp2_with fail
  (with_reducible refine (madeE_any a cap zs w HZ.out).mono ?_)
  rintro e W1 ⟨v1, l, rfl, hM, ho1, B1⟩
  obtain ⟨al, cl, rfl, hSl, _⟩ := srow_of_owns bn_len ho1
  clear ho1
  have h12 := hM.len
  have HM := Lib.hid hM
  have HSl := Lib.hid hSl
  have g1 := Lib.hid (fun w => mod_any z1 900 w (by decide) (by decide))
  have g2 := Lib.hid (fun w => mod_any z2 900 w (by decide) (by decide))
  have g3 := Lib.hid (fun w => mod_any z3 5 w (by decide) (by decide))
  have a1 := Int.emod_nonneg z1 (show (900 : Int) ≠ 0 by decide)
  have a2 := Int.emod_lt_of_pos z1 (show (0 : Int) < 900 by decide)
  have a3 := Int.emod_nonneg z2 (show (900 : Int) ≠ 0 by decide)
  have a4 := Int.emod_lt_of_pos z2 (show (0 : Int) < 900 by decide)
  have a5 := Int.emod_nonneg z3 (show (5 : Int) ≠ 0 by decide)
  have a6 := Int.emod_lt_of_pos z3 (show (0 : Int) < 5 by decide)
  obtain ⟨us, e1⟩ : ∃ v, z1 % 900 = v := ⟨_, rfl⟩
  obtain ⟨bu, e2⟩ : ∃ v, z2 % 900 = v := ⟨_, rfl⟩
  obtain ⟨by', e3⟩ : ∃ v, z3 % 5 = v := ⟨_, rfl⟩
  rw [e1] at g1 a1 a2; rw [e2] at g2 a3 a4; rw [e3] at g3 a5 a6
  clear e1 e2 e3
  have hA := within_all hM (us := us) (bu := bu) (by' := by') (by omega) (by omega) (by omega)
  have hA9 := allS_lenW (l.length + 1) (firW l us bu by')
  have O1 := made_opn hM (us := us) (bu := bu) (by' := by') (by omega) (by omega) (by omega)
  obtain ⟨R, hR⟩ : ∃ R, R = allS (l.length + 1) (firW l us bu by') := ⟨_, rfl⟩
  rw [← hR] at hA hA9
  obtain ⟨L, y⟩ := R
  simp only at hA9
  have GA := Lib.hid (fun W c (hB : Below W1.heap.size W1 W) (hX : ExitS (fun _ => False) W c fstR [0, 0, 0]) => (show Calls Tryd.prog 11 #[.agg c, .slice al l.length cl, .int .u64 us, .int .i64 bu, .int .i64 by'] W fun e w' => RetAl (fun _ => False) L y W e w' from by
    have h9 := allX_any O1 (l.length + 1) (Nat.lt_succ_self _) c al cl W ((HH.out.on B1).on hB) (fun _ => False) (fun _ h => h.elim) hX (hSl.below hB) (fun _ _ _ _ h => h)
    rw [opn_fir, ← hR] at h9
    exact h9))
  have HA := Lib.hid hA
  obtain ⟨xr, hxr⟩ : ∃ v, v = y.dr := ⟨_, rfl⟩
  obtain ⟨xp, hxp⟩ : ∃ v, v = y.ps := ⟨_, rfl⟩
  unfold RetAl at GA
  rw [← hxr, ← hxp] at GA
  have HXR := Lib.hid (And.intro hxr hxp)
  have m1 : IntKind.u64.wrap us = us := IntWalk.u64_in _ (by omega)
  have t1 : ((0 : Int) != 0) = false := rfl
  clear hSl hM hA hR hxr hxp O1
  go_upto_region 4 with (first
    | (go_at_call 15; first | (with_reducible refine (g1.out _).mono ?_; rintro e wx ⟨rfl, rfl⟩) | (with_reducible refine (g2.out _).mono ?_; rintro e wx ⟨rfl, rfl⟩) | (with_reducible refine (g3.out _).mono ?_; rintro e wx ⟨rfl, rfl⟩))
    | (go_at_call 12; (with_reducible refine (first_any _).mono ?_); rintro e W2 ⟨f1, f2, f3, f4, f5, f6, rfl, R1, R2, R3, U1, U2, U3, h2⟩; (have X1 := first_exit (w := W1) (fun _ => False) (fun _ h => h.elim) R1 R2 R3 U1 U2 U3); clear R1 R2 R3 U1 U2 U3)
    | (go_at_call 11; (with_reducible refine (GA.out _ _ h2 X1).mono ?_); rintro e W3 ⟨o1, oc, cc, rfl, RO, hE, h3, UO⟩; (have b3 := bt h2 h3); (have HE := Lib.hid hE); obtain ⟨xa, xb, xc, xd, xe, xf, rfl, _⟩ := hE; clear X1 h2 h3 UO))
  go_upto_region 7 with fail
  go_upto_region 9 with (refine wpList_make_row _ rfl _ _ 34 rfl 4 i3 (.bool false) Tryd.underlying34 Bj.out By0.out By1.out rfl .i64 .i64 l.length rfl rfl (by rw [By2.out]; omega) (by omega) ?_)
  obtain ⟨V, hV⟩ : ∃ V, V = (W3.alloc (.cells #[.slice xa 3 xb, .int .i64 xr.q, .slice xc 3 xd, .int .i64 xr.t, .slice xe 3 xf] 28)).alloc (.cells (madeCells #[.bool false] l.length) 4) := ⟨_, rfl⟩
  obtain ⟨eb, heb⟩ : ∃ s, s = W3.heap.size := ⟨_, rfl⟩
  obtain ⟨sb, hsb⟩ : ∃ s, s = W3.heap.size + 1 := ⟨_, rfl⟩
  have qV : Below W3.heap.size W3 V := by rw [hV]; exact ((Below.refl _ _).alloc (Nat.le_refl _) _).alloc (by simp) _
  have kb : blk V sb = some (cellB (seenE l.length L 0)) := by rw [hV, hsb, seenE_zero, ← cellB_made]; exact blk_alloc_new _ _ _ (by simp)
  have ke : blk V eb = some #[.slice xa 3 xb, .int .i64 xr.q, .slice xc 3 xd, .int .i64 xr.t, .slice xe 3 xf] := by rw [hV, heb]; exact blk_alloc (blk_alloc_new _ _ _ rfl) _
  have SL3 := HSl.out.below b3
  have NL : Hid (neA sb al l) := Lib.hid (SL3.neNew (by omega))
  have NA : Hid (neA sb o1 L) := Lib.hid (RO.neNew (by omega))
  have HI : Hid (LpW V al o1 cl oc sb eb l L (seenE l.length L 0) #[.slice xa 3 xb, .int .i64 xr.q, .slice xc 3 xd, .int .i64 xr.t, .slice xe 3 xf] xr xp) := Lib.hid ⟨SL3.below qV, RO.below qV, kb, ke, (HE.out.or (g := sb) (g2 := sb) (by omega) (by omega)).below qV⟩
  have s3 := (bt B1 b3).size
  have BV : Below w.heap.size w V := bt (bt B1 b3) qV
  have hsl : Hid (w.heap.size ≤ sb ∧ eb ≠ sb) := Lib.hid (by omega)
  rw [← hV, ← hsb, ← heb]
  clear hV hsb heb qV kb ke SL3 RO b3 GA HSl B1 s3 HE g1 g2 g3
  obtain ⟨sz, hsz⟩ : ∃ s, s = sizesE l := ⟨_, rfl⟩
  have HSZ := Lib.hid hsz
  clear hsz
  go_loopw [13, 15] (fun vs ti wr => ∃ (i : Nat) (s : Int), ti = .int .i64 i ∧ vs = .int .i64 s ∧ i ≤ L.length ∧ 0 ≤ s ∧ s ≤ 1200 * (i : Int) ∧ Below w.heap.size w wr ∧ Hid (LpW wr al o1 cl oc sb eb l L (seenE l.length L i) #[.slice xa 3 xb, .int .i64 xr.q, .slice xc 3 xd, .int .i64 xr.t, .slice xe 3 xf] xr xp ∧ s = sumZ sz (L.take i))) (fun _ ti _ => L.length - (intOf ti).toNat)
  case atStart => exact ⟨0, 0, rfl, rfl, Nat.zero_le _, Int.le_refl _, by omega, BV, Lib.hid ⟨HI.out, rfl⟩⟩
  case round =>
    clear HI BV
    obtain ⟨i, s, rfl, rfl, hi, s0, s1, hB, hR⟩ := hrel
    by_cases hil : i < L.length
    · have i2' : (i : Int) < (L.length : Int) := by omega
      obtain ⟨m, hm, hml⟩ := HA.out.mem i hil
      have hm : L[i] = (m : Int) := hm
      have hnew := seenE_new hil hm HA.out.nd hml
      have hSs := seenE_set (n := l.length) hil hm
      have hsm := sumZ_snoc (sz := sz) hil
      have hzz := HA.out.sz m hml
      rw [hm] at hsm
      have HZ9 : szB l[m] = at3 sz m := by rw [HSZ.out, sizesE_at l m hml]
      rw [← HSZ.out] at hzz
      obtain ⟨S, hS⟩ : ∃ S, S = seenE l.length L i := ⟨_, rfl⟩
      have hSl : S.length = l.length := by rw [hS, seenE_len]
      have hS0 : S[m]'(by rw [hSl]; exact hml) = false := by simp only [hS]; exact hnew
      rw [← hS] at hR hSs
      have hne : ¬ sb = eb := Ne.symm hsl.out.2
      have NX : Hid (∀ W, LpW W al o1 cl oc sb eb l L S #[.slice xa 3 xb, .int .i64 xr.q, .slice xc 3 xd, .int .i64 xr.t, .slice xe 3 xf] xr xp → LpW (W.setCell ⟨sb, m, none⟩ (.bool true)) al o1 cl oc sb eb l L (seenE l.length L (i + 1)) #[.slice xa 3 xb, .int .i64 xr.q, .slice xc 3 xd, .int .i64 xr.t, .slice xe 3 xf] xr xp) := Lib.hid (fun W h => by
        rw [← hSs]
        exact h.step NL.out NA.out hsl.out.2 m)
      obtain ⟨pb, po, rfl, _, _⟩ := hR.out.1.1.2.2.2 (by omega)
      obtain ⟨qb, qo, rfl, _, _⟩ := hR.out.1.2.1.2.2.2 (by omega)
      obtain ⟨x, hx⟩ : ∃ x, x = l[m] := ⟨_, rfl⟩
      have RD : Hid (∀ W, LpW W (some ⟨pb, po, none⟩) (some ⟨qb, qo, none⟩) cl oc sb eb l L S #[.slice xa 3 xb, .int .i64 xr.q, .slice xc 3 xd, .int .i64 xr.t, .slice xe 3 xf] xr xp → W.cell? ⟨qb, qo + i, none⟩ = some (.int .i64 m) ∧ W.cell? ⟨sb, m, none⟩ = some (.bool false) ∧ qb < W.heap.size ∧ sb < W.heap.size ∧ pb < W.heap.size ∧ W.rangeAt pb (po + m * 9) (bn x)) := Lib.hid (by
        intro W h
        have h1 := srow_atG h.2.1 hil
        have h2 := srow_atG h.1 hml
        have c1 := h1.2 0 _ rfl
        rw [Nat.mul_one, hm] at c1
        refine ⟨c1, ?_, h1.1, blk_lt h.2.2.1, h2.1, by rw [hx]; exact h2.2⟩
        rw [blk_cell h.2.2.1, cellB_at (by rw [hSl]; exact hml), hS0])
      have GZ : Hid (∀ W, Calls Tryd.prog 28 #[.agg #[.int .i64 x.no, .int .u64 x.sq, .int .i64 x.of, .int .i64 x.de, .int .i64 x.pr, .int .i64 x.bo, .int .i64 x.li, .int .i64 x.to, .string x.da]] W fun e w' => e = .returned (.int .i64 (at3 sz m)) ∧ Below W.heap.size W w') := Lib.hid (fun W => by
        have hf := bcode_facts (HM.out.ok m hml)
        have h9 := sizeE_any x (by rw [hx]; exact hf.2.2.1) (by rw [hx, HM.out.sq m hml]; omega) W
        rw [hx, HZ9] at h9
        rw [hx]
        exact h9)
      obtain ⟨z, hz⟩ : ∃ z, at3 sz m = z := ⟨_, rfl⟩
      rw [hz] at hsm hzz GZ
      have HSM : Hid (sumZ sz (L.take (i + 1)) = s + z) := Lib.hid (by rw [hsm, hR.out.2])
      have l1 : (m : Int) < (l.length : Int) := by omega
      have d1 : decide ((m : Int) < 0) = false := decide_eq_false (by omega)
      have d2 : decide ((l.length : Int) ≤ (m : Int)) = false := decide_eq_false (by omega)
      have d2' : decide (l.length ≤ m) = false := decide_eq_false (by omega)
      have w1 : IntKind.i64.wrap (s + z) = s + z := IntWalk.i64_in _ (by omega)
      have HML := Lib.hid hml
      have ls := hSl
      clear hS hnew hSs hS0 hm hSl hx hz hsm HZ9
      have R0 := RD.out _ hR.out.1
      have c1 := R0.1; have c3 := R0.2.1
      have hR1 := Lib.hid hR.out.1
      clear R0 hR
      go_upto_region 13 with fail
      clear c1 c3
      refine wp_region_held_drew (S := fun W => W.cell? ⟨qb, qo + i, none⟩ = some (.int .i64 m) ∧ W.rangeAt pb (po + m * 9) (bn x)) (by kernel_rfl) ⟨(RD.out _ hR1.out).1, (RD.out _ hR1.out).2.2.2.2.2⟩ (fun hHeld => ?_)
      obtain ⟨d0, ed⟩ : ∃ v, v = wr.drew := ⟨_, rfl⟩
      have hRd : Hid (LpW d0 (some ⟨pb, po, none⟩) (some ⟨qb, qo, none⟩) cl oc sb eb l L S #[.slice xa 3 xb, .int .i64 xr.q, .slice xc 3 xd, .int .i64 xr.t, .slice xe 3 xf] xr xp) := (by rw [ed]; exact hR1)
      have bd0 : Below w.heap.size w d0 := (by rw [ed]; exact hB.drew)
      rw [← ed] at hHeld ⊢
      clear ed hR1 hB
      refine wpAnyH_take (i := 0) (oi := _) (v := ?_) rfl (by kernel_rfl) (by kernel_rfl) (by kernel_rfl) (fun _ _ _ h => h) (Or.inl ⟨by rfl, ?_⟩) (by assumption) ?_
      rotate_left
      focus (intro W hSw; (try dsimp only at hSw); go_simp; (try with_reducible rfl))
      (try simp only [Act.put, List.setIfInBounds_toArray, List.set_cons_zero, List.set_cons_succ, List.getElem_toArray, List.getElem_cons_succ, List.getElem_cons_zero])
      refine wpAnyH_take (i := 1) (oi := _) (v := ?_) rfl (by kernel_rfl) (by kernel_rfl) (by kernel_rfl) (fun _ _ _ h => h) (Or.inl ⟨by rfl, ?_⟩) (by assumption) ?_
      rotate_left
      focus (intro W hSw; (try dsimp only at hSw); go_simp; (try with_reducible rfl))
      (try simp only [Act.put, List.setIfInBounds_toArray, List.set_cons_zero, List.set_cons_succ, List.getElem_toArray, List.getElem_cons_succ, List.getElem_cons_zero])
      refine wpAnyH_take (i := 2) (oi := _) (v := ?_) rfl (by kernel_rfl) (by kernel_rfl) (by kernel_rfl) (fun _ _ _ h => h) (Or.inl ⟨by rfl, ?_⟩) (by assumption) ?_
      rotate_left
      focus (intro W hSw; (try dsimp only at hSw); go_simp; (try with_reducible rfl))
      (try simp only [Act.put, List.setIfInBounds_toArray, List.set_cons_zero, List.set_cons_succ, List.getElem_toArray, List.getElem_cons_succ, List.getElem_cons_zero])
      refine wpAnyH_take (i := 3) (oi := _) (v := ?_) rfl (by kernel_rfl) (by kernel_rfl) (by kernel_rfl) (fun _ _ _ h => h) (Or.inl ⟨by rfl, ?_⟩) (by assumption) ?_
      rotate_left
      focus (intro W hSw; (try dsimp only at hSw); go_simp; (try with_reducible rfl))
      (try simp only [Act.put, List.setIfInBounds_toArray, List.set_cons_zero, List.set_cons_succ, List.getElem_toArray, List.getElem_cons_succ, List.getElem_cons_zero])
      refine wpAnyH_take (i := 4) (oi := _) (v := ?_) rfl (by kernel_rfl) (by kernel_rfl) (by kernel_rfl) (fun _ _ _ h => h) (Or.inl ⟨by rfl, ?_⟩) (by assumption) ?_
      rotate_left
      focus (intro W hSw; (try dsimp only at hSw); go_simp; (try with_reducible rfl))
      (try simp only [Act.put, List.setIfInBounds_toArray, List.set_cons_zero, List.set_cons_succ, List.getElem_toArray, List.getElem_cons_succ, List.getElem_cons_zero])
      refine wpAnyH_take (i := 5) (oi := _) (v := ?_) rfl (by kernel_rfl) (by kernel_rfl) (by kernel_rfl) (fun _ _ _ h => h) (Or.inl ⟨by rfl, ?_⟩) (by assumption) ?_
      rotate_left
      focus (intro W hSw; (try dsimp only at hSw); go_simp; (try with_reducible rfl))
      (try simp only [Act.put, List.setIfInBounds_toArray, List.set_cons_zero, List.set_cons_succ, List.getElem_toArray, List.getElem_cons_succ, List.getElem_cons_zero])
      refine wpAnyH_take (i := 6) (oi := _) (v := ?_) rfl (by kernel_rfl) (by kernel_rfl) (by kernel_rfl) (fun _ _ _ h => h) (Or.inl ⟨by rfl, ?_⟩) (by assumption) ?_
      rotate_left
      focus (intro W hSw; (try dsimp only at hSw); go_simp; (try with_reducible rfl))
      (try simp only [Act.put, List.setIfInBounds_toArray, List.set_cons_zero, List.set_cons_succ, List.getElem_toArray, List.getElem_cons_succ, List.getElem_cons_zero])
      refine wpAnyH_take (i := 7) (oi := _) (v := ?_) rfl (by kernel_rfl) (by kernel_rfl) (by kernel_rfl) (fun _ _ _ h => h) (Or.inl ⟨by rfl, ?_⟩) (by assumption) ?_
      rotate_left
      focus (intro W hSw; (try dsimp only at hSw); go_simp; (try with_reducible rfl))
      (try simp only [Act.put, List.setIfInBounds_toArray, List.set_cons_zero, List.set_cons_succ, List.getElem_toArray, List.getElem_cons_succ, List.getElem_cons_zero])
      refine wpAnyH_take (i := 8) (oi := _) (v := ?_) rfl (by kernel_rfl) (by kernel_rfl) (by kernel_rfl) (fun _ _ _ h => h) (Or.inl ⟨by rfl, ?_⟩) (by assumption) ?_
      rotate_left
      focus (intro W hSw; (try dsimp only at hSw); go_simp; (try with_reducible rfl))
      (try simp only [Act.put, List.setIfInBounds_toArray, List.set_cons_zero, List.set_cons_succ, List.getElem_toArray, List.getElem_cons_succ, List.getElem_cons_zero])
      refine wpAnyH_take (i := 9) (oi := _) (v := ?_) rfl (by kernel_rfl) (by kernel_rfl) (by kernel_rfl) (fun _ _ _ h => h) (Or.inl ⟨by rfl, ?_⟩) (by assumption) ?_
      rotate_left
      focus (intro W hSw; (try dsimp only at hSw); go_simp; (try with_reducible rfl))
      (try simp only [Act.put, List.setIfInBounds_toArray, List.set_cons_zero, List.set_cons_succ, List.getElem_toArray, List.getElem_cons_succ, List.getElem_cons_zero])
      refine wpAnyH_take (i := 10) (oi := _) (v := ?_) rfl (by kernel_rfl) (by kernel_rfl) (by kernel_rfl) (fun _ _ _ h => h) (Or.inl ⟨by rfl, ?_⟩) (by assumption) ?_
      rotate_left
      focus (intro W hSw; (try dsimp only at hSw); go_simp; (try with_reducible rfl))
      (try simp only [Act.put, List.setIfInBounds_toArray, List.set_cons_zero, List.set_cons_succ, List.getElem_toArray, List.getElem_cons_succ, List.getElem_cons_zero])
      refine wpAnyH_take (i := 11) (oi := _) (v := ?_) rfl (by kernel_rfl) (by kernel_rfl) (by kernel_rfl) (fun _ _ _ h => h) (Or.inl ⟨by rfl, ?_⟩) (by assumption) ?_
      rotate_left
      focus (intro W hSw; (try dsimp only at hSw); go_simp; (try with_reducible rfl))
      (try simp only [Act.put, List.setIfInBounds_toArray, List.set_cons_zero, List.set_cons_succ, List.getElem_toArray, List.getElem_cons_succ, List.getElem_cons_zero])
      refine wpAnyH_take (i := 12) (oi := _) (v := .agg #[.int .i64 x.no, .int .u64 x.sq, .int .i64 x.of, .int .i64 x.de, .int .i64 x.pr, .int .i64 x.bo, .int .i64 x.li, .int .i64 x.to, .string x.da]) rfl (by kernel_rfl) (by kernel_rfl) (by kernel_rfl) (fun _ _ _ h => h) (Or.inl ⟨by rfl, ?_⟩) (by assumption) ?_
      focus (intro W hSw; exact load_runW 38 (.tmp 84) pb (po + m * 9) [.int .i64 x.no, .int .u64 x.sq, .int .i64 x.of, .int .i64 x.de, .int .i64 x.pr, .int .i64 x.bo, .int .i64 x.li, .int .i64 x.to, .string x.da] _ rfl rfl W hSw.2 Tryd.underlying38 rfl (by kernel_rfl))
      (try simp only [Act.put, List.setIfInBounds_toArray, List.set_cons_zero, List.set_cons_succ, List.getElem_toArray, List.getElem_cons_succ, List.getElem_cons_zero])
      refine wpAnyH_ready (rs := [13]) (by kernel_rfl) (by simp) ?_
      refine AllReadyH.cons rfl (fun K hK => ?_) AllReadyH.nil
      go_simp
      go_at_call 28
      (with_reducible refine (GZ.out _).mono ?_)
      rintro e u2 ⟨rfl, h2⟩
      (try go_wp2_with fail)
      have hRu := Lib.hid (hRd.out.below h2)
      have bu2 := bt bd0 h2
      clear h2 hRd bd0
      refine hK.out _ _ ⟨(RD.out _ hRu.out).1, (RD.out _ hRu.out).2.2.2.2.2⟩ (fun _ => ?_)
      clear hK K
      (try simp only [Act.put, List.setIfInBounds_toArray, List.set_cons_zero, List.set_cons_succ, List.getElem_toArray, List.getElem_cons_succ, List.getElem_cons_zero])
      refine wpAnyH_take (i := 14) (oi := _) (v := ?_) rfl (by kernel_rfl) (by kernel_rfl) (by kernel_rfl) (fun _ _ _ h => h) (Or.inl ⟨by rfl, ?_⟩) (by assumption) ?_
      rotate_left
      focus (intro W hSw; (try dsimp only at hSw); go_simp; (try with_reducible rfl))
      (try simp only [Act.put, List.setIfInBounds_toArray, List.set_cons_zero, List.set_cons_succ, List.getElem_toArray, List.getElem_cons_succ, List.getElem_cons_zero])
      refine wpAnyH_take (i := 15) (oi := _) (v := ?_) rfl (by kernel_rfl) (by kernel_rfl) (by kernel_rfl) (fun _ _ _ h => h) (Or.inl ⟨by rfl, ?_⟩) (by assumption) ?_
      rotate_left
      focus (intro W hSw; (try dsimp only at hSw); go_simp; (try with_reducible rfl))
      (try simp only [Act.put, List.setIfInBounds_toArray, List.set_cons_zero, List.set_cons_succ, List.getElem_toArray, List.getElem_cons_succ, List.getElem_cons_zero])
      refine wpAnyH_take (i := 16) (oi := _) (v := ?_) rfl (by kernel_rfl) (by kernel_rfl) (by kernel_rfl) (fun _ _ _ h => h) (Or.inl ⟨by rfl, ?_⟩) (by assumption) ?_
      rotate_left
      focus (intro W hSw; (try dsimp only at hSw); go_simp; (try with_reducible rfl))
      (try simp only [Act.put, List.setIfInBounds_toArray, List.set_cons_zero, List.set_cons_succ, List.getElem_toArray, List.getElem_cons_succ, List.getElem_cons_zero])
      refine wpAnyH_ready (rs := [17]) (by kernel_rfl) (by simp) ?_
      refine AllReadyH.cons rfl (fun K hK => ?_) AllReadyH.nil
      have R3 := RD.out _ hRu.out
      have c3 := R3.2.1; have z3 := blk_frozen hRu.out.2.2.1 m
      have ne1 : qb ≠ sb := fun e => NA.out (by omega) qb qo rfl e
      have ne2 : pb ≠ sb := fun e => NL.out (by omega) pb po rfl e
      have hX := Lib.hid (NX.out _ hRu.out)
      have bX : Below w.heap.size w (u2.setCell ⟨sb, m, none⟩ (.bool true)) := bu2.setCell (show w.heap.size ≤ sb from hsl.out.1) _
      go_simp
      refine hK.out _ _ ⟨(RD.out _ hRu.out).1 ▸ (World.cell?_of_block (w := u2) ((SameB.set (SameB.refl sb u2) m (.bool true)).2 qb R3.2.2.1 ne1)), range_same R3.2.2.2.2.1 R3.2.2.2.2.2 ne2 (SameB.set (SameB.refl sb u2) m (.bool true))⟩ (fun _ => ?_)
      clear hK K
      (try simp only [Act.put, List.setIfInBounds_toArray, List.set_cons_zero, List.set_cons_succ, List.getElem_toArray, List.getElem_cons_succ, List.getElem_cons_zero])
      refine wpAnyH_done (by kernel_rfl) ?_ _
      clear hHeld R3 c3 z3 ne1 ne2 hRu bu2
      go_wp2
      go_roundw
      case rel => first | exact ⟨i + 1, s + z, by go_num, rfl, by omega, by omega, by omega, bX, Lib.hid ⟨hX.out, HSM.out.symm⟩⟩ | exact ⟨i + 1, s + z, by omega, rfl, by omega, by omega, by omega, Lib.hid ⟨hX.out, HSM.out.symm⟩⟩ | exact ⟨i + 1, by omega, by omega, by omega, by omega, Lib.hid ⟨hX.out, HSM.out.symm⟩⟩
      case measure => simp [intOf] <;> omega
    · obtain rfl : i = L.length := by omega
      have hR1 := hR.out
      rw [List.take_length] at hR1
      have HS9 := Lib.hid hR1.2
      have hle := HA.out.leU; have hle2 := HA.out.leB
      simp only at hle hle2
      rw [← HSZ.out, ← hR1.2] at hle hle2
      have HL := Lib.hid hR1.1
      clear hR1 hR
      have e1 : decide (us < s) = false := decide_eq_false (by omega)
      have e2 : decide (bu < s) = false := decide_eq_false (by omega)
      have f1 : ¬ us < s := by omega
      have f2 : ¬ bu < s := by omega
      have hun : undef = Value.tuple #[] := rfl
      obtain ⟨V2, hV2⟩ : ∃ v, v = wr := ⟨_, rfl⟩
      rw [← hV2] at HL hB ⊢
      clear hV2
      go_wp2
      clear e1 e2 f1 f2
      have HT2 : Hid (∀ k (hk : k < l.length), k < (seenE l.length L L.length).length ∧ (cellB (seenE l.length L L.length))[k]? = some (.bool (decide ((k : Int) ∈ L)))) := Lib.hid (fun k hk => by
        have h1 : k < (seenE l.length L L.length).length := by rw [seenE_len]; exact hk
        exact ⟨h1, by rw [cellB_at h1, seenE_at hk, List.take_length]⟩)
      obtain ⟨S9, hS9⟩ : ∃ S, S = seenE l.length L L.length := ⟨_, rfl⟩
      rw [← hS9] at HL HT2
      clear hS9
      go_loopw [16, 17] (fun o ti wr => ∃ i : Nat, ti = .int .i64 i ∧ i ≤ l.length ∧ Below V2.heap.size V2 wr ∧ Hid (wr.ownsRow V2.heap.size 38 9 o (leftE l L i).length (rowC bn (leftE l L i)))) (fun _ ti _ => l.length - (intOf ti).toNat)
      case atStart => exact ⟨0, rfl, Nat.zero_le _, Below.refl _ _, Lib.hid (by simpa [rowC, leftE, keepI] using World.ownsRow_nil V2 _ _ _)⟩
      case round =>
        obtain ⟨i, rfl, hi, hB2, hq⟩ := hrel
        by_cases hil : i < l.length
        · have i1 : (i : Int) < (l.length : Int) := by omega
          have HLr := Lib.hid (HL.out.below hB2)
          obtain ⟨pb, po, rfl, _, _⟩ := HLr.out.1.2.2.2 (by omega)
          have ct := (blk_cell HLr.out.2.2.1 i).trans (HT2.out i hil).2
          by_cases hin : (i : Int) ∈ L
          · have d1 : decide ((i : Int) ∈ L) = true := decide_eq_true hin
            rw [d1] at ct
            have hk : leftE l L (i + 1) = leftE l L i := leftE_no hin
            have HK := Lib.hid hk
            clear hk hin d1
            go_wp2
            go_roundw
            case rel => exact ⟨i + 1, by go_num, by omega, hB2, by rw [HK.out]; exact hq⟩
            case measure => simp [intOf] <;> omega
          · have d1 : decide ((i : Int) ∈ L) = false := decide_eq_false hin
            rw [d1] at ct
            have hk : leftE l L (i + 1) = leftE l L i ++ [l[i]] := leftE_yes hil hin
            have hkl : (leftE l L i).length ≤ 12 := Nat.le_trans (leftE_len l L i) (by omega)
            obtain ⟨x, hx⟩ : ∃ x, x = l[i] := ⟨_, rfl⟩
            rw [← hx] at hk
            have HK := Lib.hid hk
            have r1 := srow_atG HLr.out.1 hil
            rw [← hx] at r1
            clear hk hin d1 hx HLr
            go_upto_region 21 with fail
            clear ct
            refine wp_region_tail0 4 ?_
            intro W0 hE hN
            have r0 : pb < W0.heap.size ∧ W0.rangeAt pb (po + i * 9) (bn x) := (by rw [hE.out]; exact r1)
            have hB0 : Below V2.heap.size V2 W0 := (by rw [hE.out]; exact hB2)
            have hO0 := hq
            rw [← hE.out] at hO0
            clear hE r1 hB2 hq
            simp only [List.take_succ_cons, List.take_zero, List.drop_succ_cons, List.drop_zero]
            repeat (go_big_quiet_step (fail))
            refine wpQuiet_nil ?_
            rintro _ ⟨x', rfl⟩
            have r2 := range_below r0.1 r0.2 x'.ok
            have hB1 := bt hB0 x'.ok
            have hO1 := Lib.hid (owns_belowS hO0.out x'.ok)
            obtain ⟨u, hu⟩ : ∃ u, u = x'.wd := ⟨_, rfl⟩
            rw [← hu] at r2 hB1 hO1 ⊢
            clear hu x' hN r0 hB0 hO0
            refine wpList_load_mid rfl 38 (.tmp 111) rfl pb (po + i * 9) rfl [.int .i64 x.no, .int .u64 x.sq, .int .i64 x.of, .int .i64 x.de, .int .i64 x.pr, .int .i64 x.bo, .int .i64 x.li, .int .i64 x.to, .string x.da] _ r2 Tryd.underlying38 rfl (by kernel_rfl) ?_
            conv => arg 5; simp [Act.put]
            have szu := hB1.size
            go_wp2_with (at_builtin; go_loud ((refine wpList_append_struct (enc := bn) rfl _ _ 23 rfl V2.heap.size 38 i2 (.agg #[.int .i64 0, .int .u64 0, .int .i64 0, .int .i64 0, .int .i64 0, .int .i64 0, .int .i64 0, .int .i64 0, .string ⟨#[]⟩]) 9 80 Tryd.underlying23 Hj.out Hy0.out Hy1.out Hy2.out rfl (by decide) bn_len bn_one _ (leftE l L i) rfl (hO1.out.alloc _) u.heap.size 1 x rfl (blk_alloc_new _ _ _ rfl) (by unfold maxLen; omega) (by omega) (by simp; omega) ?_); (intro v' wb hown2 hgrow2)))
            have hB3 : Below V2.heap.size V2 wb := (hB1.alloc hB1.size _).grown hgrow2 (by simp; omega) (fun k e => (hO1.out.lt k e).1)
            have ho3 : Hid (wb.ownsRow V2.heap.size 38 9 v' (leftE l L (i + 1)).length (rowC bn (leftE l L (i + 1)))) := Lib.hid (by rw [HK.out]; exact hown2)
            clear hown2 hgrow2 hO1 hB1 r2
            go_wp2
            go_roundw
            case rel => exact ⟨i + 1, by go_num, by omega, hB3, ho3⟩
            case measure => simp [intOf] <;> omega
        · obtain rfl : i = l.length := by omega
          obtain ⟨ab, cb, rfl, hSb, _⟩ := srow_of_owns bn_len hq.out
          obtain ⟨V3, hV3⟩ : ∃ v, v = wr := ⟨_, rfl⟩
          rw [← hV3] at hSb hB2 ⊢
          have HL3 := HL.out.below hB2
          have b3 := bt hB hB2
          have gC : Calls Tryd.prog 29 #[.agg #[.slice xa 3 xb, .int .i64 xr.q, .slice xc 3 xd, .int .i64 xr.t, .slice xe 3 xf], .slice ab (leftE l L l.length).length cb, .int .u64 (us - s), .int .i64 (bu - s), .int .i64 by'] V3 fun e w' => ∃ a1 c1, e = .returned (.tuple #[.slice a1 3 c1, .int .i64 0]) ∧ SRow ic 1 w' a1 c1 [-1, -1, -1] ∧ Below V3.heap.size V3 w' := (by
            have hopn := HA.out.opn
            have hnon := HA.out.non
            simp only at hopn hnon
            rw [← HSZ.out, ← HS9.out, ← HXR.out.1, ← HXR.out.2] at hopn hnon
            have h9 := cands_any hopn _ ab cb V3 (HH.out.on b3) (HL3.2.2.2.2.mono (fun _ h => h.elim)) hSb
            unfold RetCa at h9
            rw [hnon] at h9
            exact h9)
          have GC := Lib.hid gC
          have ne := kn HL3.2.2.2.1
          obtain ⟨nl, hnl⟩ : ∃ n, n = (leftE l L l.length).length := ⟨_, rfl⟩
          rw [← hnl] at GC ⊢
          have w1 : IntKind.i64.wrap (us - s) = us - s := IntWalk.i64_in _ (by omega)
          have w2 : IntKind.i64.wrap (bu - s) = bu - s := IntWalk.i64_in _ (by omega)
          have w3 : IntKind.u64.wrap (us - s) = us - s := IntWalk.u64_in _ (by omega)
          have t3 : ((0 : Int) == 0) = true := rfl
          have GS : Hid (∀ W a1 c1, SRow ic 1 W a1 c1 [-1, -1, -1] → Calls Tryd.prog 26 #[.slice a1 3 c1, .slice (some ⟨W.heap.size, 0, none⟩) 3 3] (W.alloc (.cells #[.int .i64 (-1), .int .i64 (-1), .int .i64 (-1)] 3)) fun e w' => e = .returned (.bool true) ∧ Below W.heap.size W w') := Lib.hid (fun W a1 c1 h => by
            have hb : Below W.heap.size W (W.alloc (.cells #[.int .i64 (-1), .int .i64 (-1), .int .i64 (-1)] 3)) := (Below.refl _ _).alloc (Nat.le_refl _) _
            have h9 := sameZ_any a1 (some ⟨W.heap.size, 0, none⟩) c1 3 [-1, -1, -1] [-1, -1, -1] (by decide) (by decide) _ (h.below hb) (srow_blkI (blk_alloc_new _ _ _ rfl) rfl (by decide))
            rw [decide_eq_true rfl] at h9
            exact h9.mono (fun e w' h => ⟨h.1, bta h.2⟩))
          clear hV3 hq hSb HL3 gC hnl HL hB hB2 HT2
          go_wp2_with (first
            | (go_at_call 29; (with_reducible refine (GC.out).mono ?_); rintro e W6 ⟨a1, c1, rfl, RC, h6⟩; (have b6 := bt b3 h6); clear h6)
            | (go_at_call 26; (with_reducible refine (GS.out _ _ _ RC).mono ?_); rintro e W7 ⟨rfl, h7⟩; (have b7 := bt b6 h7); clear h7 RC)
            | (go_at_call 14; (with_reducible refine (awake_any _ (HH.out.on b7)).mono ?_); rintro e W8 ⟨rfl, h8⟩; (have b8 := bt b7 h8)))
          go_ret
          exact ⟨rfl, b8⟩
theorem egressWithin_row (a : Option Addr) (len cap : Nat) (zs : List Int) (z1 z2 z3 : Int) (w : World) (h : IsRow .i64 w a len cap zs) (hT : Lib.TabIs Tryd.prog w headsNm .u8 headsTab) :
    Calls Tryd.prog 6 #[.slice a len cap, .int .i64 z1, .int .i64 z2, .int .i64 z3] w fun e w' => e = .returned (.bool true) ∧ Below w.heap.size w w' := by
  obtain ⟨e, hr⟩ := row_of h
  have := egressWithin_walk a cap (zs.take len) z1 z2 z3 w (htab_of hT) hr
  rw [← e] at this
  exact this
end Go.Proofs.YtkaehoihpgelnaaDoor
