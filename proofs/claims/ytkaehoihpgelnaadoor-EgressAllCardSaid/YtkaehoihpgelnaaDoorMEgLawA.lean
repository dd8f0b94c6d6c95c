/- Parts of a proof, printed by a program of mine out of my texts: EgLawA. -/
import Derived.Test.YtkaehoihpgelnaaDoorML
import Derived.Test.YtkaehoihpgelnaaDoorMX9
set_option linter.unusedSimpArgs false
set_option linter.unusedVariables false
namespace Go.Proofs.YtkaehoihpgelnaaDoor
open Go.RowKit
theorem rlessE_any (a b : Bn) (ha : BnI a) (hb : BnI b) (w : World) : Calls Tryd.prog 13 #[.agg (bn a).toArray, .agg (bn b).toArray] w fun e w' => e = .returned (.bool (ltB a b)) ∧ Below w.heap.size w w' :=
  refLess_any a.no a.sq a.of a.de a.pr a.bo a.li a.to a.da b.no b.sq b.of b.de b.pr b.bo b.li b.to b.da ha.1 ha.2 hb.1 hb.2 w
def LpE (W : World) (al a1 : Option Addr) (cl c1 sb lb : Nat) (l : List Bn) (L : List Int) (S : List Bool) (T : List Int) : Prop :=
  SRow bn 9 W al cl l ∧ SRow ic 1 W a1 c1 L ∧ blk W sb = some (cellB S) ∧ blk W lb = some (rowC ic T ++ []).toArray
theorem LpE.below {W W' : World} {al a1 : Option Addr} {cl c1 sb lb : Nat} {l : List Bn} {L : List Int} {S : List Bool} {T : List Int} (h : LpE W al a1 cl c1 sb lb l L S T) (hb : Below W.heap.size W W') : LpE W' al a1 cl c1 sb lb l L S T :=
  ⟨h.1.below hb, h.2.1.below hb, blk_below hb h.2.2.1, blk_below hb h.2.2.2⟩
theorem LpE.step {W : World} {al a1 : Option Addr} {cl c1 sb lb : Nat} {l : List Bn} {L : List Int} {S : List Bool} {T : List Int} (h : LpE W al a1 cl c1 sb lb l L S T) (nl : neS (fun b => b = sb ∨ b = lb) al l) (na : neS (fun b => b = sb ∨ b = lb) a1 L) (hne : sb ≠ lb) (m pn : Nat) (x y : Int) (hT : T[pn]? = some y) :
    LpE ((W.setCell ⟨sb, m, none⟩ (.bool true)).setCell ⟨lb, pn, none⟩ (.int .i64 x)) al a1 cl c1 sb lb l L (S.set m true) (T.set pn x) := by
  have s1 : SameB sb W (W.setCell ⟨sb, m, none⟩ (.bool true)) := (SameB.refl _ _).set _ _
  have s2 : SameB lb (W.setCell ⟨sb, m, none⟩ (.bool true)) ((W.setCell ⟨sb, m, none⟩ (.bool true)).setCell ⟨lb, pn, none⟩ (.int .i64 x)) := (SameB.refl _ _).set _ _
  refine ⟨(h.1.sameB s1 (nl.neA (.inl rfl))).sameB s2 (nl.neA (.inr rfl)), (h.2.1.sameB s1 (na.neA (.inl rfl))).sameB s2 (na.neA (.inr rfl)), ?_, ?_⟩
  · rw [← cellB_set]
    exact blk_same (blk_set h.2.2.1) hne s2
  · exact blk_setI hT (blk_same h.2.2.2 (Ne.symm hne) s1)
structure RdE (W : World) (pb po qb qo sb lb i m pn : Nat) (lv : Int) : Prop where
  f1 : W.cell? ⟨qb, qo + i, none⟩ = some (.int .i64 m)
  f2 : W.cell? ⟨pb, po + m * 9 + 4, none⟩ = some (.int .i64 pn)
  f3 : W.cell? ⟨sb, m, none⟩ = some (.bool false)
  f4 : W.cell? ⟨lb, pn, none⟩ = some (.int .i64 lv)
  g1 : qb < W.heap.size
  g2 : pb < W.heap.size
  g3 : sb < W.heap.size
  g4 : lb < W.heap.size
set_option maxRecDepth 100000 in
set_option maxHeartbeats 6400000 in
theorem egressAll_walk (a : Option Addr) (cap : Nat) (zs : List Int) (w : World) (hH : HTab w) (hrow : Row .i64 w a cap zs) :
    Calls Tryd.prog 3 #[.slice a zs.length cap] w fun e w' => e = .returned (.bool true) ∧ Below w.heap.size w w' := by
  obtain ⟨i2, hi', hz0', hz1', hz2'⟩ := info_parts infoBool
  have Hj := Lib.hid hi'; have Hy0 := Lib.hid hz0'; have Hy1 := Lib.hid hz1'; have Hy2 := Lib.hid hz2'
  clear hi' hz0' hz1' hz2'
  have HH := Lib.hid hH; have HZ := Lib.hid hrow
  clear hH hrow
  go_enter Tryd.func3, Tryd.ntmps3
  go_wp2_with fail
  (with_reducible refine (madeE_any a cap zs w HZ.out).mono ?_)
  rintro e W1 ⟨v1, l, rfl, hM, ho1, B1⟩
  obtain ⟨al, cl, rfl, hSl, _⟩ := srow_of_owns bn_len ho1
  clear ho1
  have h12 := hM.len
  have HM := Lib.hid hM
  have hA := made_all hM
  obtain ⟨R, hR⟩ : ∃ R, R = allS (l.length + 1) (firW l 1099511627776 1099511627776 0) := ⟨_, rfl⟩
  rw [← hR] at hA
  obtain ⟨L, hL⟩ : ∃ L, L = R.1 := ⟨_, rfl⟩
  rw [← hL] at hA
  have hlen := hA.len
  have HA := Lib.hid hA; have HLN := Lib.hid hlen
  have GA := Lib.hid (fun W c (hB : Below W1.heap.size W1 W) (hX : ExitS (fun _ => False) W c fstR [0, 0, 0]) => (show Calls Tryd.prog 11 #[.agg c, .slice al l.length cl, .int .u64 1099511627776, .int .i64 1099511627776, .int .i64 0] W fun e w' => RetAl (fun _ => False) L R.2 W e w' from by
    have h9 := allX_any (made_opn hM (us := 1099511627776) (bu := 1099511627776) (by' := 0) (by decide) (by decide) (by decide)) (l.length + 1) (Nat.lt_succ_self _) c al cl W ((HH.out.on B1).on hB) (fun _ => False) (fun _ h => h.elim) hX (hSl.below hB) (fun _ _ _ _ h => h)
    rw [opn_fir, ← hR, ← hL] at h9
    exact h9))
  have HSl := Lib.hid hSl
  obtain ⟨YR, hYR⟩ : ∃ v, v = R.2 := ⟨_, rfl⟩
  rw [← hYR] at GA
  unfold RetAl at GA
  have t1 : ((0 : Int) != 0) = false := rfl
  have t2 : ((L.length : Int) != (l.length : Int)) = false := by simp [hlen]
  clear hSl hM hA hR hL hYR R hlen
  go_upto_region 3 with (first
    | (go_at_call 12; (with_reducible refine (first_any _).mono ?_); rintro e W2 ⟨a1, c1, a2, c2, a3, c3, rfl, R1, R2, R3, U1, U2, U3, h2⟩; (have X1 := first_exit (w := W1) (fun _ => False) (fun _ h => h.elim) R1 R2 R3 U1 U2 U3); clear R1 R2 R3 U1 U2 U3)
    | (go_at_call 11; (with_reducible refine (GA.out _ _ h2 X1).mono ?_); rintro e W3 ⟨o1, oc, cc, rfl, RO, hE, h3, UO⟩; obtain ⟨aw2, cw2, ad2, cd2, ap2, cp2, rfl, _⟩ := hE; (have b3 := bt h2 h3); clear X1 h2 h3))
  go_upto_region 5 with fail
  go_wp2_with (refine wpList_make_row _ rfl _ _ 34 rfl 4 i2 (.bool false) Tryd.underlying34 Hj.out Hy0.out Hy1.out rfl .i64 .i64 l.length rfl rfl (by rw [Hy2.out]; omega) (by omega) ?_)
  obtain ⟨V, hV⟩ : ∃ V, V = ((W3.alloc (.cells #[.slice aw2 3 cw2, .int .i64 YR.dr.q, .slice ad2 3 cd2, .int .i64 YR.dr.t, .slice ap2 3 cp2] 28)).alloc (.cells (madeCells #[.bool false] l.length) 4)).alloc (.cells #[.int .i64 (-1), .int .i64 (-1), .int .i64 (-1)] 3) := ⟨_, rfl⟩
  obtain ⟨sb, hsb⟩ : ∃ s, s = W3.heap.size + 1 := ⟨_, rfl⟩
  obtain ⟨lb, hlb⟩ : ∃ s, s = W3.heap.size + 1 + 1 := ⟨_, rfl⟩
  have qV : Below W3.heap.size W3 V := by rw [hV]; exact (((Below.refl _ _).alloc (Nat.le_refl _) _).alloc (by simp) _).alloc (by simp; omega) _
  have kb : blk V sb = some (cellB (seenE l.length L 0)) := by rw [hV, hsb, seenE_zero, ← cellB_made]; exact blk_alloc (blk_alloc_new _ _ _ (by simp)) _
  have kl : blk V lb = some (rowC ic (lastE l L 0) ++ []).toArray := by rw [hV, hlb]; exact blk_alloc_new _ _ _ (by simp)
  have SL3 := HSl.out.below b3
  have NL := Lib.hid (SRow.neS (S := fun b => b = sb ∨ b = lb) SL3 (by rintro b (rfl | rfl) <;> omega))
  have NA := Lib.hid (SRow.neS (S := fun b => b = sb ∨ b = lb) RO (by rintro b (rfl | rfl) <;> omega))
  have HI : Hid (LpE V al o1 cl oc sb lb l L (seenE l.length L 0) (lastE l L 0)) := Lib.hid ⟨SL3.below qV, RO.below qV, kb, kl⟩
  have s3 := (bt B1 b3).size
  have BV : Below w.heap.size w V := bt (bt B1 b3) qV
  have hsl : Hid (w.heap.size ≤ sb ∧ w.heap.size ≤ lb ∧ sb ≠ lb) := Lib.hid (by omega)
  have HHV : Hid (HTab w) := HH
  rw [← hV, ← hlb, ← hsb]
  clear hV hsb hlb qV kb kl SL3 RO b3 UO GA HSl B1 s3
  go_loopw [9] (fun ti wr => ∃ i : Nat, ti = .int .i64 i ∧ i ≤ L.length ∧ Below w.heap.size w wr ∧ Hid (LpE wr al o1 cl oc sb lb l L (seenE l.length L i) (lastE l L i))) (fun ti _ => L.length - (intOf ti).toNat)
  case atStart => exact ⟨0, rfl, Nat.zero_le _, BV, HI⟩
  case round =>
    clear HI BV
    obtain ⟨i, rfl, hi, hB, hR⟩ := hrel
    have hLn : L.length ≤ 12 := by rw [HLN.out]; exact h12
    by_cases hil : i < L.length
    · have i2' : (i : Int) < (L.length : Int) := by omega
      obtain ⟨m, hm, hml⟩ := HA.out.mem i hil
      obtain ⟨pn, hpn⟩ : ∃ n : Nat, l[m].pr = n := ⟨l[m].pr.toNat, by have := HM.out.pr m hml; omega⟩
      have hp3 : pn < 3 := by have := HM.out.pr m hml; omega
      have hnew := seenE_new hil hm HA.out.nd hml
      have hlt := lastE_lt HM.out HA.out hil hm hml hpn hp3
      have hSs := seenE_set (n := l.length) hil hm
      have hTs := lastE_set (l := l) hil hm (by rw [bnL_nat l m hml]; exact hpn) hp3
      have hTa := lastE_at l L i pn hp3
      obtain ⟨S, hS⟩ : ∃ S, S = seenE l.length L i := ⟨_, rfl⟩
      have hSl : S.length = l.length := by rw [hS, seenE_len]
      have hS0 : S[m]'(by rw [hSl]; exact hml) = false := by simp only [hS]; exact hnew
      obtain ⟨T, hT⟩ : ∃ T, T = lastE l L i := ⟨_, rfl⟩
      obtain ⟨lv, hlv⟩ : ∃ v, v = lastP l (L.take i) pn := ⟨_, rfl⟩
      rw [← hlv] at hlt hTa
      rw [← hS] at hR hSs
      rw [← hT] at hR hTs hTa
      have NX : Hid (∀ W, LpE W al o1 cl oc sb lb l L S T → LpE ((W.setCell ⟨sb, m, none⟩ (.bool true)).setCell ⟨lb, pn, none⟩ (.int .i64 m)) al o1 cl oc sb lb l L (seenE l.length L (i + 1)) (lastE l L (i + 1))) := Lib.hid (fun W h => by
        rw [← hSs, ← hTs]
        exact h.step NL.out NA.out hsl.out.2.2 m pn m lv hTa)
      obtain ⟨pb, po, rfl, _, _⟩ := hR.out.1.2.2.2 (by omega)
      obtain ⟨qb, qo, rfl, _, _⟩ := hR.out.2.1.2.2.2 (by omega)
      have RD : Hid (∀ W, LpE W (some ⟨pb, po, none⟩) (some ⟨qb, qo, none⟩) cl oc sb lb l L S T → RdE W pb po qb qo sb lb i m pn lv) := Lib.hid (by
        intro W h
        have h1 := srow_atG h.2.1 hil
        have h2 := srow_atG h.1 hml
        have c1 := h1.2 0 _ rfl
        have c2 := h2.2 4 _ rfl
        rw [Nat.mul_one, hm] at c1
        rw [hpn] at c2
        refine ⟨c1, c2, ?_, blk_cellI hTa h.2.2.2, h1.1, h2.1, blk_lt h.2.2.1, blk_lt h.2.2.2⟩
        rw [blk_cell h.2.2.1, cellB_at (by rw [hSl]; exact hml), hS0])
      have RR : Hid (∀ W, LpE W (some ⟨pb, po, none⟩) (some ⟨qb, qo, none⟩) cl oc sb lb l L S T → ∀ q (hq : q < l.length), W.rangeAt pb (po + q * 9) (bn l[q])) := Lib.hid (fun W h q hq => (srow_atG h.1 hq).2)
      have l1 : (m : Int) < (l.length : Int) := by omega
      have d1 : decide ((m : Int) < 0) = false := decide_eq_false (by omega)
      have d2 : decide ((l.length : Int) ≤ (m : Int)) = false := decide_eq_false (by omega)
      have d2' : decide (l.length ≤ m) = false := decide_eq_false (by omega)
      have p1 : (pn : Int) < 3 := by omega
      have HML := Lib.hid hml
      have HLT := Lib.hid hlt
      have ls := hSl
      clear hS hT hlv hTa hnew hSs hTs hS0 hm hpn hlt hSl
      have R0 := RD.out _ hR.out
      have c1 := R0.f1; have c2 := R0.f2; have c3 := R0.f3
      clear R0
      go_upto_region 13 with fail
      clear c1 c2 c3
      rcases HLT.out with hlv | ⟨q, hlv, hq, hless⟩
      · subst hlv
        have d3 : decide ((0 : Int) ≤ -1) = false := by decide
        have hun : undef = Value.tuple #[] := rfl
        refine wp_region_in (by kernel_rfl) (by kernel_rfl) ?_
        intro W0 hE hN
        have hR0 : Hid (LpE W0 (some ⟨pb, po, none⟩) (some ⟨qb, qo, none⟩) cl oc sb lb l L S T) := (by rw [hE.out]; exact hR)
        have hB0 : Below w.heap.size w W0 := (by rw [hE.out]; exact hB)
        have R0 := RD.out _ hR0.out
        have n1 := calm_cell R0.g1 R0.f1; have n2 := calm_cell R0.g4 R0.f4
        have g2 := R0.g2
        clear hR hB R0
        repeat (go_big_quiet_step (fail))
        refine wpQuiet_nil ?_
        rintro _ ⟨x', rfl⟩
        have hB2 := bt hB0 x'.ok
        have hR2 := Lib.hid (hR0.out.below x'.ok)
        obtain ⟨u, hu⟩ : ∃ u, u = x'.wd := ⟨_, rfl⟩
        rw [← hu] at hB2 hR2 ⊢
        clear hu x' hN n1 n2 g2 hB0 hR0
        go_upto_region 15 with fail
        have R2 := RD.out _ hR2.out
        have f1 := R2.f1
        refine wp_region_held_drew (S := fun W => W.cell? ⟨qb, qo + i, none⟩ = some (.int .i64 m)) (by kernel_rfl) f1 (fun hHeld => ?_)
        obtain ⟨d0, ed⟩ : ∃ v, v = u.drew := ⟨_, rfl⟩
        have hRd : Hid (LpE d0 (some ⟨pb, po, none⟩) (some ⟨qb, qo, none⟩) cl oc sb lb l L S T) := (by rw [ed]; exact hR2)
        have bd0 : Below w.heap.size w d0 := (by rw [ed]; exact hB2.drew)
        rw [← ed] at hHeld ⊢
        clear ed hR2 hB2 R2 f1
        refine wpAnyH_take (i := 0) (oi := _) (v := ?_) rfl (by kernel_rfl) (by kernel_rfl) (by kernel_rfl) (fun _ _ _ h => h) (Or.inl ⟨by rfl, ?_⟩) (by assumption) ?_
        rotate_left
        focus (intro W hSw; (try dsimp only at hSw); go_simp; (try with_reducible rfl))
        (try simp only [Act.put, List.setIfInBounds_toArray, List.set_cons_zero, List.set_cons_succ, List.getElem_toArray, List.getElem_cons_succ, List.getElem_cons_zero])
        refine wpAnyH_take (i := 1) (oi := _) (v := ?_) rfl (by kernel_rfl) (by kernel_rfl) (by kernel_rfl) (fun _ _ _ h => h) (Or.inl ⟨by rfl, ?_⟩) (by assumption) ?_
        rotate_left
        focus (intro W hSw; (try dsimp only at hSw); go_simp; (try with_reducible rfl))
        (try simp only [Act.put, List.setIfInBounds_toArray, List.set_cons_zero, List.set_cons_succ, List.getElem_toArray, List.getElem_cons_succ, List.getElem_cons_zero])
        refine wpAnyH_take (i := 2) (oi := _) (v := ?_) rfl (by kernel_rfl) (by kernel_rfl) (by kernel_rfl) (fun _ _ _ h => h) (Or.inl ⟨by rfl, ?_⟩) (by assumption) ?_
        rotate_left
        focus (intro W hSw; (try dsimp only at hSw); go_simp; (try with_reducible rfl))
        (try simp only [Act.put, List.setIfInBounds_toArray, List.set_cons_zero, List.set_cons_succ, List.getElem_toArray, List.getElem_cons_succ, List.getElem_cons_zero])
        refine wpAnyH_take (i := 3) (oi := _) (v := ?_) rfl (by kernel_rfl) (by kernel_rfl) (by kernel_rfl) (fun _ _ _ h => h) (Or.inl ⟨by rfl, ?_⟩) (by assumption) ?_
        rotate_left
        focus (intro W hSw; (try dsimp only at hSw); go_simp; (try with_reducible rfl))
        (try simp only [Act.put, List.setIfInBounds_toArray, List.set_cons_zero, List.set_cons_succ, List.getElem_toArray, List.getElem_cons_succ, List.getElem_cons_zero])
        refine wpAnyH_take (i := 4) (oi := _) (v := ?_) rfl (by kernel_rfl) (by kernel_rfl) (by kernel_rfl) (fun _ _ _ h => h) (Or.inl ⟨by rfl, ?_⟩) (by assumption) ?_
        rotate_left
        focus (intro W hSw; (try dsimp only at hSw); go_simp; (try with_reducible rfl))
        (try simp only [Act.put, List.setIfInBounds_toArray, List.set_cons_zero, List.set_cons_succ, List.getElem_toArray, List.getElem_cons_succ, List.getElem_cons_zero])
        refine wpAnyH_take (i := 5) (oi := _) (v := ?_) rfl (by kernel_rfl) (by kernel_rfl) (by kernel_rfl) (fun _ _ _ h => h) (Or.inl ⟨by rfl, ?_⟩) (by assumption) ?_
        rotate_left
        focus (intro W hSw; (try dsimp only at hSw); go_simp; (try with_reducible rfl))
        (try simp only [Act.put, List.setIfInBounds_toArray, List.set_cons_zero, List.set_cons_succ, List.getElem_toArray, List.getElem_cons_succ, List.getElem_cons_zero])
        refine wpAnyH_take (i := 6) (oi := _) (v := ?_) rfl (by kernel_rfl) (by kernel_rfl) (by kernel_rfl) (fun _ _ _ h => h) (Or.inl ⟨by rfl, ?_⟩) (by assumption) ?_
        rotate_left
        focus (intro W hSw; (try dsimp only at hSw); go_simp; (try with_reducible rfl))
        (try simp only [Act.put, List.setIfInBounds_toArray, List.set_cons_zero, List.set_cons_succ, List.getElem_toArray, List.getElem_cons_succ, List.getElem_cons_zero])
        refine wpAnyH_take (i := 7) (oi := _) (v := ?_) rfl (by kernel_rfl) (by kernel_rfl) (by kernel_rfl) (fun _ _ _ h => h) (Or.inl ⟨by rfl, ?_⟩) (by assumption) ?_
        rotate_left
        focus (intro W hSw; (try dsimp only at hSw); go_simp; (try with_reducible rfl))
        (try simp only [Act.put, List.setIfInBounds_toArray, List.set_cons_zero, List.set_cons_succ, List.getElem_toArray, List.getElem_cons_succ, List.getElem_cons_zero])
        refine wpAnyH_take (i := 8) (oi := _) (v := ?_) rfl (by kernel_rfl) (by kernel_rfl) (by kernel_rfl) (fun _ _ _ h => h) (Or.inl ⟨by rfl, ?_⟩) (by assumption) ?_
        rotate_left
        focus (intro W hSw; (try dsimp only at hSw); go_simp; (try with_reducible rfl))
        (try simp only [Act.put, List.setIfInBounds_toArray, List.set_cons_zero, List.set_cons_succ, List.getElem_toArray, List.getElem_cons_succ, List.getElem_cons_zero])
        refine wpAnyH_take (i := 9) (oi := _) (v := ?_) rfl (by kernel_rfl) (by kernel_rfl) (by kernel_rfl) (fun _ _ _ h => h) (Or.inl ⟨by rfl, ?_⟩) (by assumption) ?_
        rotate_left
        focus (intro W hSw; (try dsimp only at hSw); go_simp; (try with_reducible rfl))
        (try simp only [Act.put, List.setIfInBounds_toArray, List.set_cons_zero, List.set_cons_succ, List.getElem_toArray, List.getElem_cons_succ, List.getElem_cons_zero])
        refine wpAnyH_take (i := 10) (oi := _) (v := ?_) rfl (by kernel_rfl) (by kernel_rfl) (by kernel_rfl) (fun _ _ _ h => h) (Or.inl ⟨by rfl, ?_⟩) (by assumption) ?_
        rotate_left
        focus (intro W hSw; (try dsimp only at hSw); go_simp; (try with_reducible rfl))
        (try simp only [Act.put, List.setIfInBounds_toArray, List.set_cons_zero, List.set_cons_succ, List.getElem_toArray, List.getElem_cons_succ, List.getElem_cons_zero])
        refine wpAnyH_take (i := 11) (oi := _) (v := ?_) rfl (by kernel_rfl) (by kernel_rfl) (by kernel_rfl) (fun _ _ _ h => h) (Or.inl ⟨by rfl, ?_⟩) (by assumption) ?_
        rotate_left
        focus (intro W hSw; (try dsimp only at hSw); go_simp; (try with_reducible rfl))
        (try simp only [Act.put, List.setIfInBounds_toArray, List.set_cons_zero, List.set_cons_succ, List.getElem_toArray, List.getElem_cons_succ, List.getElem_cons_zero])
        refine wpAnyH_ready (rs := [12]) (by kernel_rfl) (by simp) ?_
        refine AllReadyH.cons rfl (fun K hK => ?_) AllReadyH.nil
        have R3 := RD.out _ hRd.out
        have c3 := R3.f3; have z3 := blk_frozen hRd.out.2.2.1 m
        have ne1 : qb ≠ sb := fun e => (NA.out.neA (.inl rfl) (by omega) qb qo rfl) e
        go_simp
        refine hK.out _ _ ((World.cell?_of_block (w := d0) ((SameB.set (SameB.refl sb d0) m (.bool true)).2 qb R3.g1 ne1)).trans R3.f1) (fun _ => ?_)
        clear hK K
        (try simp only [Act.put, List.setIfInBounds_toArray, List.set_cons_zero, List.set_cons_succ, List.getElem_toArray, List.getElem_cons_succ, List.getElem_cons_zero])
        refine wpAnyH_take (i := 13) (oi := _) (v := ?_) rfl (by kernel_rfl) (by kernel_rfl) (by kernel_rfl) (fun _ _ _ h => h) (Or.inl ⟨by rfl, ?_⟩) (by assumption) ?_
        rotate_left
        focus (intro W hSw; (try dsimp only at hSw); go_simp; (try with_reducible rfl))
        (try simp only [Act.put, List.setIfInBounds_toArray, List.set_cons_zero, List.set_cons_succ, List.getElem_toArray, List.getElem_cons_succ, List.getElem_cons_zero])
        refine wpAnyH_ready (rs := [14]) (by kernel_rfl) (by simp) ?_
        refine AllReadyH.cons rfl (fun K hK => ?_) AllReadyH.nil
        have c4 : (d0.setCell ⟨sb, m, none⟩ (.bool true)).cell? ⟨lb, pn, none⟩ = some (.int .i64 (-1)) := (World.cell?_of_block (w := d0) ((SameB.set (SameB.refl sb d0) m (.bool true)).2 lb R3.g4 (Ne.symm hsl.out.2.2))).trans R3.f4
        have z4 : (d0.setCell ⟨sb, m, none⟩ (.bool true)).frozen? ⟨lb, pn, none⟩ = false := blk_frozen (blk_same hRd.out.2.2.2 (Ne.symm hsl.out.2.2) (SameB.set (SameB.refl sb d0) m (.bool true))) pn
        have ne2 : qb ≠ lb := fun e => (NA.out.neA (.inr rfl) (by omega) qb qo rfl) e
        go_simp
        refine hK.out _ _ ((World.cell?_of_block (w := d0) (((SameB.set (SameB.refl lb _) pn (.int .i64 m)).2 qb (Nat.lt_of_lt_of_le R3.g1 (SameB.set (SameB.refl sb d0) m (.bool true)).1) ne2).trans ((SameB.set (SameB.refl sb d0) m (.bool true)).2 qb R3.g1 ne1))).trans R3.f1) (fun _ => ?_)
        clear hK K
        (try simp only [Act.put, List.setIfInBounds_toArray, List.set_cons_zero, List.set_cons_succ, List.getElem_toArray, List.getElem_cons_succ, List.getElem_cons_zero])
        refine wpAnyH_done (by kernel_rfl) ?_ _
        have hX := Lib.hid (NX.out _ hRd.out)
        have bX : Below w.heap.size w ((d0.setCell ⟨sb, m, none⟩ (.bool true)).setCell ⟨lb, pn, none⟩ (.int .i64 m)) := (bd0.setCell (show w.heap.size ≤ sb from hsl.out.1) _).setCell (show w.heap.size ≤ lb from hsl.out.2.1) _
        clear hHeld R3 c3 z3 c4 z4 ne1 ne2 hRd bd0
        go_wp2
        go_roundw
        case rel => first | exact ⟨i + 1, by go_num, by omega, bX, hX⟩ | exact ⟨i + 1, by omega, by omega, hX⟩
        case measure => simp [intOf]; omega
      · have HQL := Lib.hid hq
        have l2 : (q : Int) < (l.length : Int) := by omega
        have d3 : decide ((0 : Int) ≤ (q : Int)) = true := decide_eq_true (by omega)
        subst hlv
        obtain ⟨x, hx⟩ : ∃ x, x = l[q] := ⟨_, rfl⟩
        obtain ⟨y, hy⟩ : ∃ x, x = l[m]'HML.out := ⟨_, rfl⟩
        have gL : ∀ W, Calls Tryd.prog 13 #[.agg (bn x).toArray, .agg (bn y).toArray] W fun e w' => e = .returned (.bool true) ∧ Below W.heap.size W w' := (by
          intro W
          have h9 := rlessE_any x y (by rw [hx]; exact (bcode_facts (HM.out.codes _ (List.getElem_mem _))).1) (by rw [hy]; exact (bcode_facts (HM.out.codes _ (List.getElem_mem _))).1) W
          have e9 : ltB x y = true := by rw [hx, hy]; exact hless
          rw [e9] at h9
          exact h9)
        have GL := Lib.hid gL; have HX : Hid (x = l[q]'hq) := Lib.hid hx; have HY := Lib.hid hy
        clear gL hless hx hy
        refine wp_region_in (by kernel_rfl) (by kernel_rfl) ?_
        intro W0 hE hN
        have hR0 : Hid (LpE W0 (some ⟨pb, po, none⟩) (some ⟨qb, qo, none⟩) cl oc sb lb l L S T) := (by rw [hE.out]; exact hR)
        have hB0 : Below w.heap.size w W0 := (by rw [hE.out]; exact hB)
        have R0 := RD.out _ hR0.out
        have n1 := calm_cell R0.g1 R0.f1; have n2 := calm_cell R0.g4 R0.f4
        have g2 := R0.g2
        have r1 : W0.rangeAt pb (po + q * 9) (bn x) := (by have h9 := RR.out _ hR0.out q HQL.out; rw [← HX.out] at h9; exact h9)
        have r2 : W0.rangeAt pb (po + m * 9) (bn y) := (by have h9 := RR.out _ hR0.out m HML.out; rw [← HY.out] at h9; exact h9)
        clear hR hB R0
        refine wpQuiet_split 12 ?_
        simp only [List.take_succ_cons, List.take_zero, List.drop_succ_cons, List.drop_zero]
        repeat (go_big_quiet_step (fail))
        refine wpQuiet_nil ?_
        refine wpQuiet_load_range 38 (.tmp 81) pb (po + q * 9) (bn x) (fun W hW => by obtain ⟨x', rfl⟩ := hW; exact range_below g2 r1 x'.ok) _ (by kernel_rfl) rfl (by kernel_rfl) Tryd.underlying38 rfl (by kernel_rfl) ?_
        conv => arg 6; simp [Act.put]
        refine wpQuiet_split 6 ?_
        simp only [List.take_succ_cons, List.take_zero, List.drop_succ_cons, List.drop_zero]
        repeat (go_big_quiet_step (fail))
        refine wpQuiet_nil ?_
        refine wpQuiet_load_range 38 (.tmp 88) pb (po + m * 9) (bn y) (fun W hW => by obtain ⟨x', rfl⟩ := hW; exact range_below g2 r2 x'.ok) _ (by kernel_rfl) rfl (by kernel_rfl) Tryd.underlying38 rfl (by kernel_rfl) ?_
        conv => arg 6; simp [Act.put]
        repeat (go_big_quiet_step ((go_at_call 13; (with_reducible refine Class.go _ (GL.out _)))))
        refine wpQuiet_nil ?_
        clear r1 r2
        rintro _ ⟨x', rfl⟩
        have hB2 := bt hB0 x'.ok
        have hR2 := Lib.hid (hR0.out.below x'.ok)
        obtain ⟨u, hu⟩ : ∃ u, u = x'.wd := ⟨_, rfl⟩
        rw [← hu] at hB2 hR2 ⊢
        clear hu x' hN n1 n2 g2 hB0 hR0
        go_upto_region 15 with fail
        have R2 := RD.out _ hR2.out
        have f1 := R2.f1
        refine wp_region_held_drew (S := fun W => W.cell? ⟨qb, qo + i, none⟩ = some (.int .i64 m)) (by kernel_rfl) f1 (fun hHeld => ?_)
        obtain ⟨d0, ed⟩ : ∃ v, v = u.drew := ⟨_, rfl⟩
        have hRd : Hid (LpE d0 (some ⟨pb, po, none⟩) (some ⟨qb, qo, none⟩) cl oc sb lb l L S T) := (by rw [ed]; exact hR2)
        have bd0 : Below w.heap.size w d0 := (by rw [ed]; exact hB2.drew)
        rw [← ed] at hHeld ⊢
        clear ed hR2 hB2 R2 f1
        refine wpAnyH_take (i := 0) (oi := _) (v := ?_) rfl (by kernel_rfl) (by kernel_rfl) (by kernel_rfl) (fun _ _ _ h => h) (Or.inl ⟨by rfl, ?_⟩) (by assumption) ?_
        rotate_left
        focus (intro W hSw; (try dsimp only at hSw); go_simp; (try with_reducible rfl))
        (try simp only [Act.put, List.setIfInBounds_toArray, List.set_cons_zero, List.set_cons_succ, List.getElem_toArray, List.getElem_cons_succ, List.getElem_cons_zero])
        refine wpAnyH_take (i := 1) (oi := _) (v := ?_) rfl (by kernel_rfl) (by kernel_rfl) (by kernel_rfl) (fun _ _ _ h => h) (Or.inl ⟨by rfl, ?_⟩) (by assumption) ?_
        rotate_left
        focus (intro W hSw; (try dsimp only at hSw); go_simp; (try with_reducible rfl))
        (try simp only [Act.put, List.setIfInBounds_toArray, List.set_cons_zero, List.set_cons_succ, List.getElem_toArray, List.getElem_cons_succ, List.getElem_cons_zero])
        refine wpAnyH_take (i := 2) (oi := _) (v := ?_) rfl (by kernel_rfl) (by kernel_rfl) (by kernel_rfl) (fun _ _ _ h => h) (Or.inl ⟨by rfl, ?_⟩) (by assumption) ?_
        rotate_left
        focus (intro W hSw; (try dsimp only at hSw); go_simp; (try with_reducible rfl))
        (try simp only [Act.put, List.setIfInBounds_toArray, List.set_cons_zero, List.set_cons_succ, List.getElem_toArray, List.getElem_cons_succ, List.getElem_cons_zero])
        refine wpAnyH_take (i := 3) (oi := _) (v := ?_) rfl (by kernel_rfl) (by kernel_rfl) (by kernel_rfl) (fun _ _ _ h => h) (Or.inl ⟨by rfl, ?_⟩) (by assumption) ?_
        rotate_left
        focus (intro W hSw; (try dsimp only at hSw); go_simp; (try with_reducible rfl))
        (try simp only [Act.put, List.setIfInBounds_toArray, List.set_cons_zero, List.set_cons_succ, List.getElem_toArray, List.getElem_cons_succ, List.getElem_cons_zero])
        refine wpAnyH_take (i := 4) (oi := _) (v := ?_) rfl (by kernel_rfl) (by kernel_rfl) (by kernel_rfl) (fun _ _ _ h => h) (Or.inl ⟨by rfl, ?_⟩) (by assumption) ?_
        rotate_left
        focus (intro W hSw; (try dsimp only at hSw); go_simp; (try with_reducible rfl))
        (try simp only [Act.put, List.setIfInBounds_toArray, List.set_cons_zero, List.set_cons_succ, List.getElem_toArray, List.getElem_cons_succ, List.getElem_cons_zero])
        refine wpAnyH_take (i := 5) (oi := _) (v := ?_) rfl (by kernel_rfl) (by kernel_rfl) (by kernel_rfl) (fun _ _ _ h => h) (Or.inl ⟨by rfl, ?_⟩) (by assumption) ?_
        rotate_left
        focus (intro W hSw; (try dsimp only at hSw); go_simp; (try with_reducible rfl))
        (try simp only [Act.put, List.setIfInBounds_toArray, List.set_cons_zero, List.set_cons_succ, List.getElem_toArray, List.getElem_cons_succ, List.getElem_cons_zero])
        refine wpAnyH_take (i := 6) (oi := _) (v := ?_) rfl (by kernel_rfl) (by kernel_rfl) (by kernel_rfl) (fun _ _ _ h => h) (Or.inl ⟨by rfl, ?_⟩) (by assumption) ?_
        rotate_left
        focus (intro W hSw; (try dsimp only at hSw); go_simp; (try with_reducible rfl))
        (try simp only [Act.put, List.setIfInBounds_toArray, List.set_cons_zero, List.set_cons_succ, List.getElem_toArray, List.getElem_cons_succ, List.getElem_cons_zero])
        refine wpAnyH_take (i := 7) (oi := _) (v := ?_) rfl (by kernel_rfl) (by kernel_rfl) (by kernel_rfl) (fun _ _ _ h => h) (Or.inl ⟨by rfl, ?_⟩) (by assumption) ?_
        rotate_left
        focus (intro W hSw; (try dsimp only at hSw); go_simp; (try with_reducible rfl))
        (try simp only [Act.put, List.setIfInBounds_toArray, List.set_cons_zero, List.set_cons_succ, List.getElem_toArray, List.getElem_cons_succ, List.getElem_cons_zero])
        refine wpAnyH_take (i := 8) (oi := _) (v := ?_) rfl (by kernel_rfl) (by kernel_rfl) (by kernel_rfl) (fun _ _ _ h => h) (Or.inl ⟨by rfl, ?_⟩) (by assumption) ?_
        rotate_left
        focus (intro W hSw; (try dsimp only at hSw); go_simp; (try with_reducible rfl))
        (try simp only [Act.put, List.setIfInBounds_toArray, List.set_cons_zero, List.set_cons_succ, List.getElem_toArray, List.getElem_cons_succ, List.getElem_cons_zero])
        refine wpAnyH_take (i := 9) (oi := _) (v := ?_) rfl (by kernel_rfl) (by kernel_rfl) (by kernel_rfl) (fun _ _ _ h => h) (Or.inl ⟨by rfl, ?_⟩) (by assumption) ?_
        rotate_left
        focus (intro W hSw; (try dsimp only at hSw); go_simp; (try with_reducible rfl))
        (try simp only [Act.put, List.setIfInBounds_toArray, List.set_cons_zero, List.set_cons_succ, List.getElem_toArray, List.getElem_cons_succ, List.getElem_cons_zero])
        refine wpAnyH_take (i := 10) (oi := _) (v := ?_) rfl (by kernel_rfl) (by kernel_rfl) (by kernel_rfl) (fun _ _ _ h => h) (Or.inl ⟨by rfl, ?_⟩) (by assumption) ?_
        rotate_left
        focus (intro W hSw; (try dsimp only at hSw); go_simp; (try with_reducible rfl))
        (try simp only [Act.put, List.setIfInBounds_toArray, List.set_cons_zero, List.set_cons_succ, List.getElem_toArray, List.getElem_cons_succ, List.getElem_cons_zero])
        refine wpAnyH_take (i := 11) (oi := _) (v := ?_) rfl (by kernel_rfl) (by kernel_rfl) (by kernel_rfl) (fun _ _ _ h => h) (Or.inl ⟨by rfl, ?_⟩) (by assumption) ?_
        rotate_left
        focus (intro W hSw; (try dsimp only at hSw); go_simp; (try with_reducible rfl))
        (try simp only [Act.put, List.setIfInBounds_toArray, List.set_cons_zero, List.set_cons_succ, List.getElem_toArray, List.getElem_cons_succ, List.getElem_cons_zero])
        refine wpAnyH_ready (rs := [12]) (by kernel_rfl) (by simp) ?_
        refine AllReadyH.cons rfl (fun K hK => ?_) AllReadyH.nil
        have R3 := RD.out _ hRd.out
        have c3 := R3.f3; have z3 := blk_frozen hRd.out.2.2.1 m
        have ne1 : qb ≠ sb := fun e => (NA.out.neA (.inl rfl) (by omega) qb qo rfl) e
        go_simp
        refine hK.out _ _ ((World.cell?_of_block (w := d0) ((SameB.set (SameB.refl sb d0) m (.bool true)).2 qb R3.g1 ne1)).trans R3.f1) (fun _ => ?_)
        clear hK K
        (try simp only [Act.put, List.setIfInBounds_toArray, List.set_cons_zero, List.set_cons_succ, List.getElem_toArray, List.getElem_cons_succ, List.getElem_cons_zero])
        refine wpAnyH_take (i := 13) (oi := _) (v := ?_) rfl (by kernel_rfl) (by kernel_rfl) (by kernel_rfl) (fun _ _ _ h => h) (Or.inl ⟨by rfl, ?_⟩) (by assumption) ?_
        rotate_left
        focus (intro W hSw; (try dsimp only at hSw); go_simp; (try with_reducible rfl))
        (try simp only [Act.put, List.setIfInBounds_toArray, List.set_cons_zero, List.set_cons_succ, List.getElem_toArray, List.getElem_cons_succ, List.getElem_cons_zero])
        refine wpAnyH_ready (rs := [14]) (by kernel_rfl) (by simp) ?_
        refine AllReadyH.cons rfl (fun K hK => ?_) AllReadyH.nil
        have c4 : (d0.setCell ⟨sb, m, none⟩ (.bool true)).cell? ⟨lb, pn, none⟩ = some (.int .i64 q) := (World.cell?_of_block (w := d0) ((SameB.set (SameB.refl sb d0) m (.bool true)).2 lb R3.g4 (Ne.symm hsl.out.2.2))).trans R3.f4
        have z4 : (d0.setCell ⟨sb, m, none⟩ (.bool true)).frozen? ⟨lb, pn, none⟩ = false := blk_frozen (blk_same hRd.out.2.2.2 (Ne.symm hsl.out.2.2) (SameB.set (SameB.refl sb d0) m (.bool true))) pn
        have ne2 : qb ≠ lb := fun e => (NA.out.neA (.inr rfl) (by omega) qb qo rfl) e
        go_simp
        refine hK.out _ _ ((World.cell?_of_block (w := d0) (((SameB.set (SameB.refl lb _) pn (.int .i64 m)).2 qb (Nat.lt_of_lt_of_le R3.g1 (SameB.set (SameB.refl sb d0) m (.bool true)).1) ne2).trans ((SameB.set (SameB.refl sb d0) m (.bool true)).2 qb R3.g1 ne1))).trans R3.f1) (fun _ => ?_)
        clear hK K
        (try simp only [Act.put, List.setIfInBounds_toArray, List.set_cons_zero, List.set_cons_succ, List.getElem_toArray, List.getElem_cons_succ, List.getElem_cons_zero])
        refine wpAnyH_done (by kernel_rfl) ?_ _
        have hX := Lib.hid (NX.out _ hRd.out)
        have bX : Below w.heap.size w ((d0.setCell ⟨sb, m, none⟩ (.bool true)).setCell ⟨lb, pn, none⟩ (.int .i64 m)) := (bd0.setCell (show w.heap.size ≤ sb from hsl.out.1) _).setCell (show w.heap.size ≤ lb from hsl.out.2.1) _
        clear hHeld R3 c3 z3 c4 z4 ne1 ne2 hRd bd0
        go_wp2
        go_roundw
        case rel => first | exact ⟨i + 1, by go_num, by omega, bX, hX⟩ | exact ⟨i + 1, by omega, by omega, hX⟩
        case measure => simp [intOf]; omega
    · obtain rfl : i = L.length := by omega
      clear hR
      go_wp2_with (go_at_call 14; (with_reducible refine (awake_any _ (HH.out.on hB)).mono ?_); rintro e W9 ⟨rfl, h9⟩)
      go_ret
      exact ⟨rfl, bt hB h9⟩
theorem egressAll_row (a : Option Addr) (len cap : Nat) (zs : List Int) (w : World) (h : IsRow .i64 w a len cap zs) (hT : Lib.TabIs Tryd.prog w headsNm .u8 headsTab) :
    Calls Tryd.prog 3 #[.slice a len cap] w fun e w' => e = .returned (.bool true) ∧ Below w.heap.size w w' := by
  obtain ⟨e, hr⟩ := row_of h
  have := egressAll_walk a cap (zs.take len) w (htab_of hT) hr
  rw [← e] at this
  exact this
end Go.Proofs.YtkaehoihpgelnaaDoor
