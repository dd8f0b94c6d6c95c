/- Parts of a proof, printed by a program of mine out of my texts: EgLawP. -/
import Derived.Test.YtkaehoihpgelnaaDoorMF
import Derived.Test.YtkaehoihpgelnaaDoorMP
import Derived.Test.YtkaehoihpgelnaaDoorMX9
set_option linter.unusedSimpArgs false
set_option linter.unusedVariables false
namespace Go.Proofs.YtkaehoihpgelnaaDoor
open Go.RowKit
theorem rowB_take {l : List Bn} {n j : Nat} {u : Value} (h : (rowC bn (l.take n))[j]? = some u) : (rowC bn l)[j]? = some u := by
  have e : rowC bn l = rowC bn (l.take n) ++ rowC bn (l.drop n) := by rw [← rowC_append, List.take_append_drop]
  rw [e, List.getElem?_append_left (List.getElem?_eq_some_iff.1 h).1]; exact h
theorem rowB_drop {l : List Bn} {n j : Nat} {u : Value} (hn : n ≤ l.length) (h : (rowC bn (l.drop n))[j]? = some u) : (rowC bn l)[n * 9 + j]? = some u := by
  have e : rowC bn l = rowC bn (l.take n) ++ rowC bn (l.drop n) := by rw [← rowC_append, List.take_append_drop]
  have hl : (rowC bn (l.take n)).length = n * 9 := by rw [rowC_length bn_len, List.length_take, Nat.min_eq_left hn]
  rw [e, List.getElem?_append_right (by omega), hl, Nat.add_sub_cancel_left]; exact h
structure LpP (W : World) (xb lb : Nat) (al : Option Addr) (cl : Nat) (l : List Bn) (r : Rr) (ps : List Int) (us by' : Int) (c : Array Value) : Prop where
  g : PasG l r ps us by'
  row : SRow bn 9 W al cl l
  ne : neS (or2 (fun _ => False) xb lb) al l
  kx : blk W xb = some c
  ex : ExitS (or2 (fun _ => False) xb lb) W c r ps
  kl : blk W lb = some (rowC ic ps ++ []).toArray
set_option maxRecDepth 100000 in
set_option maxHeartbeats 6400000 in
theorem egressPassed_walk (a : Option Addr) (cap : Nat) (zs : List Int) (z1 z2 : Int) (w : World) (hH : HTab w) (hrow : Row .i64 w a cap zs) :
    Calls Tryd.prog 8 #[.slice a zs.length cap, .int .i64 z1, .int .i64 z2] w fun e w' => e = .returned (.bool true) ∧ Below w.heap.size w w' := by
  obtain ⟨i0, hi', hz0', hz1', hz2'⟩ := info_parts infoBu
  have Hi := Lib.hid hi'; have Hz0 := Lib.hid hz0'; have Hz1 := Lib.hid hz1'; have Hz2 := Lib.hid hz2'
  clear hi' hz0' hz1' hz2'
  have HH := Lib.hid hH; have HZ := Lib.hid hrow
  clear hH hrow
  go_enter Tryd.func8, Tryd.ntmps8
  go_wp2_with fail
  (with_reducible refine (madeE_any a cap zs w HZ.out).mono ?_)
  rintro e W1 ⟨v1, l0, rfl, hM, ho1, B1⟩
  obtain ⟨al0, cl0, rfl, hSl, _⟩ := srow_of_owns bn_len ho1
  clear ho1
  have g1 := Lib.hid (fun w => mod_any z1 120 w (by decide) (by decide))
  have g2 := Lib.hid (fun w => mod_any z2 4 w (by decide) (by decide))
  have a1 := Int.emod_nonneg z1 (show (120 : Int) ≠ 0 by decide)
  have a2 := Int.emod_lt_of_pos z1 (show (0 : Int) < 120 by decide)
  have a3 := Int.emod_nonneg z2 (show (4 : Int) ≠ 0 by decide)
  have a4 := Int.emod_lt_of_pos z2 (show (0 : Int) < 4 by decide)
  obtain ⟨us, e1⟩ : ∃ v, z1 % 120 = v := ⟨_, rfl⟩
  obtain ⟨by', e2⟩ : ∃ v, z2 % 4 = v := ⟨_, rfl⟩
  rw [e1] at g1 a1 a2; rw [e2] at g2 a3 a4
  clear e1 e2
  have hP0 : PasG l0 fstR [0, 0, 0] us by' := ⟨made_opn hM (by omega) (by omega) (by omega), hM.len, by omega⟩
  have HP0 := Lib.hid hP0
  have HSl := Lib.hid hSl
  have m1 : IntKind.u64.wrap us = us := IntWalk.u64_in _ (by omega)
  have t1 : ((0 : Int) != 0) = false := rfl
  clear hSl hM hP0
  go_upto_region 6 with (first
    | (go_at_call 15; first | (with_reducible refine (g1.out _).mono ?_; rintro e wx ⟨rfl, rfl⟩) | (with_reducible refine (g2.out _).mono ?_; rintro e wx ⟨rfl, rfl⟩))
    | (go_at_call 12; (with_reducible refine (first_any _).mono ?_); rintro e W2 ⟨f1, f2, f3, f4, f5, f6, rfl, R1, R2, R3, U1, U2, U3, h2⟩; (have X1 := first_exit (w := W1) (fun _ => False) (fun _ h => h.elim) R1 R2 R3 U1 U2 U3); clear R1 R2 R3 U1 U2 U3))
  obtain ⟨V, hV⟩ : ∃ V, V = (W2.alloc (.cells #[.slice f1 3 f2, .int .i64 1200, .slice f3 3 f4, .int .i64 2, .slice f5 3 f6] 28)).alloc (.cells #[.int .i64 0, .int .i64 0, .int .i64 0] 3) := ⟨_, rfl⟩
  obtain ⟨xb, hxb⟩ : ∃ s, s = W2.heap.size := ⟨_, rfl⟩
  obtain ⟨lb, hlb⟩ : ∃ s, s = W2.heap.size + 1 := ⟨_, rfl⟩
  have qV : Below W2.heap.size W2 V := by rw [hV]; exact ((Below.refl _ _).alloc (Nat.le_refl _) _).alloc (by simp) _
  have SL2 := HSl.out.below h2
  have HI : Hid (LpP V xb lb al0 cl0 l0 fstR [0, 0, 0] us by' #[.slice f1 3 f2, .int .i64 1200, .slice f3 3 f4, .int .i64 2, .slice f5 3 f6]) := Lib.hid ⟨HP0.out, SL2.below qV, neS.or (fun _ _ _ _ h => h) SL2 (by omega) (by omega), by rw [hV, hxb]; exact blk_alloc (blk_alloc_new _ _ _ rfl) _, (X1.or (by omega) (by omega)).below qV, by rw [hV, hlb]; exact blk_alloc_new _ _ _ (by simp)⟩
  have s2 := (bt B1 h2).size
  have BV : Below w.heap.size w V := bt (bt B1 h2) qV
  have hsl : Hid (w.heap.size ≤ xb ∧ w.heap.size ≤ lb ∧ xb ≠ lb) := Lib.hid (by omega)
  rw [← hV, ← hlb, ← hxb]
  clear hV hlb hxb qV SL2 X1 s2 h2 HP0 HSl B1 g1 g2
  go_loopw [7, 10] (fun lv iv wr => ∃ (k : Nat) (l : List Bn) (al : Option Addr) (cl : Nat) (r : Rr) (ps : List Int) (c : Array Value), iv = .int .i64 k ∧ k ≤ 12 ∧ lv = .slice al l.length cl ∧ Below w.heap.size w wr ∧ Hid (LpP wr xb lb al cl l r ps us by' c)) (fun _ iv _ => 12 - (intOf iv).toNat)
  case atStart => exact ⟨0, l0, al0, cl0, fstR, [0, 0, 0], _, rfl, by omega, rfl, BV, HI⟩
  case round =>
    clear HI BV
    obtain ⟨k, l, al, cl, r, ps, c, rfl, hk, rfl, hB, HL⟩ := hrel
    by_cases hk12 : k < 12
    · have t2 : decide ((k : Int) < 12) = true := decide_eq_true (by omega)
      have hG := HL.out.g
      have hl12 := hG.len
      have hT := HH.out.on hB
      have hSx : ∀ b, or2 (fun _ => False) xb lb b → b < wr.heap.size := (by
        rintro b (rfl | rfl | h)
        · exact blk_lt HL.out.kx
        · exact blk_lt HL.out.kl
        · exact h.elim)
      have GQ := Lib.hid (queuesX_any (by omega) hG.opn.lst al cl wr HL.out.row)
      have hex := HL.out.ex
      have GC := Lib.hid (fun W (hB : Below wr.heap.size wr W) => chooseX_any hG.opn c al cl W (hT.on hB) _ (fun b hb => Nat.lt_of_lt_of_le (hSx b hb) hB.size) (hex.below hB) (HL.out.row.below hB) HL.out.ne)
      obtain ⟨aw, cw, ad, cd, ap, cp, rfl, _⟩ := hex
      have nr := kn HL.out.kx
      have HGG := Lib.hid hG
      unfold RetCh at GC
      by_cases hz : (chooseS (opnW r ps l us 1000 by')).2.2 = 0
      · obtain ⟨n, pn, hd, pv, nv, hst⟩ := pas_step hG hz
        have GC2 : Hid (∀ W, Below wr.heap.size wr W → Calls Tryd.prog 30 #[.agg #[.slice aw 3 cw, .int .i64 r.q, .slice ad 3 cd, .int .i64 r.t, .slice ap 3 cp], .slice al l.length cl, .int .u64 us, .int .i64 1000, .int .i64 by'] W fun e w' => ∃ c2, e = .returned (.tuple #[.int .i64 n, .agg c2, .int .i64 0]) ∧ ExitS (or2 (fun _ => False) xb lb) w' c2 (chooseS (opnW r ps l us 1000 by')).2.1.dr (ps.set pn nv) ∧ Below W.heap.size W w') := Lib.hid (fun W hB => by
          refine (GC.out W hB).mono ?_
          rintro e w' ⟨h1, ⟨h2, _⟩ | ⟨_, c2, h2, h3⟩⟩
          · exact absurd hz h2
          · rw [hst.i] at h2
            rw [hst.psn] at h3
            exact ⟨c2, h2, h3, h1⟩)
        have hnext := hst.next
        obtain ⟨r2, hr2⟩ : ∃ v, v = (chooseS (opnW r ps l us 1000 by')).2.1.dr := ⟨_, rfl⟩
        rw [← hr2] at GC2 hnext
        have HST := Lib.hid hst; have HN := Lib.hid hnext
        clear hr2 hnext GC hG hT hSx hz
        obtain ⟨pb, po, rfl, _, _⟩ := HL.out.row.2.2.2 (by have := hst.nl; omega)
        have hnl := hst.nl
        have hpn := hst.pn3
        have hnvb := hst.nvb
        clear hst
        go_upto_region 10 with (first
          | (go_at_call 21; (with_reducible refine (GQ.out).mono ?_); rintro e u1 ⟨ob, rfl, lob, hQ, h1⟩; (have k1 := blk_below h1 HL.out.kx); (have n1 := kn k1); clear nr)
          | (go_at_call 30; (with_reducible refine (GC2.out _ h1).mono ?_); rintro e u2 ⟨cc, rfl, hE, h2⟩; (have HE := Lib.hid hE); obtain ⟨aw2, cw2, ad2, cd2, ap2, cp2, rfl, _⟩ := hE; (have h12 := bt h1 h2); (have hQ2 := (hQ.newS (S := fun b => False) (fun _ h => h.elim)).at.below h2); clear n1 k1 hQ h1 h2))
        obtain ⟨V, eV⟩ : ∃ v, v = u2.alloc (.cells #[.slice aw2 3 cw2, .int .i64 r2.q, .slice ad2 3 cd2, .int .i64 r2.t, .slice ap2 3 cp2] 28) := ⟨_, rfl⟩
        obtain ⟨g, eg⟩ : ∃ v, v = u2.heap.size := ⟨_, rfl⟩
        have hV : Below u2.heap.size u2 V := (by rw [eV]; exact (Below.refl _ _).alloc (Nat.le_refl _) _)
        have kV : blk V g = some #[.slice aw2 3 cw2, .int .i64 r2.q, .slice ad2 3 cd2, .int .i64 r2.t, .slice ap2 3 cp2] := (by rw [eV]; exact blk_alloc_new _ _ _ eg)
        have HEV := Lib.hid (HE.out.below hV)
        have hVr := bt h12 hV
        have hQV := hQ2.below hV
        have bV := bt hB hVr
        have rowV := HL.out.row.below hVr
        have kxV := blk_below hVr HL.out.kx
        have klV := blk_below hVr HL.out.kl
        have lg : lb < g := (by rw [eg]; exact Nat.lt_of_lt_of_le (blk_lt HL.out.kl) h12.size)
        have lx : xb < g := (by rw [eg]; exact Nat.lt_of_lt_of_le (blk_lt HL.out.kx) h12.size)
        have NEL := Lib.hid HL.out.ne
        obtain ⟨cs, hQR, lobV, hrg⟩ := qrow_of hQV
        obtain ⟨aq, cq, hcp, Rq⟩ := hQR.get hpn
        have eq3 : q3 (queS l 0) (queS l 1) (queS l 2) pn = queS l pn := (by
          match pn, hpn with
          | 0, _ => rfl
          | 1, _ => rfl
          | 2, _ => rfl)
        rw [eq3] at hcp Rq
        have q00 := HST.out.q0
        have hdq0 := HST.out.hdq
        obtain ⟨bq, oq, rfl, lbq, _⟩ := Rq.2.2.2 q00
        have cq0 : V.cell? ⟨ob, pn, none⟩ = some (.slice (some ⟨bq, oq, none⟩) (queS l pn).length cq) := (by have := hrg pn _ hcp; rw [Nat.zero_add] at this; exact this)
        have ch0 : V.cell? ⟨bq, oq, none⟩ = some (.int .i64 hd) := (by
          have h9 := (srow_cellE Rq (j := 0) q00).2
          have e9 : at3 (queS l pn) 0 = (queS l pn)[0] := by
            unfold at3
            rw [List.getD_eq_getElem?_getD]
            exact congrArg (fun z => z.getD 0) (List.getElem?_eq_getElem q00)
          rw [hdq0] at e9
          rw [e9]; exact h9)
        clear hdq0 q00
        have hcq := Rq.1
        have q0' := HST.out.q0
        have cpr : V.cell? ⟨pb, po + n * 9 + 4, none⟩ = some (.int .i64 pn) := (by
          have h9 := (srow_atG rowV hnl).2 4 _ rfl
          rw [HST.out.pr hnl] at h9; exact h9)
        obtain ⟨lq, hlq⟩ : ∃ v, v = (queS l pn).length := ⟨_, rfl⟩
        rw [← hlq] at cq0 hcq q0'
        have lq0 : (0 : Int) < (lq : Int) := by omega
        have lq1 : ((lq : Int) == 0) = false := by simp; omega
        have i1 : (n : Int) < (l.length : Int) := by omega
        have d1 : decide ((n : Int) < 0) = false := decide_eq_false (by omega)
        have d2 : decide ((l.length : Int) ≤ (n : Int)) = false := decide_eq_false (by omega)
        have d2' : decide (l.length ≤ n) = false := decide_eq_false (by omega)
        have p1 : (pn : Int) < 3 := by omega
        have t3 : ((3 : Int) != 3) = false := rfl
        have t8 : ((0 : Int) == 8) = false := rfl
        have hun : undef = Value.tuple #[] := rfl
        have cpv := blk_cellI HST.out.pv_ klV
        have fpv := blk_frozen klV pn
        have wpv : IntKind.i64.wrap (pv + 1) = pv + 1 := IntWalk.i64_in _ (by omega)
        have dby : decide (by' < nv) = false := decide_eq_false (by omega)
        have nby : ¬ by' < nv := by omega
        rw [← eV, ← eg]
        clear eV eg hV HE h12 hQ2 hQV hQR hrg hcp Rq eq3 lobV hlq hVr hB hnvb GQ GC2
        have KX : Hid (∀ X, X = V.setCell ⟨lb, pn, none⟩ (.int .i64 nv) → SameB lb V X ∧ blk X lb = some (rowC ic (ps.set pn nv) ++ []).toArray ∧ SRow bn 9 X (some ⟨pb, po, none⟩) cl l ∧ ExitS (or2 (fun _ => False) xb lb) X #[.slice aw2 3 cw2, .int .i64 r2.q, .slice ad2 3 cd2, .int .i64 r2.t, .slice ap2 3 cp2] r2 (ps.set pn nv) ∧ blk X xb = some #[.slice aw 3 cw, .int .i64 r.q, .slice ad 3 cd, .int .i64 r.t, .slice ap 3 cp] ∧ blk X g = some #[.slice aw2 3 cw2, .int .i64 r2.q, .slice ad2 3 cd2, .int .i64 r2.t, .slice ap2 3 cp2] ∧ Below w.heap.size w X ∧ X.cell? ⟨lb, pn, none⟩ = some (.int .i64 nv)) := Lib.hid (by
          rintro X rfl
          have s1 : SameB lb V (V.setCell ⟨lb, pn, none⟩ (.int .i64 nv)) := (SameB.refl _ _).set _ _
          have kl2 := blk_setI (y := nv) HST.out.pv_ klV
          have hps : pn < ps.length := (List.getElem?_eq_some_iff.1 HST.out.pv_).1
          exact ⟨s1, kl2, rowV.sameB s1 (NEL.out.neA or2_2), HEV.out.sameB s1 or2_2, blk_same kxV hsl.out.2.2 s1, blk_same kV (by omega) s1, bV.setCell hsl.out.2.1 _, blk_cellI (by rw [List.getElem?_set_self hps]) kl2⟩)
        have FIN : Hid (∀ X, X = V.setCell ⟨lb, pn, none⟩ (.int .i64 nv) → True) := Lib.hid (fun _ _ => trivial)
        clear klV kxV kV bV rowV HEV FIN
        by_cases hh : hd = (n : Int)
        · have tq : (hd == (n : Int)) = true := by simpa using hh
          have hnv : nv = 0 := by rw [HST.out.nv_, if_pos hh]
          subst hnv
          clear hh
          go_upto_region 18 with fail
          obtain ⟨X, eX⟩ : ∃ v, v = V.setCell ⟨lb, pn, none⟩ (.int .i64 0) := ⟨_, rfl⟩
          obtain ⟨sX, klX, rowX, exX, kxX, kgX, bX, cX⟩ := KX.out X eX
          rw [← eX]
          clear KX eX cpv fpv cq0 ch0 cpr sX
          have HEX := Lib.hid exX
          clear exX
          go_upto_region 20 with fail
          clear cX
          have ncl : n ≤ cl := by have := rowX.1; omega
          have ncl2 : n + 1 ≤ cl := by have := rowX.1; omega
          have wn1 : IntKind.i64.wrap ((n : Int) + 1) = (n : Int) + 1 := IntWalk.i64_in _ (by omega)
          have n1l : (n : Int) + 1 ≤ (l.length : Int) := by omega
          have n10 : (0 : Int) ≤ (n : Int) + 1 := by omega
          have lcl : l.length ≤ cl := rowX.1
          by_cases hcl : cl = n + 1
          · subst hcl
            have hln : l.length = n + 1 := by omega
            have q1 : (n : Int) ≤ (n : Int) + 1 := by omega
            have q2 : (n : Int) ≤ ((n + 1 : Nat) : Int) := by omega
            have q3 : (l.length : Int) ≤ (n : Int) + 1 := by omega
            have q4 : (l.length : Int) ≤ ((n + 1 : Nat) : Int) := by omega
            have HLN := Lib.hid hln
            clear hln
            skip
            refine wp_region_held_drew (S := fun _ => True) (by kernel_rfl) trivial (fun hHeld => ?_)
            obtain ⟨d0, ed⟩ : ∃ v, v = X.drew := ⟨_, rfl⟩
            have qd : Below X.heap.size X d0 := (by rw [ed]; exact (Below.refl _ _).drew)
            have kld := blk_below qd klX; have kxd := blk_below qd kxX; have kgd := blk_below qd kgX; have rowd := rowX.below qd; have HEd := Lib.hid (HEX.out.below qd); have bd := bt bX qd
            rw [← ed]
            clear ed qd klX kxX kgX rowX HEX bX
            obtain ⟨b', o', eb, lpb, hcc⟩ := srow_cells rowd (by omega)
            cases eb
            have HCC := Lib.hid hcc
            clear hcc
            have szd : lb < d0.heap.size ∧ xb < d0.heap.size ∧ g < d0.heap.size := ⟨blk_lt kld, blk_lt kxd, blk_lt kgd⟩
            have swd := bd.size
            refine wpAnyH_take (i := 1) (oi := _) (v := ?_) rfl (by kernel_rfl) (by kernel_rfl) (by kernel_rfl) (fun _ _ _ h => h) (Or.inl ⟨by rfl, ?_⟩) (by assumption) ?_
            rotate_left
            focus (intro W hSw; (try dsimp only at hSw); go_simp; (try with_reducible rfl))
            (try simp only [Act.put, List.setIfInBounds_toArray, List.set_cons_zero, List.set_cons_succ, List.getElem_toArray, List.getElem_cons_succ, List.getElem_cons_zero])
            refine wpAnyH_take (i := 2) (oi := _) (v := ?_) rfl (by kernel_rfl) (by kernel_rfl) (by kernel_rfl) (fun _ _ _ h => h) (Or.inl ⟨by rfl, ?_⟩) (by assumption) ?_
            rotate_left
            focus (intro W hSw; (try dsimp only at hSw); go_simp; (try with_reducible rfl))
            (try simp only [Act.put, List.setIfInBounds_toArray, List.set_cons_zero, List.set_cons_succ, List.getElem_toArray, List.getElem_cons_succ, List.getElem_cons_zero])
            refine wpAnyH_take (i := 3) (oi := _) (v := ?_) rfl (by kernel_rfl) (by kernel_rfl) (by kernel_rfl) (fun _ _ _ h => h) (Or.inl ⟨by rfl, ?_⟩) (by assumption) ?_
            rotate_left
            focus (intro W hSw; (try dsimp only at hSw); go_simp; (try with_reducible rfl))
            (try simp only [Act.put, List.setIfInBounds_toArray, List.set_cons_zero, List.set_cons_succ, List.getElem_toArray, List.getElem_cons_succ, List.getElem_cons_zero])
            refine wpAnyH_take (i := 5) (oi := _) (v := ?_) rfl (by kernel_rfl) (by kernel_rfl) (by kernel_rfl) (fun _ _ _ h => h) (Or.inl ⟨by rfl, ?_⟩) (by assumption) ?_
            rotate_left
            focus (intro W hSw; (try dsimp only at hSw); go_simp; (try with_reducible rfl))
            (try simp only [Act.put, List.setIfInBounds_toArray, List.set_cons_zero, List.set_cons_succ, List.getElem_toArray, List.getElem_cons_succ, List.getElem_cons_zero])
            refine wpAnyH_take (i := 6) (oi := _) (v := ?_) rfl (by kernel_rfl) (by kernel_rfl) (by kernel_rfl) (fun _ _ _ h => h) (Or.inl ⟨by rfl, ?_⟩) (by assumption) ?_
            rotate_left
            focus (intro W hSw; (try dsimp only at hSw); go_simp; (try with_reducible rfl))
            (try simp only [Act.put, List.setIfInBounds_toArray, List.set_cons_zero, List.set_cons_succ, List.getElem_toArray, List.getElem_cons_succ, List.getElem_cons_zero])
            refine wpAnyH_take (i := 7) (oi := _) (v := ?_) rfl (by kernel_rfl) (by kernel_rfl) (by kernel_rfl) (fun _ _ _ h => h) (Or.inl ⟨by rfl, ?_⟩) (by assumption) ?_
            rotate_left
            focus (intro W hSw; (try dsimp only at hSw); go_simp; (try with_reducible rfl))
            (try simp only [Act.put, List.setIfInBounds_toArray, List.set_cons_zero, List.set_cons_succ, List.getElem_toArray, List.getElem_cons_succ, List.getElem_cons_zero])
            refine wpAnyH_take (i := 8) (oi := _) (v := ?_) rfl (by kernel_rfl) (by kernel_rfl) (by kernel_rfl) (fun _ _ _ h => h) (Or.inl ⟨by rfl, ?_⟩) (by assumption) ?_
            rotate_left
            focus (intro W hSw; (try dsimp only at hSw); go_simp; (try with_reducible rfl))
            (try simp only [Act.put, List.setIfInBounds_toArray, List.set_cons_zero, List.set_cons_succ, List.getElem_toArray, List.getElem_cons_succ, List.getElem_cons_zero])
            refine wpAnyH_ready (rs := [0]) (by kernel_rfl) (by simp) ?_
            refine AllReadyH.cons rfl (fun K hK => ?_) AllReadyH.nil
            go_simp
            obtain ⟨d1, e1⟩ : ∃ v, v = d0.alloc (.cells #[] 38) := ⟨_, rfl⟩
            have o1 : d1.ownsRow d0.heap.size 38 9 (.slice (some ⟨d0.heap.size, 0, none⟩) 0 0) 0 [] := (by rw [e1]; exact own_empty9 _ _)
            have c1 : Below d0.heap.size d0 d1 := (by rw [e1]; exact (Below.refl _ _).alloc (Nat.le_refl _) _)
            rw [← e1]
            clear e1
            refine hK.out _ _ trivial (fun _ => ?_)
            clear hK K
            (try simp only [Act.put, List.setIfInBounds_toArray, List.set_cons_zero, List.set_cons_succ, List.getElem_toArray, List.getElem_cons_succ, List.getElem_cons_zero])
            refine wpAnyH_ready (rs := [4]) (by kernel_rfl) (by simp) ?_
            refine AllReadyH.cons rfl (fun K hK => ?_) AllReadyH.nil
            refine wp_append_own _ (.tmp 112) (.tmp 115) 23 rfl d0.heap.size 38 i0 (.agg #[.int .i64 0, .int .u64 0, .int .i64 0, .int .i64 0, .int .i64 0, .int .i64 0, .int .i64 0, .int .i64 0, .string ⟨#[]⟩]) 9 80 Tryd.underlying23 Hi.out Hz0.out Hz1.out Hz2.out rfl (by decide) (.slice (some ⟨d0.heap.size, 0, none⟩) 0 0) 0 [] rfl o1 ⟨pb, po, none⟩ n (n + 1) (rowC bn (l.take n)) rfl (by rw [rowC_length bn_len, List.length_take, Nat.min_eq_left (by omega)]) (fun j' u hj' => (by rw [Addr.add_mid, c1.cell (p := ⟨pb, po + j', none⟩) lpb]; exact HCC.out j' u (rowB_take hj'))) (rowC_one_cell _) (by unfold maxLen; omega) (by omega) c1.size ?_
            intro v2 d2 ho2 hg2 _
            have c2 : Below d0.heap.size d0 d2 := c1.grown hg2 c1.size (fun k e => (o1.lt k e).1)
            have O2 : d2.ownsRow d0.heap.size 38 9 v2 n (rowC bn (l.take n)) := (by have h9 := ho2; rw [Nat.zero_add, List.nil_append] at h9; exact h9)
            clear ho2 hg2 o1 c1
            refine hK.out _ _ trivial (fun _ => ?_)
            clear hK K
            (try simp only [Act.put, List.setIfInBounds_toArray, List.set_cons_zero, List.set_cons_succ, List.getElem_toArray, List.getElem_cons_succ, List.getElem_cons_zero])
            refine wpAnyH_ready (rs := [9]) (by kernel_rfl) (by simp) ?_
            refine AllReadyH.cons rfl (fun K hK => ?_) AllReadyH.nil
            refine wp_append_own _ (.tmp 116) (.tmp 120) 23 rfl d0.heap.size 38 i0 (.agg #[.int .i64 0, .int .u64 0, .int .i64 0, .int .i64 0, .int .i64 0, .int .i64 0, .int .i64 0, .int .i64 0, .string ⟨#[]⟩]) 9 80 Tryd.underlying23 Hi.out Hz0.out Hz1.out Hz2.out rfl (by decide) v2 n (rowC bn (l.take n)) rfl O2 ⟨pb, po, none⟩ 0 0 (rowC bn (l.drop (n + 1))) rfl (by rw [List.drop_of_length_le (by omega)]; rfl) (fun j' u hj' => by rw [List.drop_of_length_le (by omega)] at hj'; simp [rowC] at hj') (rowC_one_cell _) (by unfold maxLen; omega) (by omega) c2.size ?_
            intro v3 d3 ho3 hg3 _
            have c3 : Below d0.heap.size d0 d3 := c2.grown hg3 c2.size (fun k e => (O2.lt k e).1)
            have hll : (l.take n ++ l.drop (n + 1)).length = n + 0 := (by rw [List.length_append, List.length_take, List.length_drop]; omega)
            have O3 : d3.ownsRow d0.heap.size 38 9 v3 (l.take n ++ l.drop (n + 1)).length (rowC bn (l.take n ++ l.drop (n + 1))) := (by rw [hll, rowC_append]; exact ho3)
            clear ho3 hg3 O2 c2
            refine hK.out _ _ trivial (fun _ => ?_)
            clear hK K
            (try simp only [Act.put, List.setIfInBounds_toArray, List.set_cons_zero, List.set_cons_succ, List.getElem_toArray, List.getElem_cons_succ, List.getElem_cons_zero])
            refine wpAnyH_take (i := 10) (oi := _) (v := ?_) rfl (by kernel_rfl) (by kernel_rfl) (by kernel_rfl) (fun _ _ _ h => h) (Or.inl ⟨by rfl, ?_⟩) (by assumption) ?_
            rotate_left
            focus (intro W hSw; (try dsimp only at hSw); go_simp; (try with_reducible rfl))
            (try simp only [Act.put, List.setIfInBounds_toArray, List.set_cons_zero, List.set_cons_succ, List.getElem_toArray, List.getElem_cons_succ, List.getElem_cons_zero])
            refine wpAnyH_done (by kernel_rfl) ?_ _
            obtain ⟨al3, cl3, rfl, row3, _⟩ := srow_of_owns bn_len O3
            have up3 : upR d0.heap.size al3 := fun b off e => by subst e; exact (O3.lt b rfl).1
            have kl3 := blk_below c3 kld; have kx3 := blk_below c3 kxd; have kg3 := blk_below c3 kgd; have HE3 := Lib.hid (HEd.out.below c3); have b3 := bt bd c3
            have n3 := kn kx3; have ng3 := kn kg3
            clear hHeld O3 c3 kld kxd kgd HEd bd rowd HCC
            go_wp2
            obtain ⟨Y, eY⟩ : ∃ v, v = (((((d3.setCell ⟨xb, 0, none⟩ (.slice aw2 3 cw2)).setCell ⟨xb, 1, none⟩ (.int .i64 r2.q)).setCell ⟨xb, 2, none⟩ (.slice ad2 3 cd2)).setCell ⟨xb, 3, none⟩ (.int .i64 r2.t)).setCell ⟨xb, 4, none⟩ (.slice ap2 3 cp2)) := ⟨_, rfl⟩
            have sY : SameB xb d3 Y := (by rw [eY]; (repeat (first | (with_reducible exact SameB.refl _ _) | (with_reducible refine SameB.set ?_ _ _))))
            have kY : blk Y xb = some #[.slice aw2 3 cw2, .int .i64 r2.q, .slice ad2 3 cd2, .int .i64 r2.t, .slice ap2 3 cp2] := (by rw [eY]; (apply blk_to; (focus (repeat (first | (with_reducible assumption) | (with_reducible apply blk_drew) | (with_reducible apply blk_set) | ((with_reducible apply blk_other'); (first | (focus (dsimp only; assumption)) | (focus (simp; done)) | (focus (dsimp only; omega)))) | ((with_reducible apply blk_alloc_new); (first | (with_reducible rfl) | (focus (simp; done)) | (focus (simp; omega)))) | (with_reducible apply blk_alloc) | ((with_reducible apply blk_below); (with_reducible assumption))))); kernel_rfl))
            have bY : Below w.heap.size w Y := (by have hx0 := hsl.out.1; rw [eY]; (repeat (first | (with_reducible assumption) | (with_reducible exact Below.refl _ _) | (with_reducible refine beld_drew ?_) | ((with_reducible refine bset' ?_ ?_); (first | (focus (dsimp only; assumption)) | (focus (simp; done)) | (focus (dsimp only; omega)))) | (with_reducible refine belt_alloc ?_) | ((with_reducible refine zeroed_below' ?_ ?_); (first | (focus (simp; done)) | (focus (dsimp only; omega)))) | (with_reducible refine bt ?_ (by assumption)))))
            have HY : Hid (LpP Y xb lb al3 cl3 (l.take n ++ l.drop (n + 1)) r2 (ps.set pn 0) us by' #[.slice aw2 3 cw2, .int .i64 r2.q, .slice ad2 3 cd2, .int .i64 r2.t, .slice ap2 3 cp2]) := Lib.hid ⟨HN.out, row3.sameB sY (up3.neA szd.2.1 _), up3.neS (fun b hb => by rcases hb with rfl | rfl | hb; exact szd.2.1; exact szd.1; exact hb.elim) _, kY, HE3.out.sameB sY or2_1, blk_same kl3 (Ne.symm hsl.out.2.2) sY⟩
            rw [← eY]
            clear eY n3 ng3 kx3 kg3 kl3 HE3 b3 sY kY row3
            (try simp only [← hun])
            clear hun
            go_roundw
            case rel => first | exact ⟨k + 1, l.take n ++ l.drop (n + 1), al3, cl3, r2, ps.set pn 0, _, by go_num, by omega, rfl, bY, HY⟩ | exact ⟨k + 1, by omega, by omega, l.take n ++ l.drop (n + 1), rfl, r2, ps.set pn 0, _, HY⟩
            case measure => simp [intOf] <;> omega
          · have q2 : (n : Int) ≤ (cl : Int) := by omega
            have q4 : (l.length : Int) ≤ (cl : Int) := by omega
            refine wp_region_held_drew (S := fun _ => True) (by kernel_rfl) trivial (fun hHeld => ?_)
            obtain ⟨d0, ed⟩ : ∃ v, v = X.drew := ⟨_, rfl⟩
            have qd : Below X.heap.size X d0 := (by rw [ed]; exact (Below.refl _ _).drew)
            have kld := blk_below qd klX; have kxd := blk_below qd kxX; have kgd := blk_below qd kgX; have rowd := rowX.below qd; have HEd := Lib.hid (HEX.out.below qd); have bd := bt bX qd
            rw [← ed]
            clear ed qd klX kxX kgX rowX HEX bX
            obtain ⟨b', o', eb, lpb, hcc⟩ := srow_cells rowd (by omega)
            cases eb
            have HCC := Lib.hid hcc
            clear hcc
            have szd : lb < d0.heap.size ∧ xb < d0.heap.size ∧ g < d0.heap.size := ⟨blk_lt kld, blk_lt kxd, blk_lt kgd⟩
            have swd := bd.size
            refine wpAnyH_take (i := 1) (oi := _) (v := ?_) rfl (by kernel_rfl) (by kernel_rfl) (by kernel_rfl) (fun _ _ _ h => h) (Or.inl ⟨by rfl, ?_⟩) (by assumption) ?_
            rotate_left
            focus (intro W hSw; (try dsimp only at hSw); go_simp; (try with_reducible rfl))
            (try simp only [Act.put, List.setIfInBounds_toArray, List.set_cons_zero, List.set_cons_succ, List.getElem_toArray, List.getElem_cons_succ, List.getElem_cons_zero])
            refine wpAnyH_take (i := 2) (oi := _) (v := ?_) rfl (by kernel_rfl) (by kernel_rfl) (by kernel_rfl) (fun _ _ _ h => h) (Or.inl ⟨by rfl, ?_⟩) (by assumption) ?_
            rotate_left
            focus (intro W hSw; (try dsimp only at hSw); go_simp; (try with_reducible rfl))
            (try simp only [Act.put, List.setIfInBounds_toArray, List.set_cons_zero, List.set_cons_succ, List.getElem_toArray, List.getElem_cons_succ, List.getElem_cons_zero])
            refine wpAnyH_take (i := 3) (oi := _) (v := ?_) rfl (by kernel_rfl) (by kernel_rfl) (by kernel_rfl) (fun _ _ _ h => h) (Or.inl ⟨by rfl, ?_⟩) (by assumption) ?_
            rotate_left
            focus (intro W hSw; (try dsimp only at hSw); go_simp; (try with_reducible rfl))
            (try simp only [Act.put, List.setIfInBounds_toArray, List.set_cons_zero, List.set_cons_succ, List.getElem_toArray, List.getElem_cons_succ, List.getElem_cons_zero])
            refine wpAnyH_take (i := 5) (oi := _) (v := ?_) rfl (by kernel_rfl) (by kernel_rfl) (by kernel_rfl) (fun _ _ _ h => h) (Or.inl ⟨by rfl, ?_⟩) (by assumption) ?_
            rotate_left
            focus (intro W hSw; (try dsimp only at hSw); go_simp; (try with_reducible rfl))
            (try simp only [Act.put, List.setIfInBounds_toArray, List.set_cons_zero, List.set_cons_succ, List.getElem_toArray, List.getElem_cons_succ, List.getElem_cons_zero])
            refine wpAnyH_take (i := 6) (oi := _) (v := ?_) rfl (by kernel_rfl) (by kernel_rfl) (by kernel_rfl) (fun _ _ _ h => h) (Or.inl ⟨by rfl, ?_⟩) (by assumption) ?_
            rotate_left
            focus (intro W hSw; (try dsimp only at hSw); go_simp; (try with_reducible rfl))
            (try simp only [Act.put, List.setIfInBounds_toArray, List.set_cons_zero, List.set_cons_succ, List.getElem_toArray, List.getElem_cons_succ, List.getElem_cons_zero])
            refine wpAnyH_take (i := 7) (oi := _) (v := ?_) rfl (by kernel_rfl) (by kernel_rfl) (by kernel_rfl) (fun _ _ _ h => h) (Or.inl ⟨by rfl, ?_⟩) (by assumption) ?_
            rotate_left
            focus (intro W hSw; (try dsimp only at hSw); go_simp; (try with_reducible rfl))
            (try simp only [Act.put, List.setIfInBounds_toArray, List.set_cons_zero, List.set_cons_succ, List.getElem_toArray, List.getElem_cons_succ, List.getElem_cons_zero])
            refine wpAnyH_take (i := 8) (oi := _) (v := ?_) rfl (by kernel_rfl) (by kernel_rfl) (by kernel_rfl) (fun _ _ _ h => h) (Or.inl ⟨by rfl, ?_⟩) (by assumption) ?_
            rotate_left
            focus (intro W hSw; (try dsimp only at hSw); go_simp; (try with_reducible rfl))
            (try simp only [Act.put, List.setIfInBounds_toArray, List.set_cons_zero, List.set_cons_succ, List.getElem_toArray, List.getElem_cons_succ, List.getElem_cons_zero])
            refine wpAnyH_ready (rs := [0]) (by kernel_rfl) (by simp) ?_
            refine AllReadyH.cons rfl (fun K hK => ?_) AllReadyH.nil
            go_simp
            obtain ⟨d1, e1⟩ : ∃ v, v = d0.alloc (.cells #[] 38) := ⟨_, rfl⟩
            have o1 : d1.ownsRow d0.heap.size 38 9 (.slice (some ⟨d0.heap.size, 0, none⟩) 0 0) 0 [] := (by rw [e1]; exact own_empty9 _ _)
            have c1 : Below d0.heap.size d0 d1 := (by rw [e1]; exact (Below.refl _ _).alloc (Nat.le_refl _) _)
            rw [← e1]
            clear e1
            refine hK.out _ _ trivial (fun _ => ?_)
            clear hK K
            (try simp only [Act.put, List.setIfInBounds_toArray, List.set_cons_zero, List.set_cons_succ, List.getElem_toArray, List.getElem_cons_succ, List.getElem_cons_zero])
            refine wpAnyH_ready (rs := [4]) (by kernel_rfl) (by simp) ?_
            refine AllReadyH.cons rfl (fun K hK => ?_) AllReadyH.nil
            refine wp_append_own _ (.tmp 112) (.tmp 115) 23 rfl d0.heap.size 38 i0 (.agg #[.int .i64 0, .int .u64 0, .int .i64 0, .int .i64 0, .int .i64 0, .int .i64 0, .int .i64 0, .int .i64 0, .string ⟨#[]⟩]) 9 80 Tryd.underlying23 Hi.out Hz0.out Hz1.out Hz2.out rfl (by decide) (.slice (some ⟨d0.heap.size, 0, none⟩) 0 0) 0 [] rfl o1 ⟨pb, po, none⟩ n cl (rowC bn (l.take n)) rfl (by rw [rowC_length bn_len, List.length_take, Nat.min_eq_left (by omega)]) (fun j' u hj' => (by rw [Addr.add_mid, c1.cell (p := ⟨pb, po + j', none⟩) lpb]; exact HCC.out j' u (rowB_take hj'))) (rowC_one_cell _) (by unfold maxLen; omega) (by omega) c1.size ?_
            intro v2 d2 ho2 hg2 _
            have c2 : Below d0.heap.size d0 d2 := c1.grown hg2 c1.size (fun k e => (o1.lt k e).1)
            have O2 : d2.ownsRow d0.heap.size 38 9 v2 n (rowC bn (l.take n)) := (by have h9 := ho2; rw [Nat.zero_add, List.nil_append] at h9; exact h9)
            clear ho2 hg2 o1 c1
            refine hK.out _ _ trivial (fun _ => ?_)
            clear hK K
            (try simp only [Act.put, List.setIfInBounds_toArray, List.set_cons_zero, List.set_cons_succ, List.getElem_toArray, List.getElem_cons_succ, List.getElem_cons_zero])
            refine wpAnyH_ready (rs := [9]) (by kernel_rfl) (by simp) ?_
            refine AllReadyH.cons rfl (fun K hK => ?_) AllReadyH.nil
            refine wp_append_own _ (.tmp 116) (.tmp 120) 23 rfl d0.heap.size 38 i0 (.agg #[.int .i64 0, .int .u64 0, .int .i64 0, .int .i64 0, .int .i64 0, .int .i64 0, .int .i64 0, .int .i64 0, .string ⟨#[]⟩]) 9 80 Tryd.underlying23 Hi.out Hz0.out Hz1.out Hz2.out rfl (by decide) v2 n (rowC bn (l.take n)) rfl O2 ⟨pb, po + (n + 1) * 9, none⟩ (l.length - (n + 1)) (cl - (n + 1)) (rowC bn (l.drop (n + 1))) rfl (by rw [rowC_length bn_len, List.length_drop]) (fun j' u hj' => (by rw [Addr.add_mid, c2.cell (p := ⟨pb, po + (n + 1) * 9 + j', none⟩) lpb, Nat.add_assoc]; exact HCC.out _ u (rowB_drop (by omega) hj'))) (rowC_one_cell _) (by unfold maxLen; omega) (by omega) c2.size ?_
            intro v3 d3 ho3 hg3 _
            have c3 : Below d0.heap.size d0 d3 := c2.grown hg3 c2.size (fun k e => (O2.lt k e).1)
            have hll : (l.take n ++ l.drop (n + 1)).length = n + (l.length - (n + 1)) := (by rw [List.length_append, List.length_take, List.length_drop]; omega)
            have O3 : d3.ownsRow d0.heap.size 38 9 v3 (l.take n ++ l.drop (n + 1)).length (rowC bn (l.take n ++ l.drop (n + 1))) := (by rw [hll, rowC_append]; exact ho3)
            clear ho3 hg3 O2 c2
            refine hK.out _ _ trivial (fun _ => ?_)
            clear hK K
            (try simp only [Act.put, List.setIfInBounds_toArray, List.set_cons_zero, List.set_cons_succ, List.getElem_toArray, List.getElem_cons_succ, List.getElem_cons_zero])
            refine wpAnyH_take (i := 10) (oi := _) (v := ?_) rfl (by kernel_rfl) (by kernel_rfl) (by kernel_rfl) (fun _ _ _ h => h) (Or.inl ⟨by rfl, ?_⟩) (by assumption) ?_
            rotate_left
            focus (intro W hSw; (try dsimp only at hSw); go_simp; (try with_reducible rfl))
            (try simp only [Act.put, List.setIfInBounds_toArray, List.set_cons_zero, List.set_cons_succ, List.getElem_toArray, List.getElem_cons_succ, List.getElem_cons_zero])
            refine wpAnyH_done (by kernel_rfl) ?_ _
            obtain ⟨al3, cl3, rfl, row3, _⟩ := srow_of_owns bn_len O3
            have up3 : upR d0.heap.size al3 := fun b off e => by subst e; exact (O3.lt b rfl).1
            have kl3 := blk_below c3 kld; have kx3 := blk_below c3 kxd; have kg3 := blk_below c3 kgd; have HE3 := Lib.hid (HEd.out.below c3); have b3 := bt bd c3
            have n3 := kn kx3; have ng3 := kn kg3
            clear hHeld O3 c3 kld kxd kgd HEd bd rowd HCC
            go_wp2
            obtain ⟨Y, eY⟩ : ∃ v, v = (((((d3.setCell ⟨xb, 0, none⟩ (.slice aw2 3 cw2)).setCell ⟨xb, 1, none⟩ (.int .i64 r2.q)).setCell ⟨xb, 2, none⟩ (.slice ad2 3 cd2)).setCell ⟨xb, 3, none⟩ (.int .i64 r2.t)).setCell ⟨xb, 4, none⟩ (.slice ap2 3 cp2)) := ⟨_, rfl⟩
            have sY : SameB xb d3 Y := (by rw [eY]; (repeat (first | (with_reducible exact SameB.refl _ _) | (with_reducible refine SameB.set ?_ _ _))))
            have kY : blk Y xb = some #[.slice aw2 3 cw2, .int .i64 r2.q, .slice ad2 3 cd2, .int .i64 r2.t, .slice ap2 3 cp2] := (by rw [eY]; (apply blk_to; (focus (repeat (first | (with_reducible assumption) | (with_reducible apply blk_drew) | (with_reducible apply blk_set) | ((with_reducible apply blk_other'); (first | (focus (dsimp only; assumption)) | (focus (simp; done)) | (focus (dsimp only; omega)))) | ((with_reducible apply blk_alloc_new); (first | (with_reducible rfl) | (focus (simp; done)) | (focus (simp; omega)))) | (with_reducible apply blk_alloc) | ((with_reducible apply blk_below); (with_reducible assumption))))); kernel_rfl))
            have bY : Below w.heap.size w Y := (by have hx0 := hsl.out.1; rw [eY]; (repeat (first | (with_reducible assumption) | (with_reducible exact Below.refl _ _) | (with_reducible refine beld_drew ?_) | ((with_reducible refine bset' ?_ ?_); (first | (focus (dsimp only; assumption)) | (focus (simp; done)) | (focus (dsimp only; omega)))) | (with_reducible refine belt_alloc ?_) | ((with_reducible refine zeroed_below' ?_ ?_); (first | (focus (simp; done)) | (focus (dsimp only; omega)))) | (with_reducible refine bt ?_ (by assumption)))))
            have HY : Hid (LpP Y xb lb al3 cl3 (l.take n ++ l.drop (n + 1)) r2 (ps.set pn 0) us by' #[.slice aw2 3 cw2, .int .i64 r2.q, .slice ad2 3 cd2, .int .i64 r2.t, .slice ap2 3 cp2]) := Lib.hid ⟨HN.out, row3.sameB sY (up3.neA szd.2.1 _), up3.neS (fun b hb => by rcases hb with rfl | rfl | hb; exact szd.2.1; exact szd.1; exact hb.elim) _, kY, HE3.out.sameB sY or2_1, blk_same kl3 (Ne.symm hsl.out.2.2) sY⟩
            rw [← eY]
            clear eY n3 ng3 kx3 kg3 kl3 HE3 b3 sY kY row3
            (try simp only [← hun])
            clear hun
            go_roundw
            case rel => first | exact ⟨k + 1, l.take n ++ l.drop (n + 1), al3, cl3, r2, ps.set pn 0, _, by go_num, by omega, rfl, bY, HY⟩ | exact ⟨k + 1, by omega, by omega, l.take n ++ l.drop (n + 1), rfl, r2, ps.set pn 0, _, HY⟩
            case measure => simp [intOf] <;> omega
        · have tq : (hd == (n : Int)) = false := by simpa using hh
          have hnv : nv = pv + 1 := by rw [HST.out.nv_, if_neg hh]
          subst hnv
          clear hh
          go_upto_region 18 with fail
          obtain ⟨X, eX⟩ : ∃ v, v = V.setCell ⟨lb, pn, none⟩ (.int .i64 (pv + 1)) := ⟨_, rfl⟩
          obtain ⟨sX, klX, rowX, exX, kxX, kgX, bX, cX⟩ := KX.out X eX
          rw [← eX]
          clear KX eX cpv fpv cq0 ch0 cpr sX
          have HEX := Lib.hid exX
          clear exX
          go_upto_region 20 with fail
          clear cX
          have ncl : n ≤ cl := by have := rowX.1; omega
          have ncl2 : n + 1 ≤ cl := by have := rowX.1; omega
          have wn1 : IntKind.i64.wrap ((n : Int) + 1) = (n : Int) + 1 := IntWalk.i64_in _ (by omega)
          have n1l : (n : Int) + 1 ≤ (l.length : Int) := by omega
          have n10 : (0 : Int) ≤ (n : Int) + 1 := by omega
          have lcl : l.length ≤ cl := rowX.1
          by_cases hcl : cl = n + 1
          · subst hcl
            have hln : l.length = n + 1 := by omega
            have q1 : (n : Int) ≤ (n : Int) + 1 := by omega
            have q2 : (n : Int) ≤ ((n + 1 : Nat) : Int) := by omega
            have q3 : (l.length : Int) ≤ (n : Int) + 1 := by omega
            have q4 : (l.length : Int) ≤ ((n + 1 : Nat) : Int) := by omega
            have HLN := Lib.hid hln
            clear hln
            skip
            refine wp_region_held_drew (S := fun _ => True) (by kernel_rfl) trivial (fun hHeld => ?_)
            obtain ⟨d0, ed⟩ : ∃ v, v = X.drew := ⟨_, rfl⟩
            have qd : Below X.heap.size X d0 := (by rw [ed]; exact (Below.refl _ _).drew)
            have kld := blk_below qd klX; have kxd := blk_below qd kxX; have kgd := blk_below qd kgX; have rowd := rowX.below qd; have HEd := Lib.hid (HEX.out.below qd); have bd := bt bX qd
            rw [← ed]
            clear ed qd klX kxX kgX rowX HEX bX
            obtain ⟨b', o', eb, lpb, hcc⟩ := srow_cells rowd (by omega)
            cases eb
            have HCC := Lib.hid hcc
            clear hcc
            have szd : lb < d0.heap.size ∧ xb < d0.heap.size ∧ g < d0.heap.size := ⟨blk_lt kld, blk_lt kxd, blk_lt kgd⟩
            have swd := bd.size
            refine wpAnyH_take (i := 1) (oi := _) (v := ?_) rfl (by kernel_rfl) (by kernel_rfl) (by kernel_rfl) (fun _ _ _ h => h) (Or.inl ⟨by rfl, ?_⟩) (by assumption) ?_
            rotate_left
            focus (intro W hSw; (try dsimp only at hSw); go_simp; (try with_reducible rfl))
            (try simp only [Act.put, List.setIfInBounds_toArray, List.set_cons_zero, List.set_cons_succ, List.getElem_toArray, List.getElem_cons_succ, List.getElem_cons_zero])
            refine wpAnyH_take (i := 2) (oi := _) (v := ?_) rfl (by kernel_rfl) (by kernel_rfl) (by kernel_rfl) (fun _ _ _ h => h) (Or.inl ⟨by rfl, ?_⟩) (by assumption) ?_
            rotate_left
            focus (intro W hSw; (try dsimp only at hSw); go_simp; (try with_reducible rfl))
            (try simp only [Act.put, List.setIfInBounds_toArray, List.set_cons_zero, List.set_cons_succ, List.getElem_toArray, List.getElem_cons_succ, List.getElem_cons_zero])
            refine wpAnyH_take (i := 3) (oi := _) (v := ?_) rfl (by kernel_rfl) (by kernel_rfl) (by kernel_rfl) (fun _ _ _ h => h) (Or.inl ⟨by rfl, ?_⟩) (by assumption) ?_
            rotate_left
            focus (intro W hSw; (try dsimp only at hSw); go_simp; (try with_reducible rfl))
            (try simp only [Act.put, List.setIfInBounds_toArray, List.set_cons_zero, List.set_cons_succ, List.getElem_toArray, List.getElem_cons_succ, List.getElem_cons_zero])
            refine wpAnyH_take (i := 5) (oi := _) (v := ?_) rfl (by kernel_rfl) (by kernel_rfl) (by kernel_rfl) (fun _ _ _ h => h) (Or.inl ⟨by rfl, ?_⟩) (by assumption) ?_
            rotate_left
            focus (intro W hSw; (try dsimp only at hSw); go_simp; (try with_reducible rfl))
            (try simp only [Act.put, List.setIfInBounds_toArray, List.set_cons_zero, List.set_cons_succ, List.getElem_toArray, List.getElem_cons_succ, List.getElem_cons_zero])
            refine wpAnyH_take (i := 6) (oi := _) (v := ?_) rfl (by kernel_rfl) (by kernel_rfl) (by kernel_rfl) (fun _ _ _ h => h) (Or.inl ⟨by rfl, ?_⟩) (by assumption) ?_
            rotate_left
            focus (intro W hSw; (try dsimp only at hSw); go_simp; (try with_reducible rfl))
            (try simp only [Act.put, List.setIfInBounds_toArray, List.set_cons_zero, List.set_cons_succ, List.getElem_toArray, List.getElem_cons_succ, List.getElem_cons_zero])
            refine wpAnyH_take (i := 7) (oi := _) (v := ?_) rfl (by kernel_rfl) (by kernel_rfl) (by kernel_rfl) (fun _ _ _ h => h) (Or.inl ⟨by rfl, ?_⟩) (by assumption) ?_
            rotate_left
            focus (intro W hSw; (try dsimp only at hSw); go_simp; (try with_reducible rfl))
            (try simp only [Act.put, List.setIfInBounds_toArray, List.set_cons_zero, List.set_cons_succ, List.getElem_toArray, List.getElem_cons_succ, List.getElem_cons_zero])
            refine wpAnyH_take (i := 8) (oi := _) (v := ?_) rfl (by kernel_rfl) (by kernel_rfl) (by kernel_rfl) (fun _ _ _ h => h) (Or.inl ⟨by rfl, ?_⟩) (by assumption) ?_
            rotate_left
            focus (intro W hSw; (try dsimp only at hSw); go_simp; (try with_reducible rfl))
            (try simp only [Act.put, List.setIfInBounds_toArray, List.set_cons_zero, List.set_cons_succ, List.getElem_toArray, List.getElem_cons_succ, List.getElem_cons_zero])
            refine wpAnyH_ready (rs := [0]) (by kernel_rfl) (by simp) ?_
            refine AllReadyH.cons rfl (fun K hK => ?_) AllReadyH.nil
            go_simp
            obtain ⟨d1, e1⟩ : ∃ v, v = d0.alloc (.cells #[] 38) := ⟨_, rfl⟩
            have o1 : d1.ownsRow d0.heap.size 38 9 (.slice (some ⟨d0.heap.size, 0, none⟩) 0 0) 0 [] := (by rw [e1]; exact own_empty9 _ _)
            have c1 : Below d0.heap.size d0 d1 := (by rw [e1]; exact (Below.refl _ _).alloc (Nat.le_refl _) _)
            rw [← e1]
            clear e1
            refine hK.out _ _ trivial (fun _ => ?_)
            clear hK K
            (try simp only [Act.put, List.setIfInBounds_toArray, List.set_cons_zero, List.set_cons_succ, List.getElem_toArray, List.getElem_cons_succ, List.getElem_cons_zero])
            refine wpAnyH_ready (rs := [4]) (by kernel_rfl) (by simp) ?_
            refine AllReadyH.cons rfl (fun K hK => ?_) AllReadyH.nil
            refine wp_append_own _ (.tmp 112) (.tmp 115) 23 rfl d0.heap.size 38 i0 (.agg #[.int .i64 0, .int .u64 0, .int .i64 0, .int .i64 0, .int .i64 0, .int .i64 0, .int .i64 0, .int .i64 0, .string ⟨#[]⟩]) 9 80 Tryd.underlying23 Hi.out Hz0.out Hz1.out Hz2.out rfl (by decide) (.slice (some ⟨d0.heap.size, 0, none⟩) 0 0) 0 [] rfl o1 ⟨pb, po, none⟩ n (n + 1) (rowC bn (l.take n)) rfl (by rw [rowC_length bn_len, List.length_take, Nat.min_eq_left (by omega)]) (fun j' u hj' => (by rw [Addr.add_mid, c1.cell (p := ⟨pb, po + j', none⟩) lpb]; exact HCC.out j' u (rowB_take hj'))) (rowC_one_cell _) (by unfold maxLen; omega) (by omega) c1.size ?_
            intro v2 d2 ho2 hg2 _
            have c2 : Below d0.heap.size d0 d2 := c1.grown hg2 c1.size (fun k e => (o1.lt k e).1)
            have O2 : d2.ownsRow d0.heap.size 38 9 v2 n (rowC bn (l.take n)) := (by have h9 := ho2; rw [Nat.zero_add, List.nil_append] at h9; exact h9)
            clear ho2 hg2 o1 c1
            refine hK.out _ _ trivial (fun _ => ?_)
            clear hK K
            (try simp only [Act.put, List.setIfInBounds_toArray, List.set_cons_zero, List.set_cons_succ, List.getElem_toArray, List.getElem_cons_succ, List.getElem_cons_zero])
            refine wpAnyH_ready (rs := [9]) (by kernel_rfl) (by simp) ?_
            refine AllReadyH.cons rfl (fun K hK => ?_) AllReadyH.nil
            refine wp_append_own _ (.tmp 116) (.tmp 120) 23 rfl d0.heap.size 38 i0 (.agg #[.int .i64 0, .int .u64 0, .int .i64 0, .int .i64 0, .int .i64 0, .int .i64 0, .int .i64 0, .int .i64 0, .string ⟨#[]⟩]) 9 80 Tryd.underlying23 Hi.out Hz0.out Hz1.out Hz2.out rfl (by decide) v2 n (rowC bn (l.take n)) rfl O2 ⟨pb, po, none⟩ 0 0 (rowC bn (l.drop (n + 1))) rfl (by rw [List.drop_of_length_le (by omega)]; rfl) (fun j' u hj' => by rw [List.drop_of_length_le (by omega)] at hj'; simp [rowC] at hj') (rowC_one_cell _) (by unfold maxLen; omega) (by omega) c2.size ?_
            intro v3 d3 ho3 hg3 _
            have c3 : Below d0.heap.size d0 d3 := c2.grown hg3 c2.size (fun k e => (O2.lt k e).1)
            have hll : (l.take n ++ l.drop (n + 1)).length = n + 0 := (by rw [List.length_append, List.length_take, List.length_drop]; omega)
            have O3 : d3.ownsRow d0.heap.size 38 9 v3 (l.take n ++ l.drop (n + 1)).length (rowC bn (l.take n ++ l.drop (n + 1))) := (by rw [hll, rowC_append]; exact ho3)
            clear ho3 hg3 O2 c2
            refine hK.out _ _ trivial (fun _ => ?_)
            clear hK K
            (try simp only [Act.put, List.setIfInBounds_toArray, List.set_cons_zero, List.set_cons_succ, List.getElem_toArray, List.getElem_cons_succ, List.getElem_cons_zero])
            refine wpAnyH_take (i := 10) (oi := _) (v := ?_) rfl (by kernel_rfl) (by kernel_rfl) (by kernel_rfl) (fun _ _ _ h => h) (Or.inl ⟨by rfl, ?_⟩) (by assumption) ?_
            rotate_left
            focus (intro W hSw; (try dsimp only at hSw); go_simp; (try with_reducible rfl))
            (try simp only [Act.put, List.setIfInBounds_toArray, List.set_cons_zero, List.set_cons_succ, List.getElem_toArray, List.getElem_cons_succ, List.getElem_cons_zero])
            refine wpAnyH_done (by kernel_rfl) ?_ _
            obtain ⟨al3, cl3, rfl, row3, _⟩ := srow_of_owns bn_len O3
            have up3 : upR d0.heap.size al3 := fun b off e => by subst e; exact (O3.lt b rfl).1
            have kl3 := blk_below c3 kld; have kx3 := blk_below c3 kxd; have kg3 := blk_below c3 kgd; have HE3 := Lib.hid (HEd.out.below c3); have b3 := bt bd c3
            have n3 := kn kx3; have ng3 := kn kg3
            clear hHeld O3 c3 kld kxd kgd HEd bd rowd HCC
            go_wp2
            obtain ⟨Y, eY⟩ : ∃ v, v = (((((d3.setCell ⟨xb, 0, none⟩ (.slice aw2 3 cw2)).setCell ⟨xb, 1, none⟩ (.int .i64 r2.q)).setCell ⟨xb, 2, none⟩ (.slice ad2 3 cd2)).setCell ⟨xb, 3, none⟩ (.int .i64 r2.t)).setCell ⟨xb, 4, none⟩ (.slice ap2 3 cp2)) := ⟨_, rfl⟩
            have sY : SameB xb d3 Y := (by rw [eY]; (repeat (first | (with_reducible exact SameB.refl _ _) | (with_reducible refine SameB.set ?_ _ _))))
            have kY : blk Y xb = some #[.slice aw2 3 cw2, .int .i64 r2.q, .slice ad2 3 cd2, .int .i64 r2.t, .slice ap2 3 cp2] := (by rw [eY]; (apply blk_to; (focus (repeat (first | (with_reducible assumption) | (with_reducible apply blk_drew) | (with_reducible apply blk_set) | ((with_reducible apply blk_other'); (first | (focus (dsimp only; assumption)) | (focus (simp; done)) | (focus (dsimp only; omega)))) | ((with_reducible apply blk_alloc_new); (first | (with_reducible rfl) | (focus (simp; done)) | (focus (simp; omega)))) | (with_reducible apply blk_alloc) | ((with_reducible apply blk_below); (with_reducible assumption))))); kernel_rfl))
            have bY : Below w.heap.size w Y := (by have hx0 := hsl.out.1; rw [eY]; (repeat (first | (with_reducible assumption) | (with_reducible exact Below.refl _ _) | (with_reducible refine beld_drew ?_) | ((with_reducible refine bset' ?_ ?_); (first | (focus (dsimp only; assumption)) | (focus (simp; done)) | (focus (dsimp only; omega)))) | (with_reducible refine belt_alloc ?_) | ((with_reducible refine zeroed_below' ?_ ?_); (first | (focus (simp; done)) | (focus (dsimp only; omega)))) | (with_reducible refine bt ?_ (by assumption)))))
            have HY : Hid (LpP Y xb lb al3 cl3 (l.take n ++ l.drop (n + 1)) r2 (ps.set pn (pv + 1)) us by' #[.slice aw2 3 cw2, .int .i64 r2.q, .slice ad2 3 cd2, .int .i64 r2.t, .slice ap2 3 cp2]) := Lib.hid ⟨HN.out, row3.sameB sY (up3.neA szd.2.1 _), up3.neS (fun b hb => by rcases hb with rfl | rfl | hb; exact szd.2.1; exact szd.1; exact hb.elim) _, kY, HE3.out.sameB sY or2_1, blk_same kl3 (Ne.symm hsl.out.2.2) sY⟩
            rw [← eY]
            clear eY n3 ng3 kx3 kg3 kl3 HE3 b3 sY kY row3
            (try simp only [← hun])
            clear hun
            go_roundw
            case rel => first | exact ⟨k + 1, l.take n ++ l.drop (n + 1), al3, cl3, r2, ps.set pn (pv + 1), _, by go_num, by omega, rfl, bY, HY⟩ | exact ⟨k + 1, by omega, by omega, l.take n ++ l.drop (n + 1), rfl, r2, ps.set pn (pv + 1), _, HY⟩
            case measure => simp [intOf] <;> omega
          · have q2 : (n : Int) ≤ (cl : Int) := by omega
            have q4 : (l.length : Int) ≤ (cl : Int) := by omega
            refine wp_region_held_drew (S := fun _ => True) (by kernel_rfl) trivial (fun hHeld => ?_)
            obtain ⟨d0, ed⟩ : ∃ v, v = X.drew := ⟨_, rfl⟩
            have qd : Below X.heap.size X d0 := (by rw [ed]; exact (Below.refl _ _).drew)
            have kld := blk_below qd klX; have kxd := blk_below qd kxX; have kgd := blk_below qd kgX; have rowd := rowX.below qd; have HEd := Lib.hid (HEX.out.below qd); have bd := bt bX qd
            rw [← ed]
            clear ed qd klX kxX kgX rowX HEX bX
            obtain ⟨b', o', eb, lpb, hcc⟩ := srow_cells rowd (by omega)
            cases eb
            have HCC := Lib.hid hcc
            clear hcc
            have szd : lb < d0.heap.size ∧ xb < d0.heap.size ∧ g < d0.heap.size := ⟨blk_lt kld, blk_lt kxd, blk_lt kgd⟩
            have swd := bd.size
            refine wpAnyH_take (i := 1) (oi := _) (v := ?_) rfl (by kernel_rfl) (by kernel_rfl) (by kernel_rfl) (fun _ _ _ h => h) (Or.inl ⟨by rfl, ?_⟩) (by assumption) ?_
            rotate_left
            focus (intro W hSw; (try dsimp only at hSw); go_simp; (try with_reducible rfl))
            (try simp only [Act.put, List.setIfInBounds_toArray, List.set_cons_zero, List.set_cons_succ, List.getElem_toArray, List.getElem_cons_succ, List.getElem_cons_zero])
            refine wpAnyH_take (i := 2) (oi := _) (v := ?_) rfl (by kernel_rfl) (by kernel_rfl) (by kernel_rfl) (fun _ _ _ h => h) (Or.inl ⟨by rfl, ?_⟩) (by assumption) ?_
            rotate_left
            focus (intro W hSw; (try dsimp only at hSw); go_simp; (try with_reducible rfl))
            (try simp only [Act.put, List.setIfInBounds_toArray, List.set_cons_zero, List.set_cons_succ, List.getElem_toArray, List.getElem_cons_succ, List.getElem_cons_zero])
            refine wpAnyH_take (i := 3) (oi := _) (v := ?_) rfl (by kernel_rfl) (by kernel_rfl) (by kernel_rfl) (fun _ _ _ h => h) (Or.inl ⟨by rfl, ?_⟩) (by assumption) ?_
            rotate_left
            focus (intro W hSw; (try dsimp only at hSw); go_simp; (try with_reducible rfl))
            (try simp only [Act.put, List.setIfInBounds_toArray, List.set_cons_zero, List.set_cons_succ, List.getElem_toArray, List.getElem_cons_succ, List.getElem_cons_zero])
            refine wpAnyH_take (i := 5) (oi := _) (v := ?_) rfl (by kernel_rfl) (by kernel_rfl) (by kernel_rfl) (fun _ _ _ h => h) (Or.inl ⟨by rfl, ?_⟩) (by assumption) ?_
            rotate_left
            focus (intro W hSw; (try dsimp only at hSw); go_simp; (try with_reducible rfl))
            (try simp only [Act.put, List.setIfInBounds_toArray, List.set_cons_zero, List.set_cons_succ, List.getElem_toArray, List.getElem_cons_succ, List.getElem_cons_zero])
            refine wpAnyH_take (i := 6) (oi := _) (v := ?_) rfl (by kernel_rfl) (by kernel_rfl) (by kernel_rfl) (fun _ _ _ h => h) (Or.inl ⟨by rfl, ?_⟩) (by assumption) ?_
            rotate_left
            focus (intro W hSw; (try dsimp only at hSw); go_simp; (try with_reducible rfl))
            (try simp only [Act.put, List.setIfInBounds_toArray, List.set_cons_zero, List.set_cons_succ, List.getElem_toArray, List.getElem_cons_succ, List.getElem_cons_zero])
            refine wpAnyH_take (i := 7) (oi := _) (v := ?_) rfl (by kernel_rfl) (by kernel_rfl) (by kernel_rfl) (fun _ _ _ h => h) (Or.inl ⟨by rfl, ?_⟩) (by assumption) ?_
            rotate_left
            focus (intro W hSw; (try dsimp only at hSw); go_simp; (try with_reducible rfl))
            (try simp only [Act.put, List.setIfInBounds_toArray, List.set_cons_zero, List.set_cons_succ, List.getElem_toArray, List.getElem_cons_succ, List.getElem_cons_zero])
            refine wpAnyH_take (i := 8) (oi := _) (v := ?_) rfl (by kernel_rfl) (by kernel_rfl) (by kernel_rfl) (fun _ _ _ h => h) (Or.inl ⟨by rfl, ?_⟩) (by assumption) ?_
            rotate_left
            focus (intro W hSw; (try dsimp only at hSw); go_simp; (try with_reducible rfl))
            (try simp only [Act.put, List.setIfInBounds_toArray, List.set_cons_zero, List.set_cons_succ, List.getElem_toArray, List.getElem_cons_succ, List.getElem_cons_zero])
            refine wpAnyH_ready (rs := [0]) (by kernel_rfl) (by simp) ?_
            refine AllReadyH.cons rfl (fun K hK => ?_) AllReadyH.nil
            go_simp
            obtain ⟨d1, e1⟩ : ∃ v, v = d0.alloc (.cells #[] 38) := ⟨_, rfl⟩
            have o1 : d1.ownsRow d0.heap.size 38 9 (.slice (some ⟨d0.heap.size, 0, none⟩) 0 0) 0 [] := (by rw [e1]; exact own_empty9 _ _)
            have c1 : Below d0.heap.size d0 d1 := (by rw [e1]; exact (Below.refl _ _).alloc (Nat.le_refl _) _)
            rw [← e1]
            clear e1
            refine hK.out _ _ trivial (fun _ => ?_)
            clear hK K
            (try simp only [Act.put, List.setIfInBounds_toArray, List.set_cons_zero, List.set_cons_succ, List.getElem_toArray, List.getElem_cons_succ, List.getElem_cons_zero])
            refine wpAnyH_ready (rs := [4]) (by kernel_rfl) (by simp) ?_
            refine AllReadyH.cons rfl (fun K hK => ?_) AllReadyH.nil
            refine wp_append_own _ (.tmp 112) (.tmp 115) 23 rfl d0.heap.size 38 i0 (.agg #[.int .i64 0, .int .u64 0, .int .i64 0, .int .i64 0, .int .i64 0, .int .i64 0, .int .i64 0, .int .i64 0, .string ⟨#[]⟩]) 9 80 Tryd.underlying23 Hi.out Hz0.out Hz1.out Hz2.out rfl (by decide) (.slice (some ⟨d0.heap.size, 0, none⟩) 0 0) 0 [] rfl o1 ⟨pb, po, none⟩ n cl (rowC bn (l.take n)) rfl (by rw [rowC_length bn_len, List.length_take, Nat.min_eq_left (by omega)]) (fun j' u hj' => (by rw [Addr.add_mid, c1.cell (p := ⟨pb, po + j', none⟩) lpb]; exact HCC.out j' u (rowB_take hj'))) (rowC_one_cell _) (by unfold maxLen; omega) (by omega) c1.size ?_
            intro v2 d2 ho2 hg2 _
            have c2 : Below d0.heap.size d0 d2 := c1.grown hg2 c1.size (fun k e => (o1.lt k e).1)
            have O2 : d2.ownsRow d0.heap.size 38 9 v2 n (rowC bn (l.take n)) := (by have h9 := ho2; rw [Nat.zero_add, List.nil_append] at h9; exact h9)
            clear ho2 hg2 o1 c1
            refine hK.out _ _ trivial (fun _ => ?_)
            clear hK K
            (try simp only [Act.put, List.setIfInBounds_toArray, List.set_cons_zero, List.set_cons_succ, List.getElem_toArray, List.getElem_cons_succ, List.getElem_cons_zero])
            refine wpAnyH_ready (rs := [9]) (by kernel_rfl) (by simp) ?_
            refine AllReadyH.cons rfl (fun K hK => ?_) AllReadyH.nil
            refine wp_append_own _ (.tmp 116) (.tmp 120) 23 rfl d0.heap.size 38 i0 (.agg #[.int .i64 0, .int .u64 0, .int .i64 0, .int .i64 0, .int .i64 0, .int .i64 0, .int .i64 0, .int .i64 0, .string ⟨#[]⟩]) 9 80 Tryd.underlying23 Hi.out Hz0.out Hz1.out Hz2.out rfl (by decide) v2 n (rowC bn (l.take n)) rfl O2 ⟨pb, po + (n + 1) * 9, none⟩ (l.length - (n + 1)) (cl - (n + 1)) (rowC bn (l.drop (n + 1))) rfl (by rw [rowC_length bn_len, List.length_drop]) (fun j' u hj' => (by rw [Addr.add_mid, c2.cell (p := ⟨pb, po + (n + 1) * 9 + j', none⟩) lpb, Nat.add_assoc]; exact HCC.out _ u (rowB_drop (by omega) hj'))) (rowC_one_cell _) (by unfold maxLen; omega) (by omega) c2.size ?_
            intro v3 d3 ho3 hg3 _
            have c3 : Below d0.heap.size d0 d3 := c2.grown hg3 c2.size (fun k e => (O2.lt k e).1)
            have hll : (l.take n ++ l.drop (n + 1)).length = n + (l.length - (n + 1)) := (by rw [List.length_append, List.length_take, List.length_drop]; omega)
            have O3 : d3.ownsRow d0.heap.size 38 9 v3 (l.take n ++ l.drop (n + 1)).length (rowC bn (l.take n ++ l.drop (n + 1))) := (by rw [hll, rowC_append]; exact ho3)
            clear ho3 hg3 O2 c2
            refine hK.out _ _ trivial (fun _ => ?_)
            clear hK K
            (try simp only [Act.put, List.setIfInBounds_toArray, List.set_cons_zero, List.set_cons_succ, List.getElem_toArray, List.getElem_cons_succ, List.getElem_cons_zero])
            refine wpAnyH_take (i := 10) (oi := _) (v := ?_) rfl (by kernel_rfl) (by kernel_rfl) (by kernel_rfl) (fun _ _ _ h => h) (Or.inl ⟨by rfl, ?_⟩) (by assumption) ?_
            rotate_left
            focus (intro W hSw; (try dsimp only at hSw); go_simp; (try with_reducible rfl))
            (try simp only [Act.put, List.setIfInBounds_toArray, List.set_cons_zero, List.set_cons_succ, List.getElem_toArray, List.getElem_cons_succ, List.getElem_cons_zero])
            refine wpAnyH_done (by kernel_rfl) ?_ _
            obtain ⟨al3, cl3, rfl, row3, _⟩ := srow_of_owns bn_len O3
            have up3 : upR d0.heap.size al3 := fun b off e => by subst e; exact (O3.lt b rfl).1
            have kl3 := blk_below c3 kld; have kx3 := blk_below c3 kxd; have kg3 := blk_below c3 kgd; have HE3 := Lib.hid (HEd.out.below c3); have b3 := bt bd c3
            have n3 := kn kx3; have ng3 := kn kg3
            clear hHeld O3 c3 kld kxd kgd HEd bd rowd HCC
            go_wp2
            obtain ⟨Y, eY⟩ : ∃ v, v = (((((d3.setCell ⟨xb, 0, none⟩ (.slice aw2 3 cw2)).setCell ⟨xb, 1, none⟩ (.int .i64 r2.q)).setCell ⟨xb, 2, none⟩ (.slice ad2 3 cd2)).setCell ⟨xb, 3, none⟩ (.int .i64 r2.t)).setCell ⟨xb, 4, none⟩ (.slice ap2 3 cp2)) := ⟨_, rfl⟩
            have sY : SameB xb d3 Y := (by rw [eY]; (repeat (first | (with_reducible exact SameB.refl _ _) | (with_reducible refine SameB.set ?_ _ _))))
            have kY : blk Y xb = some #[.slice aw2 3 cw2, .int .i64 r2.q, .slice ad2 3 cd2, .int .i64 r2.t, .slice ap2 3 cp2] := (by rw [eY]; (apply blk_to; (focus (repeat (first | (with_reducible assumption) | (with_reducible apply blk_drew) | (with_reducible apply blk_set) | ((with_reducible apply blk_other'); (first | (focus (dsimp only; assumption)) | (focus (simp; done)) | (focus (dsimp only; omega)))) | ((with_reducible apply blk_alloc_new); (first | (with_reducible rfl) | (focus (simp; done)) | (focus (simp; omega)))) | (with_reducible apply blk_alloc) | ((with_reducible apply blk_below); (with_reducible assumption))))); kernel_rfl))
            have bY : Below w.heap.size w Y := (by have hx0 := hsl.out.1; rw [eY]; (repeat (first | (with_reducible assumption) | (with_reducible exact Below.refl _ _) | (with_reducible refine beld_drew ?_) | ((with_reducible refine bset' ?_ ?_); (first | (focus (dsimp only; assumption)) | (focus (simp; done)) | (focus (dsimp only; omega)))) | (with_reducible refine belt_alloc ?_) | ((with_reducible refine zeroed_below' ?_ ?_); (first | (focus (simp; done)) | (focus (dsimp only; omega)))) | (with_reducible refine bt ?_ (by assumption)))))
            have HY : Hid (LpP Y xb lb al3 cl3 (l.take n ++ l.drop (n + 1)) r2 (ps.set pn (pv + 1)) us by' #[.slice aw2 3 cw2, .int .i64 r2.q, .slice ad2 3 cd2, .int .i64 r2.t, .slice ap2 3 cp2]) := Lib.hid ⟨HN.out, row3.sameB sY (up3.neA szd.2.1 _), up3.neS (fun b hb => by rcases hb with rfl | rfl | hb; exact szd.2.1; exact szd.1; exact hb.elim) _, kY, HE3.out.sameB sY or2_1, blk_same kl3 (Ne.symm hsl.out.2.2) sY⟩
            rw [← eY]
            clear eY n3 ng3 kx3 kg3 kl3 HE3 b3 sY kY row3
            (try simp only [← hun])
            clear hun
            go_roundw
            case rel => first | exact ⟨k + 1, l.take n ++ l.drop (n + 1), al3, cl3, r2, ps.set pn (pv + 1), _, by go_num, by omega, rfl, bY, HY⟩ | exact ⟨k + 1, by omega, by omega, l.take n ++ l.drop (n + 1), rfl, r2, ps.set pn (pv + 1), _, HY⟩
            case measure => simp [intOf] <;> omega
      · have h8 := pas_err hG hz
        have GC2 : Hid (∀ W, Below wr.heap.size wr W → Calls Tryd.prog 30 #[.agg #[.slice aw 3 cw, .int .i64 r.q, .slice ad 3 cd, .int .i64 r.t, .slice ap 3 cp], .slice al l.length cl, .int .u64 us, .int .i64 1000, .int .i64 by'] W fun e w' => e = .returned (.tuple #[.int .i64 0, .agg #[.slice none 0 0, .int .i64 0, .slice none 0 0, .int .i64 0, .slice none 0 0], .int .i64 8]) ∧ Below W.heap.size W w') := Lib.hid (fun W hB => by
          refine (GC.out W hB).mono ?_
          rintro e w' ⟨h1, ⟨_, h2⟩ | ⟨h2, _⟩⟩
          · rw [h8] at h2; exact ⟨h2, h1⟩
          · exact absurd h2 hz)
        clear GC hG hT hSx hz h8
        have t3 : ((8 : Int) == 8) = true := rfl
        have t4 : ((0 : Int) == 0) = true := rfl
        go_wp2_with (first
          | (go_at_call 21; (with_reducible refine (GQ.out).mono ?_); rintro e u1 ⟨ob, rfl, lob, hQ, h1⟩; (have k1 := blk_below h1 HL.out.kx); (have n1 := kn k1); clear nr)
          | (go_at_call 30; (with_reducible refine (GC2.out _ h1).mono ?_); rintro e u2 ⟨rfl, h2⟩; (have h12 := bt hB (bt h1 h2)); (have h13 := h12.alloc h12.size (.cells #[.slice none 0 0, .int .i64 0, .slice none 0 0, .int .i64 0, .slice none 0 0] 28)); clear n1 k1 hQ h1 h2)
          | (go_at_call 14; (with_reducible refine (awake_any _ (HH.out.on h13)).mono ?_); rintro e W9 ⟨rfl, h9⟩))
        go_ret
        exact ⟨rfl, bt h13 h9⟩
    · have t2 : decide ((k : Int) < 12) = false := decide_eq_false (by omega)
      go_wp2_with (go_at_call 14; (with_reducible refine (awake_any _ (HH.out.on hB)).mono ?_); rintro e W9 ⟨rfl, h9⟩)
      go_ret
      exact ⟨rfl, bt hB h9⟩
theorem egressPassed_row (a : Option Addr) (len cap : Nat) (zs : List Int) (z1 z2 : Int) (w : World) (h : IsRow .i64 w a len cap zs) (hT : Lib.TabIs Tryd.prog w headsNm .u8 headsTab) :
    Calls Tryd.prog 8 #[.slice a len cap, .int .i64 z1, .int .i64 z2] w fun e w' => e = .returned (.bool true) ∧ Below w.heap.size w w' := by
  obtain ⟨e, hr⟩ := row_of h
  have := egressPassed_walk a cap (zs.take len) z1 z2 w (htab_of hT) hr
  rw [← e] at this
  exact this
end Go.Proofs.YtkaehoihpgelnaaDoor
