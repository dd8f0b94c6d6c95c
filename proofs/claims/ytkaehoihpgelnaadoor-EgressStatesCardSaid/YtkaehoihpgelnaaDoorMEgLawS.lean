/- Parts of a proof, printed by a program of mine out of my texts: EgLawS. -/
import Derived.Test.YtkaehoihpgelnaaDoorME
import Derived.Test.YtkaehoihpgelnaaDoorMI
import Derived.Test.YtkaehoihpgelnaaDoorMK
import Derived.Test.YtkaehoihpgelnaaDoorMP
import Derived.Test.YtkaehoihpgelnaaDoorMT
import Derived.Test.YtkaehoihpgelnaaDoorMU
import Derived.Test.YtkaehoihpgelnaaDoorMV
import Derived.Test.YtkaehoihpgelnaaDoorMY
import Derived.Test.YtkaehoihpgelnaaDoorMX9
set_option linter.unusedSimpArgs false
set_option linter.unusedVariables false
namespace Go.Proofs.YtkaehoihpgelnaaDoor
open Go.RowKit
def newR (x0 x1 x2 : Int) : Rr := if newD [x0, x1, x2] 1200 = 0 then { w := [x0, x1, x2], d := [0, 0, x2 * 1200], q := 1200, t := 2 } else { w := [], d := [], q := 0, t := 0 }
def newP (x0 x1 x2 : Int) : List Int := if newD [x0, x1, x2] 1200 = 0 then [0, 0, 0] else []
theorem newR_len (x0 x1 x2 : Int) : (newR x0 x1 x2).w.length ≤ 3 ∧ (newR x0 x1 x2).d.length ≤ 3 ∧ (newP x0 x1 x2).length ≤ 3 := by
  unfold newR newP
  split <;> simp
def RetF (x0 x1 x2 : Int) (w : World) (e : Ending) (w' : World) : Prop :=
  ∃ a1 c1 a2 c2 a3 c3, e = .returned (.tuple #[.agg #[.slice a1 (newR x0 x1 x2).w.length c1, .int .i64 (newR x0 x1 x2).q, .slice a2 (newR x0 x1 x2).d.length c2, .int .i64 (newR x0 x1 x2).t, .slice a3 (newP x0 x1 x2).length c3], .int .i64 (newD [x0, x1, x2] 1200)]) ∧ SRow ic 1 w' a1 c1 (newR x0 x1 x2).w ∧ SRow ic 1 w' a2 c2 (newR x0 x1 x2).d ∧ SRow ic 1 w' a3 c3 (newP x0 x1 x2) ∧ Below w.heap.size w w'
theorem RetN.form {x0 x1 x2 : Int} {w w' : World} {e : Ending} (h : RetN x0 x1 x2 w e w') : RetF x0 x1 x2 w e w' := by
  obtain ⟨hB, ⟨h1, h2⟩ | ⟨h1, a1, c1, a2, c2, a3, c3, h2, h3, h4, h5, _⟩⟩ := h
  · refine ⟨none, 0, none, 0, none, 0, ?_, ?_, ?_, ?_, hB⟩
    · unfold newR newP; rw [if_neg h1, if_neg h1]; exact h2
    · unfold newR; rw [if_neg h1]; exact srow_nil w'
    · unfold newR; rw [if_neg h1]; exact srow_nil w'
    · unfold newP; rw [if_neg h1]; exact srow_nil w'
  · refine ⟨a1, c1, a2, c2, a3, c3, ?_, ?_, ?_, ?_, hB⟩
    · unfold newR newP; rw [if_pos h1, if_pos h1, h1]; exact h2
    · unfold newR; rw [if_pos h1]; exact h3
    · unfold newR; rw [if_pos h1]; exact h4
    · unfold newP; rw [if_pos h1]; exact h5
theorem xnewF_any (x0 x1 x2 : Int) (w : World) : Calls Tryd.prog 19 #[.agg #[.int .i64 x0, .int .i64 x1, .int .i64 x2]] w fun e w' => RetF x0 x1 x2 w e w' := by
  by_cases h : newD [x0, x1, x2] 1200 = 0
  · exact (xnew_ok x0 x1 x2 w h).mono fun e w' h => h.form
  · exact (xnew_bad x0 x1 x2 w h).mono fun e w' h => h.form
theorem rxnewF_any (x0 x1 x2 : Int) (w : World) : Calls Tryd.prog 20 #[.agg #[.int .i64 x0, .int .i64 x1, .int .i64 x2]] w fun e w' => RetF x0 x1 x2 w e w' :=
  (rxnew_any x0 x1 x2 w).mono fun e w' h => h.form
theorem queS_le (l : List Bn) (p : Int) : (queS l p).length ≤ l.length := by
  unfold queS; rw [isort_length]; exact idxQ_len l p _
theorem QAt.atP {W : World} {ob : Nat} {l : List Bn} (h : QAt W ob (queS l 0) (queS l 1) (queS l 2)) (j : Nat) (hj : j < 3) : ∃ a c, ob < W.heap.size ∧ W.cell? ⟨ob, j, none⟩ = some (.slice a (queS l (j : Int)).length c) ∧ SRow ic 1 W a c (queS l (j : Int)) := by
  obtain ⟨a0, c0, a1, c1, a2, c2, h1, h2, h3, h4, h5⟩ := h
  match j, hj with
  | 0, _ => exact ⟨a0, c0, h1, h2 0 _ rfl, h3⟩
  | 1, _ => exact ⟨a1, c1, h1, h2 1 _ rfl, h4⟩
  | 2, _ => exact ⟨a2, c2, h1, h2 2 _ rfl, h5⟩
set_option maxRecDepth 100000 in
set_option maxHeartbeats 12800000 in
theorem egressStates_walk (aw : Option Addr) (cw : Nat) (ad : Option Addr) (cd : Nat) (ap : Option Addr) (cp : Nat) (ws ds ps : List Int) (q t x0 x1 x2 : Int) (a : Option Addr) (cap : Nat) (l : List Bn) (w : World) (hT : HTab w) (hw : SRow ic 1 w aw cw ws) (hd : SRow ic 1 w ad cd ds) (hp : SRow ic 1 w ap cp ps) (hrow : SRow bn 9 w a cap l) :
    Calls Tryd.prog 5 #[.agg #[.slice aw ws.length cw, .int .i64 q, .slice ad ds.length cd, .int .i64 t, .slice ap ps.length cp], .agg #[.int .i64 x0, .int .i64 x1, .int .i64 x2], .slice a l.length cap] w fun e w' => e = .returned (.bool true) ∧ Below w.heap.size w w' := by
  have HT := Lib.hid hT; have HW := Lib.hid hw; have HD := Lib.hid hd; have HP := Lib.hid hp; have HR := Lib.hid hrow
  clear hT hw hd hp hrow
  go_enter Tryd.func5, Tryd.ntmps5
  obtain ⟨V0, e0⟩ : ∃ v, v = (w.alloc (.cells #[.slice aw ws.length cw, .int .i64 q, .slice ad ds.length cd, .int .i64 t, .slice ap ps.length cp] 28)).alloc (.cells #[.int .i64 x0, .int .i64 x1, .int .i64 x2] 45) := ⟨_, rfl⟩
  have bV0 : Below w.heap.size w V0 := (by rw [e0]; exact ((Below.refl _ _).alloc (Nat.le_refl _) _).alloc (by simp) _)
  have kx0 : blk V0 w.heap.size = some #[.slice aw ws.length cw, .int .i64 q, .slice ad ds.length cd, .int .i64 t, .slice ap ps.length cp] := (by rw [e0]; exact blk_alloc (blk_alloc_new _ _ _ rfl) _)
  have kt0 : blk V0 (w.heap.size + 1) = some #[.int .i64 x0, .int .i64 x1, .int .i64 x2] := (by rw [e0]; exact blk_alloc_new _ _ _ (by simp))
  go_upto_region 1 with fail
  rw [← e0]
  clear e0
  have nx := kn kx0
  have HL := Lib.hid (light_any aw cw ad cd ap cp ws ds ps q t a cap l V0 (HR.out.below bV0))
  go_wp2_with fail
  (with_reducible refine (HL.out).mono ?_)
  rintro e u1 ⟨p, rfl, hP, B1⟩
  clear HL nx
  have bu1 := bt bV0 B1
  have kx1 := blk_below B1 kx0
  have kt1 := blk_below B1 kt0
  clear kx0 kt0 bV0 B1
  cases p
  · clear hP kx1 kt1
    go_wp2_with (go_at_call 14; (with_reducible refine (awake_any _ (HT.out.on bu1)).mono ?_); rintro e u2 ⟨rfl, h2⟩)
    go_ret
    exact ⟨rfl, bt bu1 h2⟩
  obtain ⟨n1, n2, n3, n4, n5⟩ := hP rfl
  clear hP
  have HO := Lib.hid (own_any a cap l (by omega) u1 (HR.out.below bu1))
  go_wp2_with fail
  (with_reducible refine (HO.out).mono ?_)
  rintro e u2 ⟨vo, rfl, ho, B2⟩
  obtain ⟨ao, co, rfl, hro, hz9⟩ := srow_of_owns bn_len ho
  clear hz9
  have RO := Lib.hid hro
  clear ho hro HO
  have bu2 := bt bu1 B2
  have kx2 := blk_below B2 kx1
  have kt2 := blk_below B2 kt1
  clear kx1 kt1 B2 bu1
  obtain ⟨r, hr⟩ : ∃ r, newR x0 x1 x2 = r := ⟨_, rfl⟩
  obtain ⟨pr, hpr⟩ : ∃ r, newP x0 x1 x2 = r := ⟨_, rfl⟩
  obtain ⟨cn, hcn⟩ : ∃ c, newD [x0, x1, x2] 1200 = c := ⟨_, rfl⟩
  have HLN : Hid (r.w.length ≤ 3 ∧ r.d.length ≤ 3 ∧ pr.length ≤ 3) := Lib.hid (by rw [← hr, ← hpr]; exact newR_len x0 x1 x2)
  have GN := Lib.hid (fun W => (xnewF_any x0 x1 x2 W))
  have GM := Lib.hid (fun W => (rxnewF_any x0 x1 x2 W))
  unfold RetF at GN GM
  rw [hr, hpr, hcn] at GN GM
  clear hr hpr hcn
  have nt2 := kn kt2
  go_upto_region 5 with (go_at_call 19; (with_reducible refine (GN.out _).mono ?_); rintro e u3 ⟨xa, xb, xc, xd, xe, xf, rfl, X1, X2, X3, B3⟩)
  have SX3 := Lib.hid (And.intro X1 (And.intro X2 X3))
  clear X1 X2 X3 nt2
  obtain ⟨g8, e8⟩ : ∃ v, v = u3.heap.size := ⟨_, rfl⟩
  obtain ⟨V3, eV⟩ : ∃ v, v = u3.alloc (.cells #[.slice xa r.w.length xb, .int .i64 r.q, .slice xc r.d.length xd, .int .i64 r.t, .slice xe pr.length xf] 28) := ⟨_, rfl⟩
  have k83 : blk V3 g8 = some #[.slice xa r.w.length xb, .int .i64 r.q, .slice xc r.d.length xd, .int .i64 r.t, .slice xe pr.length xf] := (by rw [eV]; exact blk_alloc_new _ _ _ e8)
  have d3 : Below u3.heap.size u3 V3 := (by rw [eV]; exact (Below.refl _ _).alloc (Nat.le_refl _) _)
  have B23 := bt B3 d3
  have SXV := Lib.hid (And.intro (SX3.out.1.below d3) (And.intro (SX3.out.2.1.below d3) (SX3.out.2.2.below d3)))
  have bV3 := bt bu2 B23
  have kx3 := blk_below B23 kx2
  have kt3 := blk_below B23 kt2
  rw [← eV, ← e8]
  clear eV e8 SX3 d3 B3 kx2 kt2
  have nt3 := kn kt3
  go_upto_region 6 with (go_at_call 20; (with_reducible refine (GM.out _).mono ?_); rintro e u4a ⟨ya, yb, yc, yd, ye, yf, rfl, Y1, Y2, Y3, B4⟩)
  have SY4 := Lib.hid (And.intro Y1 (And.intro Y2 Y3))
  clear Y1 Y2 Y3 nt3 GN GM
  obtain ⟨g9, e9⟩ : ∃ v, v = u4a.heap.size := ⟨_, rfl⟩
  obtain ⟨u4, eV⟩ : ∃ v, v = u4a.alloc (.cells #[.slice ya r.w.length yb, .int .i64 r.q, .slice yc r.d.length yd, .int .i64 r.t, .slice ye pr.length yf] 28) := ⟨_, rfl⟩
  have k9 : blk u4 g9 = some #[.slice ya r.w.length yb, .int .i64 r.q, .slice yc r.d.length yd, .int .i64 r.t, .slice ye pr.length yf] := (by rw [eV]; exact blk_alloc_new _ _ _ e9)
  have d4 : Below u4a.heap.size u4a u4 := (by rw [eV]; exact (Below.refl _ _).alloc (Nat.le_refl _) _)
  have B34 := bt B4 d4
  have SX := Lib.hid (And.intro (SXV.out.1.below B34) (And.intro (SXV.out.2.1.below B34) (SXV.out.2.2.below B34)))
  have SY := Lib.hid (And.intro (SY4.out.1.below d4) (And.intro (SY4.out.2.1.below d4) (SY4.out.2.2.below d4)))
  have bu4 := bt bV3 B34
  have m24 := bt B23 B34
  have kx := blk_below B34 kx3
  have k8 := blk_below B34 k83
  rw [← eV, ← e9]
  clear eV e9 SXV SY4 d4 B4 kx3 k83 kt3 B34 B23
  obtain ⟨xx, hxx⟩ : ∃ c, chkX ⟨ws, ds, q, t⟩ ps = c := ⟨_, rfl⟩
  have t0 : ((0 : Int) != 0) = false := rfl
  have tcn : (cn != cn) = false := by simp
  have txx : (xx != xx) = false := by simp
  have t33 : ((3 : Int) != 3) = false := rfl
  by_cases hl0 : lstE l = 0
  · have GQ := Lib.hid (queuesX_any n4 hl0 ao co u4 (RO.out.below m24))
    go_wp2_with fail
    (with_reducible refine (GQ.out).mono ?_)
    rintro e u5 ⟨ob, rfl, _, hq1, B5⟩
    have HQ := Lib.hid hq1.q
    clear hq1 GQ
    have GQ2 := Lib.hid (rqueuesX_ok n4 hl0 a cap u5 (HR.out.below (bt bu4 B5)))
    go_upto_region 8 with (go_at_call 22; (with_reducible refine (GQ2.out).mono ?_); rintro e u6 ⟨ob2, rfl, _, hq2, B6⟩; (have HQ2 := Lib.hid hq2.q); clear hq2)
    clear GQ2
    have m46 : Below u4.heap.size u4 u6 := bt B5 B6
    have m56 := m46
    have bu6 := bt bu4 m46
    have k8u6 := blk_below m46 k8
    have k9u6 := blk_below m46 k9
    have kxu6 := blk_below m46 kx
    have GSB := Lib.hid (fun W (hB : Below u6.heap.size u6 W) => (show Calls Tryd.prog 27 #[.slice ao l.length co, .slice a l.length cap] W fun e w' => e = .returned (.bool true) ∧ Below W.heap.size W w' from by
      have h9 := sameB_any ao a co cap l l (by omega) (by omega) W (((RO.out.below m24).below m46).below hB) (HR.out.below (bt bu6 hB))
      rw [(sameL_iff l l).2 rfl] at h9
      exact h9))
    clear k8 k9 kx
    have GSAME := Lib.hid (fun W (hB : Below u6.heap.size u6 W) => (show Calls Tryd.prog 16 #[.agg #[.slice xa r.w.length xb, .int .i64 r.q, .slice xc r.d.length xd, .int .i64 r.t, .slice xe pr.length xf], .agg #[.slice ya r.w.length yb, .int .i64 r.q, .slice yc r.d.length yd, .int .i64 r.t, .slice ye pr.length yf]] W fun e w' => e = .returned (.bool true) ∧ Below W.heap.size W w' from by
      have h9 := sameX_any #[.slice xa r.w.length xb, .int .i64 r.q, .slice xc r.d.length xd, .int .i64 r.t, .slice xe pr.length xf] #[.slice ya r.w.length yb, .int .i64 r.q, .slice yc r.d.length yd, .int .i64 r.t, .slice ye pr.length yf] r r pr pr W ⟨xa, xb, xc, xd, xe, xf, rfl, (SX.out.1.below m46).below hB, (SX.out.2.1.below m46).below hB, (SX.out.2.2.below m46).below hB⟩ ⟨ya, yb, yc, yd, ye, yf, rfl, (SY.out.1.below m56).below hB, (SY.out.2.1.below m56).below hB, (SY.out.2.2.below m56).below hB⟩ (by have := HLN.out; omega) (by have := HLN.out; omega) (by have := HLN.out; omega) (by have := HLN.out; omega) (by have := HLN.out; omega) (by have := HLN.out; omega)
      rw [eqX_self] at h9
      exact h9))
    have GOWN := Lib.hid (fun W (hB : Below u6.heap.size u6 W) => xown_any aw cw ad cd ap cp ws ds ps q t (by omega) (by omega) (by omega) W (HW.out.below (bt bu6 hB)) (HD.out.below (bt bu6 hB)) (HP.out.below (bt bu6 hB)))
    have GRC := Lib.hid (fun W (hB : Below u6.heap.size u6 W) => (show Calls Tryd.prog 25 #[.agg #[.slice aw ws.length cw, .int .i64 q, .slice ad ds.length cd, .int .i64 t, .slice ap ps.length cp]] W fun e w' => e = .returned (.int .i64 xx) ∧ Below W.heap.size W w' from by
      rw [← hxx]
      exact rxchk_any aw cw ad cd ap cp ⟨ws, ds, q, t⟩ ps W (HW.out.below (bt bu6 hB)) (HD.out.below (bt bu6 hB)) (HP.out.below (bt bu6 hB))))
    clear n1 n2 n3
    refine wp_region_held_drew (S := fun W => (∀ o, W.cell? ⟨g8, o, none⟩ = (#[.slice xa r.w.length xb, .int .i64 r.q, .slice xc r.d.length xd, .int .i64 r.t, .slice xe pr.length xf] : Array Value)[o]?) ∧ (∀ o, W.cell? ⟨g9, o, none⟩ = (#[.slice ya r.w.length yb, .int .i64 r.q, .slice yc r.d.length yd, .int .i64 r.t, .slice ye pr.length yf] : Array Value)[o]?) ∧ (∀ o, W.cell? ⟨w.heap.size, o, none⟩ = (#[.slice aw ws.length cw, .int .i64 q, .slice ad ds.length cd, .int .i64 t, .slice ap ps.length cp] : Array Value)[o]?)) (by kernel_rfl) ⟨fun o => blk_cell (blk_drew k8u6) o, fun o => blk_cell (blk_drew k9u6) o, fun o => blk_cell (blk_drew kxu6) o⟩ (fun hHeld => ?_)
    obtain ⟨d0, ed⟩ : ∃ v, v = u6.drew := ⟨_, rfl⟩
    have k8d0 := blk_drew k8u6
    have k9d0 := blk_drew k9u6
    have kxd0 := blk_drew kxu6
    rw [← ed] at k8d0 k9d0 kxd0
    have bd0 : Below w.heap.size w d0 := (by rw [ed]; exact bu6.drew)
    have md0 : Below u6.heap.size u6 d0 := (by rw [ed]; exact (Below.refl _ _).drew)
    rw [← ed] at hHeld ⊢
    clear ed k8u6 k9u6 kxu6
    refine wpAnyH_take (i := 0) (oi := _) (v := ?_) rfl (by kernel_rfl) (by kernel_rfl) (by kernel_rfl) (fun _ _ _ h => h) (Or.inl ⟨by rfl, ?_⟩) (by assumption) ?_
    rotate_left
    focus (intro W hSw; (try dsimp only at hSw); go_simp; (try with_reducible rfl))
    (try simp only [Act.put, List.setIfInBounds_toArray, List.set_cons_zero, List.set_cons_succ, List.getElem_toArray, List.getElem_cons_succ, List.getElem_cons_zero])
    refine wpAnyH_take (i := 1) (oi := _) (v := ?_) rfl (by kernel_rfl) (by kernel_rfl) (by kernel_rfl) (fun _ _ _ h => h) (Or.inl ⟨by rfl, ?_⟩) (by assumption) ?_
    rotate_left
    focus (intro W hSw; (try dsimp only at hSw); go_simp; (try with_reducible rfl))
    (try simp only [Act.put, List.setIfInBounds_toArray, List.set_cons_zero, List.set_cons_succ, List.getElem_toArray, List.getElem_cons_succ, List.getElem_cons_zero])
    refine wpAnyH_ready (rs := [2]) (by kernel_rfl) (by simp) ?_
    refine AllReadyH.cons rfl (fun K hK => ?_) AllReadyH.nil
    go_simp
    go_at_call 16
    (with_reducible refine (GSAME.out _ md0).mono ?_)
    rintro e v1 ⟨rfl, hB⟩
    (try go_wp2_with fail)
    have k8v1 := blk_below hB k8d0
    have k9v1 := blk_below hB k9d0
    have kxv1 := blk_below hB kxd0
    have bv1 := bt bd0 hB
    have mv1 := md0.trans (hB.mono md0.size)
    clear hB
    refine hK.out _ _ ⟨fun o => blk_cell k8v1 o, fun o => blk_cell k9v1 o, fun o => blk_cell kxv1 o⟩ (fun _ => ?_)
    clear hK K
    (try simp only [Act.put, List.setIfInBounds_toArray, List.set_cons_zero, List.set_cons_succ, List.getElem_toArray, List.getElem_cons_succ, List.getElem_cons_zero])
    refine wpAnyH_take (i := 3) (oi := _) (v := ?_) rfl (by kernel_rfl) (by kernel_rfl) (by kernel_rfl) (fun _ _ _ h => h) (Or.inl ⟨by rfl, ?_⟩) (by assumption) ?_
    rotate_left
    focus (intro W hSw; (try dsimp only at hSw); go_simp; (try with_reducible rfl))
    (try simp only [Act.put, List.setIfInBounds_toArray, List.set_cons_zero, List.set_cons_succ, List.getElem_toArray, List.getElem_cons_succ, List.getElem_cons_zero])
    refine wpAnyH_take (i := 4) (oi := _) (v := ?_) rfl (by kernel_rfl) (by kernel_rfl) (by kernel_rfl) (fun _ _ _ h => h) (Or.inl ⟨by rfl, ?_⟩) (by assumption) ?_
    rotate_left
    focus (intro W hSw; (try dsimp only at hSw); go_simp; (try with_reducible rfl))
    (try simp only [Act.put, List.setIfInBounds_toArray, List.set_cons_zero, List.set_cons_succ, List.getElem_toArray, List.getElem_cons_succ, List.getElem_cons_zero])
    refine wpAnyH_take (i := 5) (oi := _) (v := ?_) rfl (by kernel_rfl) (by kernel_rfl) (by kernel_rfl) (fun _ _ _ h => h) (Or.inl ⟨by rfl, ?_⟩) (by assumption) ?_
    rotate_left
    focus (intro W hSw; (try dsimp only at hSw); go_simp; (try with_reducible rfl))
    (try simp only [Act.put, List.setIfInBounds_toArray, List.set_cons_zero, List.set_cons_succ, List.getElem_toArray, List.getElem_cons_succ, List.getElem_cons_zero])
    refine wpAnyH_take (i := 6) (oi := _) (v := ?_) rfl (by kernel_rfl) (by kernel_rfl) (by kernel_rfl) (fun _ _ _ h => h) (Or.inl ⟨by rfl, ?_⟩) (by assumption) ?_
    rotate_left
    focus (intro W hSw; (try dsimp only at hSw); go_simp; (try with_reducible rfl))
    (try simp only [Act.put, List.setIfInBounds_toArray, List.set_cons_zero, List.set_cons_succ, List.getElem_toArray, List.getElem_cons_succ, List.getElem_cons_zero])
    refine wpAnyH_take (i := 7) (oi := _) (v := ?_) rfl (by kernel_rfl) (by kernel_rfl) (by kernel_rfl) (fun _ _ _ h => h) (Or.inl ⟨by rfl, ?_⟩) (by assumption) ?_
    rotate_left
    focus (intro W hSw; (try dsimp only at hSw); go_simp; (try with_reducible rfl))
    (try simp only [Act.put, List.setIfInBounds_toArray, List.set_cons_zero, List.set_cons_succ, List.getElem_toArray, List.getElem_cons_succ, List.getElem_cons_zero])
    refine wpAnyH_take (i := 8) (oi := _) (v := ?_) rfl (by kernel_rfl) (by kernel_rfl) (by kernel_rfl) (fun _ _ _ h => h) (Or.inl ⟨by rfl, ?_⟩) (by assumption) ?_
    rotate_left
    focus (intro W hSw; (try dsimp only at hSw); go_simp; (try with_reducible rfl))
    (try simp only [Act.put, List.setIfInBounds_toArray, List.set_cons_zero, List.set_cons_succ, List.getElem_toArray, List.getElem_cons_succ, List.getElem_cons_zero])
    refine wpAnyH_take (i := 9) (oi := _) (v := ?_) rfl (by kernel_rfl) (by kernel_rfl) (by kernel_rfl) (fun _ _ _ h => h) (Or.inl ⟨by rfl, ?_⟩) (by assumption) ?_
    rotate_left
    focus (intro W hSw; (try dsimp only at hSw); go_simp; (try with_reducible rfl))
    (try simp only [Act.put, List.setIfInBounds_toArray, List.set_cons_zero, List.set_cons_succ, List.getElem_toArray, List.getElem_cons_succ, List.getElem_cons_zero])
    refine wpAnyH_take (i := 10) (oi := _) (v := ?_) rfl (by kernel_rfl) (by kernel_rfl) (by kernel_rfl) (fun _ _ _ h => h) (Or.inl ⟨by rfl, ?_⟩) (by assumption) ?_
    rotate_left
    focus (intro W hSw; (try dsimp only at hSw); go_simp; (try with_reducible rfl))
    (try simp only [Act.put, List.setIfInBounds_toArray, List.set_cons_zero, List.set_cons_succ, List.getElem_toArray, List.getElem_cons_succ, List.getElem_cons_zero])
    refine wpAnyH_take (i := 11) (oi := _) (v := ?_) rfl (by kernel_rfl) (by kernel_rfl) (by kernel_rfl) (fun _ _ _ h => h) (Or.inl ⟨by rfl, ?_⟩) (by assumption) ?_
    rotate_left
    focus (intro W hSw; (try dsimp only at hSw); go_simp; (try with_reducible rfl))
    (try simp only [Act.put, List.setIfInBounds_toArray, List.set_cons_zero, List.set_cons_succ, List.getElem_toArray, List.getElem_cons_succ, List.getElem_cons_zero])
    refine wpAnyH_take (i := 12) (oi := _) (v := ?_) rfl (by kernel_rfl) (by kernel_rfl) (by kernel_rfl) (fun _ _ _ h => h) (Or.inl ⟨by rfl, ?_⟩) (by assumption) ?_
    rotate_left
    focus (intro W hSw; (try dsimp only at hSw); go_simp; (try with_reducible rfl))
    (try simp only [Act.put, List.setIfInBounds_toArray, List.set_cons_zero, List.set_cons_succ, List.getElem_toArray, List.getElem_cons_succ, List.getElem_cons_zero])
    refine wpAnyH_take (i := 13) (oi := _) (v := ?_) rfl (by kernel_rfl) (by kernel_rfl) (by kernel_rfl) (fun _ _ _ h => h) (Or.inl ⟨by rfl, ?_⟩) (by assumption) ?_
    rotate_left
    focus (intro W hSw; (try dsimp only at hSw); go_simp; (try with_reducible rfl))
    (try simp only [Act.put, List.setIfInBounds_toArray, List.set_cons_zero, List.set_cons_succ, List.getElem_toArray, List.getElem_cons_succ, List.getElem_cons_zero])
    refine wpAnyH_take (i := 14) (oi := _) (v := ?_) rfl (by kernel_rfl) (by kernel_rfl) (by kernel_rfl) (fun _ _ _ h => h) (Or.inl ⟨by rfl, ?_⟩) (by assumption) ?_
    rotate_left
    focus (intro W hSw; (try dsimp only at hSw); go_simp; (try with_reducible rfl))
    (try simp only [Act.put, List.setIfInBounds_toArray, List.set_cons_zero, List.set_cons_succ, List.getElem_toArray, List.getElem_cons_succ, List.getElem_cons_zero])
    refine wpAnyH_take (i := 15) (oi := _) (v := ?_) rfl (by kernel_rfl) (by kernel_rfl) (by kernel_rfl) (fun _ _ _ h => h) (Or.inl ⟨by rfl, ?_⟩) (by assumption) ?_
    rotate_left
    focus (intro W hSw; (try dsimp only at hSw); go_simp; (try with_reducible rfl))
    (try simp only [Act.put, List.setIfInBounds_toArray, List.set_cons_zero, List.set_cons_succ, List.getElem_toArray, List.getElem_cons_succ, List.getElem_cons_zero])
    refine wpAnyH_take (i := 16) (oi := _) (v := ?_) rfl (by kernel_rfl) (by kernel_rfl) (by kernel_rfl) (fun _ _ _ h => h) (Or.inl ⟨by rfl, ?_⟩) (by assumption) ?_
    rotate_left
    focus (intro W hSw; (try dsimp only at hSw); go_simp; (try with_reducible rfl))
    (try simp only [Act.put, List.setIfInBounds_toArray, List.set_cons_zero, List.set_cons_succ, List.getElem_toArray, List.getElem_cons_succ, List.getElem_cons_zero])
    refine wpAnyH_take (i := 17) (oi := _) (v := ?_) rfl (by kernel_rfl) (by kernel_rfl) (by kernel_rfl) (fun _ _ _ h => h) (Or.inl ⟨by rfl, ?_⟩) (by assumption) ?_
    rotate_left
    focus (intro W hSw; (try dsimp only at hSw); go_simp; (try with_reducible rfl))
    (try simp only [Act.put, List.setIfInBounds_toArray, List.set_cons_zero, List.set_cons_succ, List.getElem_toArray, List.getElem_cons_succ, List.getElem_cons_zero])
    refine wpAnyH_take (i := 18) (oi := _) (v := ?_) rfl (by kernel_rfl) (by kernel_rfl) (by kernel_rfl) (fun _ _ _ h => h) (Or.inl ⟨by rfl, ?_⟩) (by assumption) ?_
    rotate_left
    focus (intro W hSw; (try dsimp only at hSw); go_simp; (try with_reducible rfl))
    (try simp only [Act.put, List.setIfInBounds_toArray, List.set_cons_zero, List.set_cons_succ, List.getElem_toArray, List.getElem_cons_succ, List.getElem_cons_zero])
    refine wpAnyH_take (i := 19) (oi := _) (v := ?_) rfl (by kernel_rfl) (by kernel_rfl) (by kernel_rfl) (fun _ _ _ h => h) (Or.inl ⟨by rfl, ?_⟩) (by assumption) ?_
    rotate_left
    focus (intro W hSw; (try dsimp only at hSw); go_simp; (try with_reducible rfl))
    (try simp only [Act.put, List.setIfInBounds_toArray, List.set_cons_zero, List.set_cons_succ, List.getElem_toArray, List.getElem_cons_succ, List.getElem_cons_zero])
    refine wpAnyH_take (i := 20) (oi := _) (v := ?_) rfl (by kernel_rfl) (by kernel_rfl) (by kernel_rfl) (fun _ _ _ h => h) (Or.inl ⟨by rfl, ?_⟩) (by assumption) ?_
    rotate_left
    focus (intro W hSw; (try dsimp only at hSw); go_simp; (try with_reducible rfl))
    (try simp only [Act.put, List.setIfInBounds_toArray, List.set_cons_zero, List.set_cons_succ, List.getElem_toArray, List.getElem_cons_succ, List.getElem_cons_zero])
    refine wpAnyH_take (i := 21) (oi := _) (v := ?_) rfl (by kernel_rfl) (by kernel_rfl) (by kernel_rfl) (fun _ _ _ h => h) (Or.inl ⟨by rfl, ?_⟩) (by assumption) ?_
    rotate_left
    focus (intro W hSw; (try dsimp only at hSw); go_simp; (try with_reducible rfl))
    (try simp only [Act.put, List.setIfInBounds_toArray, List.set_cons_zero, List.set_cons_succ, List.getElem_toArray, List.getElem_cons_succ, List.getElem_cons_zero])
    refine wpAnyH_take (i := 22) (oi := _) (v := ?_) rfl (by kernel_rfl) (by kernel_rfl) (by kernel_rfl) (fun _ _ _ h => h) (Or.inl ⟨by rfl, ?_⟩) (by assumption) ?_
    rotate_left
    focus (intro W hSw; (try dsimp only at hSw); go_simp; (try with_reducible rfl))
    (try simp only [Act.put, List.setIfInBounds_toArray, List.set_cons_zero, List.set_cons_succ, List.getElem_toArray, List.getElem_cons_succ, List.getElem_cons_zero])
    refine wpAnyH_take (i := 25) (oi := _) (v := ?_) rfl (by kernel_rfl) (by kernel_rfl) (by kernel_rfl) (fun _ _ _ h => h) (Or.inl ⟨by rfl, ?_⟩) (by assumption) ?_
    rotate_left
    focus (intro W hSw; (try dsimp only at hSw); go_simp; (try with_reducible rfl))
    (try simp only [Act.put, List.setIfInBounds_toArray, List.set_cons_zero, List.set_cons_succ, List.getElem_toArray, List.getElem_cons_succ, List.getElem_cons_zero])
    refine wpAnyH_ready (rs := [23]) (by kernel_rfl) (by simp) ?_
    refine AllReadyH.cons rfl (fun K hK => ?_) AllReadyH.nil
    go_simp
    go_at_call 24
    (with_reducible refine (GOWN.out _ mv1).mono ?_)
    rintro e v2 ⟨a1, c1, a2, c2, a3, c3, rfl, O1, O2, O3, _, _, _, hB⟩
    (try go_wp2_with fail)
    have k8v2 := blk_below hB k8v1
    have k9v2 := blk_below hB k9v1
    have kxv2 := blk_below hB kxv1
    have bv2 := bt bv1 hB
    have mv2 := mv1.trans (hB.mono mv1.size)
    have GCH := Lib.hid (fun W (hB : Below v2.heap.size v2 W) => xchk_any a1 c1 a2 c2 a3 c3 ⟨ws, ds, q, t⟩ ps W (O1.below hB) (O2.below hB) (O3.below hB))
    have GCI := Lib.hid (GCH.out _ (Below.refl _ _))
    clear O1 O2 O3 GCH hB
    refine hK.out _ _ ⟨fun o => blk_cell k8v2 o, fun o => blk_cell k9v2 o, fun o => blk_cell kxv2 o⟩ (fun _ => ?_)
    clear hK K
    (try simp only [Act.put, List.setIfInBounds_toArray, List.set_cons_zero, List.set_cons_succ, List.getElem_toArray, List.getElem_cons_succ, List.getElem_cons_zero])
    refine wpAnyH_ready (rs := [24]) (by kernel_rfl) (by simp) ?_
    refine AllReadyH.cons rfl (fun K hK => ?_) AllReadyH.nil
    rw [hxx] at GCI
    go_simp
    go_at_call 23
    (with_reducible refine (GCI.out).mono ?_)
    rintro e v3 ⟨rfl, hB⟩
    (try go_wp2_with fail)
    have k8v3 := blk_below hB k8v2
    have k9v3 := blk_below hB k9v2
    have kxv3 := blk_below hB kxv2
    have bv3 := bt bv2 hB
    have mv3 := mv2.trans (hB.mono mv2.size)
    clear hB GCI
    refine hK.out _ _ ⟨fun o => blk_cell k8v3 o, fun o => blk_cell k9v3 o, fun o => blk_cell kxv3 o⟩ (fun _ => ?_)
    clear hK K
    (try simp only [Act.put, List.setIfInBounds_toArray, List.set_cons_zero, List.set_cons_succ, List.getElem_toArray, List.getElem_cons_succ, List.getElem_cons_zero])
    refine wpAnyH_ready (rs := [26]) (by kernel_rfl) (by simp) ?_
    refine AllReadyH.cons rfl (fun K hK => ?_) AllReadyH.nil
    go_simp
    go_at_call 25
    (with_reducible refine (GRC.out _ mv3).mono ?_)
    rintro e v4 ⟨rfl, hB⟩
    (try go_wp2_with fail)
    have k8v4 := blk_below hB k8v3
    have k9v4 := blk_below hB k9v3
    have kxv4 := blk_below hB kxv3
    have bv4 := bt bv3 hB
    have mv4 := mv3.trans (hB.mono mv3.size)
    clear hB
    refine hK.out _ _ ⟨fun o => blk_cell k8v4 o, fun o => blk_cell k9v4 o, fun o => blk_cell kxv4 o⟩ (fun _ => ?_)
    clear hK K
    (try simp only [Act.put, List.setIfInBounds_toArray, List.set_cons_zero, List.set_cons_succ, List.getElem_toArray, List.getElem_cons_succ, List.getElem_cons_zero])
    refine wpAnyH_take (i := 27) (oi := _) (v := ?_) rfl (by kernel_rfl) (by kernel_rfl) (by kernel_rfl) (fun _ _ _ h => h) (Or.inl ⟨by rfl, ?_⟩) (by assumption) ?_
    rotate_left
    focus (intro W hSw; (try dsimp only at hSw); go_simp; (try with_reducible rfl))
    (try simp only [Act.put, List.setIfInBounds_toArray, List.set_cons_zero, List.set_cons_succ, List.getElem_toArray, List.getElem_cons_succ, List.getElem_cons_zero])
    refine wpAnyH_take (i := 28) (oi := _) (v := ?_) rfl (by kernel_rfl) (by kernel_rfl) (by kernel_rfl) (fun _ _ _ h => h) (Or.inl ⟨by rfl, ?_⟩) (by assumption) ?_
    rotate_left
    focus (intro W hSw; (try dsimp only at hSw); go_simp; (try with_reducible rfl))
    (try simp only [Act.put, List.setIfInBounds_toArray, List.set_cons_zero, List.set_cons_succ, List.getElem_toArray, List.getElem_cons_succ, List.getElem_cons_zero])
    refine wpAnyH_done (by kernel_rfl) ?_ _
    have HQ1 := Lib.hid ((HQ.out.below B6).below mv4)
    have HQ2R := Lib.hid (HQ2.out.below mv4)
    go_wp2
    go_loopw [16] (fun i wr => ∃ j : Nat, i = .int .i64 j ∧ j ≤ 3 ∧ Hid (Below v4.heap.size v4 wr)) (fun i _ => 3 - (intOf i).toNat)
    case atStart => exact ⟨0, rfl, by omega, Lib.hid (Below.refl _ _)⟩
    case round =>
      obtain ⟨j, rfl, hj, hBj⟩ := hrel
      have bZ := bt bv4 hBj.out
      have mZ := mv4.trans (hBj.out.mono mv4.size)
      by_cases hlt : j < 3
      · have hltz : (j : Int) < 3 := by omega
        have tlt : decide ((j : Int) < 3) = true := decide_eq_true hltz
        obtain ⟨s1, e1, lo1, ce1, R1⟩ := (HQ1.out.below hBj.out).atP j hlt
        obtain ⟨s2, e2, lo2, ce2, R2⟩ := (HQ2R.out.below hBj.out).atP j hlt
        have HR1 := Lib.hid R1; have HR2 := Lib.hid R2
        have lqq : (queS l (j : Int)).length ≤ 100000 := by have := queS_le l (j : Int); omega
        clear R1 R2 tlt
        go_wp2_with fail
        refine wp_region_in (by kernel_rfl) (by kernel_rfl) ?_
        intro W0 hE hN
        have n1 := calm_cell (b := ob) (o := j) (W0 := W0) (by rw [hE.out]; exact lo1) (by rw [hE.out]; exact ce1)
        have n2 := calm_cell (b := ob2) (o := j) (W0 := W0) (by rw [hE.out]; exact lo2) (by rw [hE.out]; exact ce2)
        have bW : Below v4.heap.size v4 W0 := (by rw [hE.out]; exact hBj.out)
        have GS := Lib.hid (fun X : Class (Calm W0) => (show Calls Tryd.prog 26 #[.slice s1 (queS l (j : Int)).length e1, .slice s2 (queS l (j : Int)).length e2] X.wd fun e w' => e = .returned (.bool true) ∧ Below X.wd.heap.size X.wd w' from by
          have h9 := sameZ_any s1 s2 e1 e2 (queS l (j : Int)) (queS l (j : Int)) lqq lqq X.wd ((show SRow ic 1 W0 s1 e1 _ from by rw [hE.out]; exact HR1.out).below X.ok) ((show SRow ic 1 W0 s2 e2 _ from by rw [hE.out]; exact HR2.out).below X.ok)
          rw [decide_eq_true rfl] at h9
          exact h9))
        clear hE ce1 ce2 lo1 lo2
        repeat (go_big_quiet_step ((go_at_call 26; (with_reducible refine Class.go _ (GS.out _)))))
        refine wpQuiet_nil ?_
        rintro _ ⟨x', rfl⟩
        have HN := Lib.hid (bt bW x'.ok)
        obtain ⟨u, hu⟩ : ∃ u, u = x'.wd := ⟨_, rfl⟩
        rw [← hu] at HN ⊢
        clear hu x' n1 n2 hN bW GS
        go_wp2
        go_roundw
        case rel => exact ⟨j + 1, by go_num, by omega, HN⟩
        case measure => simp [intOf]; omega
      · obtain rfl : j = 3 := by omega
        have tlt : decide (((3 : Nat) : Int) < 3) = false := rfl
        go_wp2_with (first
          | (go_at_call 27; (with_reducible refine (GSB.out _ (by first | assumption | exact mZ)).mono ?_); rintro e z1 ⟨rfl, hz1⟩)
          | (go_at_call 14; (with_reducible refine (awake_any _ (HT.out.on (bt bZ hz1))).mono ?_); rintro e z2 ⟨rfl, hz2⟩))
        go_ret
        exact ⟨rfl, bt (bt bZ hz1) hz2⟩
  · have hda : ∀ x ∈ l, x.da.size ≤ maxLen := fun x hx => by have := n5 x hx; unfold maxLen; omega
    have GQ := Lib.hid (queuesX_bad hda hl0 ao co u4 (RO.out.below m24))
    have GQ2 := Lib.hid (fun W (hB : Below u4.heap.size u4 W) => rqueuesX_bad hda hl0 a cap W (HR.out.below (bt bu4 hB)))
    obtain ⟨cc, hcc⟩ : ∃ c, lstE l = c := ⟨_, rfl⟩
    rw [hcc] at GQ GQ2
    clear hcc hda
    go_wp2_with fail
    (with_reducible refine (GQ.out).mono ?_)
    rintro e u5 ⟨rfl, B5⟩
    go_upto_region 8 with (go_at_call 22; (with_reducible refine (GQ2.out _ B5).mono ?_); rintro e u6 ⟨rfl, B6⟩)
    clear GQ GQ2
    have tcc : (cc != cc) = false := by simp
    have m46 : Below u4.heap.size u4 u6 := bt B5 B6
    have m56 := m46
    have bu6 := bt bu4 m46
    have k8u6 := blk_below m46 k8
    have k9u6 := blk_below m46 k9
    have kxu6 := blk_below m46 kx
    have GSB := Lib.hid (fun W (hB : Below u6.heap.size u6 W) => (show Calls Tryd.prog 27 #[.slice ao l.length co, .slice a l.length cap] W fun e w' => e = .returned (.bool true) ∧ Below W.heap.size W w' from by
      have h9 := sameB_any ao a co cap l l (by omega) (by omega) W (((RO.out.below m24).below m46).below hB) (HR.out.below (bt bu6 hB))
      rw [(sameL_iff l l).2 rfl] at h9
      exact h9))
    clear k8 k9 kx
    have GSAME := Lib.hid (fun W (hB : Below u6.heap.size u6 W) => (show Calls Tryd.prog 16 #[.agg #[.slice xa r.w.length xb, .int .i64 r.q, .slice xc r.d.length xd, .int .i64 r.t, .slice xe pr.length xf], .agg #[.slice ya r.w.length yb, .int .i64 r.q, .slice yc r.d.length yd, .int .i64 r.t, .slice ye pr.length yf]] W fun e w' => e = .returned (.bool true) ∧ Below W.heap.size W w' from by
      have h9 := sameX_any #[.slice xa r.w.length xb, .int .i64 r.q, .slice xc r.d.length xd, .int .i64 r.t, .slice xe pr.length xf] #[.slice ya r.w.length yb, .int .i64 r.q, .slice yc r.d.length yd, .int .i64 r.t, .slice ye pr.length yf] r r pr pr W ⟨xa, xb, xc, xd, xe, xf, rfl, (SX.out.1.below m46).below hB, (SX.out.2.1.below m46).below hB, (SX.out.2.2.below m46).below hB⟩ ⟨ya, yb, yc, yd, ye, yf, rfl, (SY.out.1.below m56).below hB, (SY.out.2.1.below m56).below hB, (SY.out.2.2.below m56).below hB⟩ (by have := HLN.out; omega) (by have := HLN.out; omega) (by have := HLN.out; omega) (by have := HLN.out; omega) (by have := HLN.out; omega) (by have := HLN.out; omega)
      rw [eqX_self] at h9
      exact h9))
    have GOWN := Lib.hid (fun W (hB : Below u6.heap.size u6 W) => xown_any aw cw ad cd ap cp ws ds ps q t (by omega) (by omega) (by omega) W (HW.out.below (bt bu6 hB)) (HD.out.below (bt bu6 hB)) (HP.out.below (bt bu6 hB)))
    have GRC := Lib.hid (fun W (hB : Below u6.heap.size u6 W) => (show Calls Tryd.prog 25 #[.agg #[.slice aw ws.length cw, .int .i64 q, .slice ad ds.length cd, .int .i64 t, .slice ap ps.length cp]] W fun e w' => e = .returned (.int .i64 xx) ∧ Below W.heap.size W w' from by
      rw [← hxx]
      exact rxchk_any aw cw ad cd ap cp ⟨ws, ds, q, t⟩ ps W (HW.out.below (bt bu6 hB)) (HD.out.below (bt bu6 hB)) (HP.out.below (bt bu6 hB))))
    clear n1 n2 n3
    refine wp_region_held_drew (S := fun W => (∀ o, W.cell? ⟨g8, o, none⟩ = (#[.slice xa r.w.length xb, .int .i64 r.q, .slice xc r.d.length xd, .int .i64 r.t, .slice xe pr.length xf] : Array Value)[o]?) ∧ (∀ o, W.cell? ⟨g9, o, none⟩ = (#[.slice ya r.w.length yb, .int .i64 r.q, .slice yc r.d.length yd, .int .i64 r.t, .slice ye pr.length yf] : Array Value)[o]?) ∧ (∀ o, W.cell? ⟨w.heap.size, o, none⟩ = (#[.slice aw ws.length cw, .int .i64 q, .slice ad ds.length cd, .int .i64 t, .slice ap ps.length cp] : Array Value)[o]?)) (by kernel_rfl) ⟨fun o => blk_cell (blk_drew k8u6) o, fun o => blk_cell (blk_drew k9u6) o, fun o => blk_cell (blk_drew kxu6) o⟩ (fun hHeld => ?_)
    obtain ⟨d0, ed⟩ : ∃ v, v = u6.drew := ⟨_, rfl⟩
    have k8d0 := blk_drew k8u6
    have k9d0 := blk_drew k9u6
    have kxd0 := blk_drew kxu6
    rw [← ed] at k8d0 k9d0 kxd0
    have bd0 : Below w.heap.size w d0 := (by rw [ed]; exact bu6.drew)
    have md0 : Below u6.heap.size u6 d0 := (by rw [ed]; exact (Below.refl _ _).drew)
    rw [← ed] at hHeld ⊢
    clear ed k8u6 k9u6 kxu6
    refine wpAnyH_take (i := 0) (oi := _) (v := ?_) rfl (by kernel_rfl) (by kernel_rfl) (by kernel_rfl) (fun _ _ _ h => h) (Or.inl ⟨by rfl, ?_⟩) (by assumption) ?_
    rotate_left
    focus (intro W hSw; (try dsimp only at hSw); go_simp; (try with_reducible rfl))
    (try simp only [Act.put, List.setIfInBounds_toArray, List.set_cons_zero, List.set_cons_succ, List.getElem_toArray, List.getElem_cons_succ, List.getElem_cons_zero])
    refine wpAnyH_take (i := 1) (oi := _) (v := ?_) rfl (by kernel_rfl) (by kernel_rfl) (by kernel_rfl) (fun _ _ _ h => h) (Or.inl ⟨by rfl, ?_⟩) (by assumption) ?_
    rotate_left
    focus (intro W hSw; (try dsimp only at hSw); go_simp; (try with_reducible rfl))
    (try simp only [Act.put, List.setIfInBounds_toArray, List.set_cons_zero, List.set_cons_succ, List.getElem_toArray, List.getElem_cons_succ, List.getElem_cons_zero])
    refine wpAnyH_ready (rs := [2]) (by kernel_rfl) (by simp) ?_
    refine AllReadyH.cons rfl (fun K hK => ?_) AllReadyH.nil
    go_simp
    go_at_call 16
    (with_reducible refine (GSAME.out _ md0).mono ?_)
    rintro e v1 ⟨rfl, hB⟩
    (try go_wp2_with fail)
    have k8v1 := blk_below hB k8d0
    have k9v1 := blk_below hB k9d0
    have kxv1 := blk_below hB kxd0
    have bv1 := bt bd0 hB
    have mv1 := md0.trans (hB.mono md0.size)
    clear hB
    refine hK.out _ _ ⟨fun o => blk_cell k8v1 o, fun o => blk_cell k9v1 o, fun o => blk_cell kxv1 o⟩ (fun _ => ?_)
    clear hK K
    (try simp only [Act.put, List.setIfInBounds_toArray, List.set_cons_zero, List.set_cons_succ, List.getElem_toArray, List.getElem_cons_succ, List.getElem_cons_zero])
    refine wpAnyH_take (i := 3) (oi := _) (v := ?_) rfl (by kernel_rfl) (by kernel_rfl) (by kernel_rfl) (fun _ _ _ h => h) (Or.inl ⟨by rfl, ?_⟩) (by assumption) ?_
    rotate_left
    focus (intro W hSw; (try dsimp only at hSw); go_simp; (try with_reducible rfl))
    (try simp only [Act.put, List.setIfInBounds_toArray, List.set_cons_zero, List.set_cons_succ, List.getElem_toArray, List.getElem_cons_succ, List.getElem_cons_zero])
    refine wpAnyH_take (i := 4) (oi := _) (v := ?_) rfl (by kernel_rfl) (by kernel_rfl) (by kernel_rfl) (fun _ _ _ h => h) (Or.inl ⟨by rfl, ?_⟩) (by assumption) ?_
    rotate_left
    focus (intro W hSw; (try dsimp only at hSw); go_simp; (try with_reducible rfl))
    (try simp only [Act.put, List.setIfInBounds_toArray, List.set_cons_zero, List.set_cons_succ, List.getElem_toArray, List.getElem_cons_succ, List.getElem_cons_zero])
    refine wpAnyH_take (i := 5) (oi := _) (v := ?_) rfl (by kernel_rfl) (by kernel_rfl) (by kernel_rfl) (fun _ _ _ h => h) (Or.inl ⟨by rfl, ?_⟩) (by assumption) ?_
    rotate_left
    focus (intro W hSw; (try dsimp only at hSw); go_simp; (try with_reducible rfl))
    (try simp only [Act.put, List.setIfInBounds_toArray, List.set_cons_zero, List.set_cons_succ, List.getElem_toArray, List.getElem_cons_succ, List.getElem_cons_zero])
    refine wpAnyH_take (i := 6) (oi := _) (v := ?_) rfl (by kernel_rfl) (by kernel_rfl) (by kernel_rfl) (fun _ _ _ h => h) (Or.inl ⟨by rfl, ?_⟩) (by assumption) ?_
    rotate_left
    focus (intro W hSw; (try dsimp only at hSw); go_simp; (try with_reducible rfl))
    (try simp only [Act.put, List.setIfInBounds_toArray, List.set_cons_zero, List.set_cons_succ, List.getElem_toArray, List.getElem_cons_succ, List.getElem_cons_zero])
    refine wpAnyH_take (i := 7) (oi := _) (v := ?_) rfl (by kernel_rfl) (by kernel_rfl) (by kernel_rfl) (fun _ _ _ h => h) (Or.inl ⟨by rfl, ?_⟩) (by assumption) ?_
    rotate_left
    focus (intro W hSw; (try dsimp only at hSw); go_simp; (try with_reducible rfl))
    (try simp only [Act.put, List.setIfInBounds_toArray, List.set_cons_zero, List.set_cons_succ, List.getElem_toArray, List.getElem_cons_succ, List.getElem_cons_zero])
    refine wpAnyH_take (i := 8) (oi := _) (v := ?_) rfl (by kernel_rfl) (by kernel_rfl) (by kernel_rfl) (fun _ _ _ h => h) (Or.inl ⟨by rfl, ?_⟩) (by assumption) ?_
    rotate_left
    focus (intro W hSw; (try dsimp only at hSw); go_simp; (try with_reducible rfl))
    (try simp only [Act.put, List.setIfInBounds_toArray, List.set_cons_zero, List.set_cons_succ, List.getElem_toArray, List.getElem_cons_succ, List.getElem_cons_zero])
    refine wpAnyH_take (i := 9) (oi := _) (v := ?_) rfl (by kernel_rfl) (by kernel_rfl) (by kernel_rfl) (fun _ _ _ h => h) (Or.inl ⟨by rfl, ?_⟩) (by assumption) ?_
    rotate_left
    focus (intro W hSw; (try dsimp only at hSw); go_simp; (try with_reducible rfl))
    (try simp only [Act.put, List.setIfInBounds_toArray, List.set_cons_zero, List.set_cons_succ, List.getElem_toArray, List.getElem_cons_succ, List.getElem_cons_zero])
    refine wpAnyH_take (i := 10) (oi := _) (v := ?_) rfl (by kernel_rfl) (by kernel_rfl) (by kernel_rfl) (fun _ _ _ h => h) (Or.inl ⟨by rfl, ?_⟩) (by assumption) ?_
    rotate_left
    focus (intro W hSw; (try dsimp only at hSw); go_simp; (try with_reducible rfl))
    (try simp only [Act.put, List.setIfInBounds_toArray, List.set_cons_zero, List.set_cons_succ, List.getElem_toArray, List.getElem_cons_succ, List.getElem_cons_zero])
    refine wpAnyH_take (i := 11) (oi := _) (v := ?_) rfl (by kernel_rfl) (by kernel_rfl) (by kernel_rfl) (fun _ _ _ h => h) (Or.inl ⟨by rfl, ?_⟩) (by assumption) ?_
    rotate_left
    focus (intro W hSw; (try dsimp only at hSw); go_simp; (try with_reducible rfl))
    (try simp only [Act.put, List.setIfInBounds_toArray, List.set_cons_zero, List.set_cons_succ, List.getElem_toArray, List.getElem_cons_succ, List.getElem_cons_zero])
    refine wpAnyH_take (i := 12) (oi := _) (v := ?_) rfl (by kernel_rfl) (by kernel_rfl) (by kernel_rfl) (fun _ _ _ h => h) (Or.inl ⟨by rfl, ?_⟩) (by assumption) ?_
    rotate_left
    focus (intro W hSw; (try dsimp only at hSw); go_simp; (try with_reducible rfl))
    (try simp only [Act.put, List.setIfInBounds_toArray, List.set_cons_zero, List.set_cons_succ, List.getElem_toArray, List.getElem_cons_succ, List.getElem_cons_zero])
    refine wpAnyH_take (i := 13) (oi := _) (v := ?_) rfl (by kernel_rfl) (by kernel_rfl) (by kernel_rfl) (fun _ _ _ h => h) (Or.inl ⟨by rfl, ?_⟩) (by assumption) ?_
    rotate_left
    focus (intro W hSw; (try dsimp only at hSw); go_simp; (try with_reducible rfl))
    (try simp only [Act.put, List.setIfInBounds_toArray, List.set_cons_zero, List.set_cons_succ, List.getElem_toArray, List.getElem_cons_succ, List.getElem_cons_zero])
    refine wpAnyH_take (i := 14) (oi := _) (v := ?_) rfl (by kernel_rfl) (by kernel_rfl) (by kernel_rfl) (fun _ _ _ h => h) (Or.inl ⟨by rfl, ?_⟩) (by assumption) ?_
    rotate_left
    focus (intro W hSw; (try dsimp only at hSw); go_simp; (try with_reducible rfl))
    (try simp only [Act.put, List.setIfInBounds_toArray, List.set_cons_zero, List.set_cons_succ, List.getElem_toArray, List.getElem_cons_succ, List.getElem_cons_zero])
    refine wpAnyH_take (i := 15) (oi := _) (v := ?_) rfl (by kernel_rfl) (by kernel_rfl) (by kernel_rfl) (fun _ _ _ h => h) (Or.inl ⟨by rfl, ?_⟩) (by assumption) ?_
    rotate_left
    focus (intro W hSw; (try dsimp only at hSw); go_simp; (try with_reducible rfl))
    (try simp only [Act.put, List.setIfInBounds_toArray, List.set_cons_zero, List.set_cons_succ, List.getElem_toArray, List.getElem_cons_succ, List.getElem_cons_zero])
    refine wpAnyH_take (i := 16) (oi := _) (v := ?_) rfl (by kernel_rfl) (by kernel_rfl) (by kernel_rfl) (fun _ _ _ h => h) (Or.inl ⟨by rfl, ?_⟩) (by assumption) ?_
    rotate_left
    focus (intro W hSw; (try dsimp only at hSw); go_simp; (try with_reducible rfl))
    (try simp only [Act.put, List.setIfInBounds_toArray, List.set_cons_zero, List.set_cons_succ, List.getElem_toArray, List.getElem_cons_succ, List.getElem_cons_zero])
    refine wpAnyH_take (i := 17) (oi := _) (v := ?_) rfl (by kernel_rfl) (by kernel_rfl) (by kernel_rfl) (fun _ _ _ h => h) (Or.inl ⟨by rfl, ?_⟩) (by assumption) ?_
    rotate_left
    focus (intro W hSw; (try dsimp only at hSw); go_simp; (try with_reducible rfl))
    (try simp only [Act.put, List.setIfInBounds_toArray, List.set_cons_zero, List.set_cons_succ, List.getElem_toArray, List.getElem_cons_succ, List.getElem_cons_zero])
    refine wpAnyH_take (i := 18) (oi := _) (v := ?_) rfl (by kernel_rfl) (by kernel_rfl) (by kernel_rfl) (fun _ _ _ h => h) (Or.inl ⟨by rfl, ?_⟩) (by assumption) ?_
    rotate_left
    focus (intro W hSw; (try dsimp only at hSw); go_simp; (try with_reducible rfl))
    (try simp only [Act.put, List.setIfInBounds_toArray, List.set_cons_zero, List.set_cons_succ, List.getElem_toArray, List.getElem_cons_succ, List.getElem_cons_zero])
    refine wpAnyH_take (i := 19) (oi := _) (v := ?_) rfl (by kernel_rfl) (by kernel_rfl) (by kernel_rfl) (fun _ _ _ h => h) (Or.inl ⟨by rfl, ?_⟩) (by assumption) ?_
    rotate_left
    focus (intro W hSw; (try dsimp only at hSw); go_simp; (try with_reducible rfl))
    (try simp only [Act.put, List.setIfInBounds_toArray, List.set_cons_zero, List.set_cons_succ, List.getElem_toArray, List.getElem_cons_succ, List.getElem_cons_zero])
    refine wpAnyH_take (i := 20) (oi := _) (v := ?_) rfl (by kernel_rfl) (by kernel_rfl) (by kernel_rfl) (fun _ _ _ h => h) (Or.inl ⟨by rfl, ?_⟩) (by assumption) ?_
    rotate_left
    focus (intro W hSw; (try dsimp only at hSw); go_simp; (try with_reducible rfl))
    (try simp only [Act.put, List.setIfInBounds_toArray, List.set_cons_zero, List.set_cons_succ, List.getElem_toArray, List.getElem_cons_succ, List.getElem_cons_zero])
    refine wpAnyH_take (i := 21) (oi := _) (v := ?_) rfl (by kernel_rfl) (by kernel_rfl) (by kernel_rfl) (fun _ _ _ h => h) (Or.inl ⟨by rfl, ?_⟩) (by assumption) ?_
    rotate_left
    focus (intro W hSw; (try dsimp only at hSw); go_simp; (try with_reducible rfl))
    (try simp only [Act.put, List.setIfInBounds_toArray, List.set_cons_zero, List.set_cons_succ, List.getElem_toArray, List.getElem_cons_succ, List.getElem_cons_zero])
    refine wpAnyH_take (i := 22) (oi := _) (v := ?_) rfl (by kernel_rfl) (by kernel_rfl) (by kernel_rfl) (fun _ _ _ h => h) (Or.inl ⟨by rfl, ?_⟩) (by assumption) ?_
    rotate_left
    focus (intro W hSw; (try dsimp only at hSw); go_simp; (try with_reducible rfl))
    (try simp only [Act.put, List.setIfInBounds_toArray, List.set_cons_zero, List.set_cons_succ, List.getElem_toArray, List.getElem_cons_succ, List.getElem_cons_zero])
    refine wpAnyH_take (i := 25) (oi := _) (v := ?_) rfl (by kernel_rfl) (by kernel_rfl) (by kernel_rfl) (fun _ _ _ h => h) (Or.inl ⟨by rfl, ?_⟩) (by assumption) ?_
    rotate_left
    focus (intro W hSw; (try dsimp only at hSw); go_simp; (try with_reducible rfl))
    (try simp only [Act.put, List.setIfInBounds_toArray, List.set_cons_zero, List.set_cons_succ, List.getElem_toArray, List.getElem_cons_succ, List.getElem_cons_zero])
    refine wpAnyH_ready (rs := [23]) (by kernel_rfl) (by simp) ?_
    refine AllReadyH.cons rfl (fun K hK => ?_) AllReadyH.nil
    go_simp
    go_at_call 24
    (with_reducible refine (GOWN.out _ mv1).mono ?_)
    rintro e v2 ⟨a1, c1, a2, c2, a3, c3, rfl, O1, O2, O3, _, _, _, hB⟩
    (try go_wp2_with fail)
    have k8v2 := blk_below hB k8v1
    have k9v2 := blk_below hB k9v1
    have kxv2 := blk_below hB kxv1
    have bv2 := bt bv1 hB
    have mv2 := mv1.trans (hB.mono mv1.size)
    have GCH := Lib.hid (fun W (hB : Below v2.heap.size v2 W) => xchk_any a1 c1 a2 c2 a3 c3 ⟨ws, ds, q, t⟩ ps W (O1.below hB) (O2.below hB) (O3.below hB))
    have GCI := Lib.hid (GCH.out _ (Below.refl _ _))
    clear O1 O2 O3 GCH hB
    refine hK.out _ _ ⟨fun o => blk_cell k8v2 o, fun o => blk_cell k9v2 o, fun o => blk_cell kxv2 o⟩ (fun _ => ?_)
    clear hK K
    (try simp only [Act.put, List.setIfInBounds_toArray, List.set_cons_zero, List.set_cons_succ, List.getElem_toArray, List.getElem_cons_succ, List.getElem_cons_zero])
    refine wpAnyH_ready (rs := [24]) (by kernel_rfl) (by simp) ?_
    refine AllReadyH.cons rfl (fun K hK => ?_) AllReadyH.nil
    rw [hxx] at GCI
    go_simp
    go_at_call 23
    (with_reducible refine (GCI.out).mono ?_)
    rintro e v3 ⟨rfl, hB⟩
    (try go_wp2_with fail)
    have k8v3 := blk_below hB k8v2
    have k9v3 := blk_below hB k9v2
    have kxv3 := blk_below hB kxv2
    have bv3 := bt bv2 hB
    have mv3 := mv2.trans (hB.mono mv2.size)
    clear hB GCI
    refine hK.out _ _ ⟨fun o => blk_cell k8v3 o, fun o => blk_cell k9v3 o, fun o => blk_cell kxv3 o⟩ (fun _ => ?_)
    clear hK K
    (try simp only [Act.put, List.setIfInBounds_toArray, List.set_cons_zero, List.set_cons_succ, List.getElem_toArray, List.getElem_cons_succ, List.getElem_cons_zero])
    refine wpAnyH_ready (rs := [26]) (by kernel_rfl) (by simp) ?_
    refine AllReadyH.cons rfl (fun K hK => ?_) AllReadyH.nil
    go_simp
    go_at_call 25
    (with_reducible refine (GRC.out _ mv3).mono ?_)
    rintro e v4 ⟨rfl, hB⟩
    (try go_wp2_with fail)
    have k8v4 := blk_below hB k8v3
    have k9v4 := blk_below hB k9v3
    have kxv4 := blk_below hB kxv3
    have bv4 := bt bv3 hB
    have mv4 := mv3.trans (hB.mono mv3.size)
    clear hB
    refine hK.out _ _ ⟨fun o => blk_cell k8v4 o, fun o => blk_cell k9v4 o, fun o => blk_cell kxv4 o⟩ (fun _ => ?_)
    clear hK K
    (try simp only [Act.put, List.setIfInBounds_toArray, List.set_cons_zero, List.set_cons_succ, List.getElem_toArray, List.getElem_cons_succ, List.getElem_cons_zero])
    refine wpAnyH_take (i := 27) (oi := _) (v := ?_) rfl (by kernel_rfl) (by kernel_rfl) (by kernel_rfl) (fun _ _ _ h => h) (Or.inl ⟨by rfl, ?_⟩) (by assumption) ?_
    rotate_left
    focus (intro W hSw; (try dsimp only at hSw); go_simp; (try with_reducible rfl))
    (try simp only [Act.put, List.setIfInBounds_toArray, List.set_cons_zero, List.set_cons_succ, List.getElem_toArray, List.getElem_cons_succ, List.getElem_cons_zero])
    refine wpAnyH_take (i := 28) (oi := _) (v := ?_) rfl (by kernel_rfl) (by kernel_rfl) (by kernel_rfl) (fun _ _ _ h => h) (Or.inl ⟨by rfl, ?_⟩) (by assumption) ?_
    rotate_left
    focus (intro W hSw; (try dsimp only at hSw); go_simp; (try with_reducible rfl))
    (try simp only [Act.put, List.setIfInBounds_toArray, List.set_cons_zero, List.set_cons_succ, List.getElem_toArray, List.getElem_cons_succ, List.getElem_cons_zero])
    refine wpAnyH_done (by kernel_rfl) ?_ _
    have mZ := mv4
    have bZ := bv4
    go_wp2
    refine wp_loop_rounds 1 ?_
    rw [rounds_succ]
    go_wp2_with (first
      | (go_at_call 27; (with_reducible refine (GSB.out _ (by first | assumption | exact mZ)).mono ?_); rintro e z1 ⟨rfl, hz1⟩)
      | (go_at_call 14; (with_reducible refine (awake_any _ (HT.out.on (bt bZ hz1))).mono ?_); rintro e z2 ⟨rfl, hz2⟩))
    go_ret
    exact ⟨rfl, bt (bt bZ hz1) hz2⟩
theorem egressStates_row (aw : Option Addr) (cw : Nat) (ad : Option Addr) (cd : Nat) (ap : Option Addr) (cp : Nat) (ws ds ps : List Int) (q t x0 x1 x2 : Int) (a : Option Addr) (cap : Nat) (l : List Bn) (w : World) (hw : SRow ic 1 w aw cw ws) (hd : SRow ic 1 w ad cd ds) (hp : SRow ic 1 w ap cp ps) (hrow : SRow bn 9 w a cap l) (hG : ∀ x ∈ l, GdB x) (hT : Lib.TabIs Tryd.prog w headsNm .u8 headsTab) :
    Calls Tryd.prog 5 #[.agg #[.slice aw ws.length cw, .int .i64 q, .slice ad ds.length cd, .int .i64 t, .slice ap ps.length cp], .agg #[.int .i64 x0, .int .i64 x1, .int .i64 x2], .slice a l.length cap] w fun e w' => e = .returned (.bool true) ∧ Below w.heap.size w w' :=
  egressStates_walk aw cw ad cd ap cp ws ds ps q t x0 x1 x2 a cap l w (htab_of hT) hw hd hp hrow
end Go.Proofs.YtkaehoihpgelnaaDoor
