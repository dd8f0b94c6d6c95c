/- BundleSorted: sorting keeps all, in order. -/
import Derived.Test.YtahopnlibmiafaaDoorSoMade
import Derived.Test.YtahopnlibmiafaaDoorSoSame
import Derived.Test.YtahopnlibmiafaaDoorBuLaw4
import Derived.Test.YtahopnlibmiafaaDoorBuAwake
namespace Go.Proofs.YtahopnlibmiafaaDoor
set_option linter.unusedVariables false
open Go.RowKit
theorem ltB_asym (a b : Bn) (h : ltB a b = true) : ltB b a = false := (less_laws a.no a.sq a.of a.pr a.bo a.li b.no b.sq b.of b.pr b.bo b.li 0 0 0 0 0 0).1 h
theorem cmpL_nn : ∀ l : List (Int × Int × Int), ¬ cmpL (l.map fun x => (x.1, x.2.1)) < 0 → ¬ cmpL (l.map fun x => (x.2.1, x.2.2)) < 0 → ¬ cmpL (l.map fun x => (x.1, x.2.2)) < 0
  | [], _, _ => by simp [cmpL]
  | (a, b, c) :: l, h1, h2 => by
    have e : ∀ p q : Int, ∀ l, cmpL ((p, q) :: l) = if cmp3 p q ≠ 0 then cmp3 p q else cmpL l := fun _ _ _ => rfl
    simp only [List.map_cons] at h1 h2 ⊢
    rw [e] at h1 h2 ⊢
    have ih := cmpL_nn l
    rcases cmp3_cases a b with ⟨h, h'⟩ | ⟨h, h'⟩ | ⟨h, h'⟩ <;> rcases cmp3_cases b c with ⟨g, g'⟩ | ⟨g, g'⟩ | ⟨g, g'⟩ <;> rcases cmp3_cases a c with ⟨k, k'⟩ | ⟨k, k'⟩ | ⟨k, k'⟩ <;>
      first
      | omega
      | (rw [h] at h1; exact absurd h1 (by decide))
      | (rw [g] at h2; exact absurd h2 (by decide))
      | (rw [k]; decide)
      | (rw [h] at h1; rw [g] at h2; rw [k]; exact ih (by simpa using h1) (by simpa using h2))
theorem cmpL_neg (p q : Int) (l : List (Int × Int)) : cmpL ((p, q) :: l) = cmpL ((-q, -p) :: l) := by
  have e : ∀ p q : Int, ∀ l, cmpL ((p, q) :: l) = if cmp3 p q ≠ 0 then cmp3 p q else cmpL l := fun _ _ _ => rfl
  have h : cmp3 p q = cmp3 (-q) (-p) := by
    rcases cmp3_cases p q with ⟨h, h'⟩ | ⟨h, h'⟩ | ⟨h, h'⟩ <;> rcases cmp3_cases (-q) (-p) with ⟨g, g'⟩ | ⟨g, g'⟩ | ⟨g, g'⟩ <;> first | omega | rw [h, g]
  rw [e, e, h]
theorem ltB_nn (a b c : Bn) (h1 : ltB a b = false) (h2 : ltB b c = false) : ltB a c = false := by
  unfold ltB lessB at *
  rw [ordB_L, cmpL_neg] at *
  simp only [decide_eq_false_iff_not] at *
  exact cmpL_nn [(-a.pr, -b.pr, -c.pr), (a.bo + a.li, b.bo + b.li, c.bo + c.li), (a.no, b.no, c.no), (a.sq, b.sq, c.sq), (a.of, b.of, c.of)] h1 h2
def cntE (x : Bn) (I : List Bn) (k : Nat) : Nat := ((I.take k).filter fun y => eqB y x).length
theorem cntE_zero (x : Bn) (I : List Bn) : cntE x I 0 = 0 := by simp [cntE]
theorem cntE_succ {x : Bn} {I : List Bn} {k : Nat} (h : k < I.length) : cntE x I (k + 1) = cntE x I k + if eqB I[k] x = true then 1 else 0 := by
  unfold cntE
  rw [List.take_succ_eq_append_getElem h, List.filter_append, List.length_append]
  by_cases e : eqB I[k] x = true <;> simp [e]
theorem cntE_le (x : Bn) (I : List Bn) (k : Nat) : cntE x I k ≤ k := by
  unfold cntE
  exact Nat.le_trans (List.length_filter_le _ _) (by simp; omega)
/-- Each of different elements stands once in what sorting makes of them. -/
theorem cntE_all {l : List Bn} (h : l.Pairwise (fun a b => a ≠ b)) {i : Nat} (hi : i < l.length) : cntE l[i] (isort ltB l) (isort ltB l).length = 1 := by
  unfold cntE
  rw [List.take_length]
  have hp := (isort_perm ltB l).filter (fun y => eqB y l[i])
  rw [hp.length_eq]
  have e : l = l.take i ++ (l[i] :: l.drop (i + 1)) := by rw [← List.drop_eq_getElem_cons hi, List.take_append_drop]
  obtain ⟨x, hx⟩ : ∃ x, x = l[i] := ⟨_, rfl⟩
  obtain ⟨A, hA⟩ : ∃ A, A = l.take i := ⟨_, rfl⟩
  obtain ⟨B, hB⟩ : ∃ B, B = l.drop (i + 1) := ⟨_, rfl⟩
  rw [← hx, ← hA, ← hB] at e
  rw [← hx, e]
  rw [e] at h
  obtain ⟨_, h2, h3⟩ := List.pairwise_append.1 h
  obtain ⟨h4, _⟩ := List.pairwise_cons.1 h2
  have f1 : A.filter (fun y => eqB y x) = [] := by
    rw [List.filter_eq_nil_iff]
    intro y hy hq
    exact h3 y hy x (by simp) ((eqB_iff y x).1 hq)
  have f2 : B.filter (fun y => eqB y x) = [] := by
    rw [List.filter_eq_nil_iff]
    intro y hy hq
    exact h4 y hy ((eqB_iff y x).1 hq).symm
  rw [List.filter_append, List.filter_cons, f1, f2, if_pos ((eqB_iff x x).2 rfl)]
  rfl
theorem lessB_any (a b : Bn) (ha : BnI a) (hb : BnI b) (w : World) : Calls Tryd.prog 18 #[.agg (bn a).toArray, .agg (bn b).toArray] w fun e w' => e = .returned (.bool (ltB a b)) ∧ Below w.heap.size w w' :=
  less_any a.no a.sq a.of a.de a.pr a.bo a.li a.to a.da b.no b.sq b.of b.de b.pr b.bo b.li b.to b.da ha.1 ha.2 hb.1 hb.2 w
set_option maxRecDepth 100000 in
set_option maxHeartbeats 3200000 in
theorem bundleSorted_walk (a : Option Addr) (cap : Nat) (zs : List Int) (w : World) (hrow : Row .i64 w a cap zs) :
    Calls Tryd.prog 4 #[.slice a zs.length cap] w fun e w' => e = .returned (.bool true) ∧ Below w.heap.size w w' := by
  have gb := Lib.hid (bundles_any a cap zs w hrow)
  have ga := Lib.hid awake_any
  clear hrow
  go_enter Tryd.func4, Tryd.ntmps4
  go_wp2_with (go_at_call 17; (with_reducible refine (gb.out).mono ?_); rintro e w1 ⟨v1, l, rfl, hmk, h20, ho1, hB1⟩)
  obtain ⟨a1, c1, rfl, hS1, _⟩ := srow_of_owns bn_len ho1
  have hv := hmk.valid h20
  have hinj := hmk.inj
  clear gb hmk ho1
  have g2 := Lib.hid (own_any a1 c1 l (by omega) w1 hS1)
  have HV := Lib.hid hv; have HJ := Lib.hid hinj; have HS1 := Lib.hid hS1
  clear hv hinj hS1
  go_wp2_with (go_at_call 13; (with_reducible refine (g2.out).mono ?_); rintro e w2 ⟨v2, rfl, ho2, hB2⟩)
  obtain ⟨a2, c2, rfl, hS2, _⟩ := srow_of_owns bn_len ho2
  have g3 := Lib.hid (sort_ok a2 c2 l h20 HV.out w2 hS2)
  clear g2 ho2 hS2
  go_wp2_with (go_at_call 14; (with_reducible refine (g3.out).mono ?_); rintro e w3 ⟨v3, rfl, ho3, hB3⟩)
  have lI : (isort ltB l).length = l.length := isort_length ltB l
  obtain ⟨I, hI⟩ : ∃ I, I = isort ltB l := ⟨_, rfl⟩
  rw [← hI] at ho3 lI
  rw [← lI] at ho3
  obtain ⟨a3, c3, rfl, hS3, _⟩ := srow_of_owns bn_len ho3
  have HI := Lib.hid hI; have LI := Lib.hid lI
  clear g3 ho3
  have hSrt : Srt ltB I := (by rw [HI.out]; exact isort_srt ltB ltB_asym ltB_nn l)
  have hval : ∀ x ∈ I, BnV x := fun x hx => HV.out x ((isort_perm ltB l).mem_iff.1 (by rw [← HI.out]; exact hx))
  have hcnt : ∀ i (hi : i < l.length), cntE l[i] I I.length = 1 := (by rw [HI.out]; exact fun i hi => cntE_all HJ.out hi)
  have hself : isort ltB I = I := isort_self ltB I hSrt
  have HT := Lib.hid hSrt; have HW := Lib.hid hval; have HC := Lib.hid hcnt; have HF := Lib.hid hself
  have HS3 := Lib.hid hS3
  have b3 : Below w.heap.size w w3 := bt (bt hB1 hB2) hB3
  have HS13 := Lib.hid ((HS1.out.below hB2).below hB3)
  clear hSrt hval hcnt hself hS3 hI HS1 hB1 hB2 hB3 HJ HV
  have q0 : ((I.length : Int) != (l.length : Int)) = false := by simp [LI.out]
  have i20 : I.length ≤ 20 := by omega
  clear lI
  go_wp2
  rw [run_len_slice (h := Tryd.underlying22)]
  go_wp2
  go_loopw [6] (fun vi wr => ∃ i : Nat, vi = .int .i64 i ∧ i ≤ l.length ∧ Below w3.heap.size w3 wr) (fun vi _ => l.length - (intOf vi).toNat)
  case atStart => exact ⟨0, rfl, Nat.zero_le _, Below.refl _ _⟩
  case round =>
    obtain ⟨i, rfl, hi, hBr⟩ := hrel
    by_cases hlt : i < l.length
    · have hltz : (i : Int) < (l.length : Int) := by omega
      obtain ⟨x, hx⟩ : ∃ x, x = l[i] := ⟨_, rfl⟩
      have HX := Lib.hid hx
      clear hx
      go_wp2
      go_loopw [7, 8] (fun vm vk wr2 => ∃ k : Nat, vm = .int .i64 (cntE x I k) ∧ vk = .int .i64 k ∧ k ≤ I.length ∧ Below w3.heap.size w3 wr2) (fun _ vk _ => I.length - (intOf vk).toNat)
      case atStart => exact ⟨0, by rw [cntE_zero]; rfl, rfl, Nat.zero_le _, hBr⟩
      case round =>
        clear hBr
        obtain ⟨k, rfl, rfl, hk, hB⟩ := hrel
        by_cases hkt : k < I.length
        · have hktz : (k : Int) < (I.length : Int) := by omega
          have i1 : (i : Int) < (l.length : Int) := hltz
          obtain ⟨b1, o1, rfl, g1, r1⟩ := (HS3.out.below hB).2.2.2 (by omega)
          obtain ⟨b2, o2, rfl, g2, r2⟩ := (HS13.out.below hB).2.2.2 (by omega)
          obtain ⟨y, hy⟩ : ∃ x, x = I[k] := ⟨_, rfl⟩
          have R1 := r1 k hkt
          have R2 := r2 i hlt
          rw [← hy] at R1
          rw [← HX.out] at R2
          clear r1 r2
          have E := fun W => run_bnEq y x W
          have hs := cntE_succ (x := x) hkt
          have hc := cntE_le x I k
          obtain ⟨c, hcc⟩ : ∃ c, c = cntE x I k := ⟨_, rfl⟩
          rw [← hy, ← hcc] at hs
          rw [← hcc] at hc ⊢
          obtain ⟨q, hq⟩ : ∃ q, eqB y x = q := ⟨_, rfl⟩
          rw [hq] at E hs
          have HY := Lib.hid hy; have HQ := Lib.hid hq; have HS := Lib.hid hs
          clear hy hq hs hcc
          have lI2 := LI.out
          go_wp2_with fail
          refine wp_region_in (by kernel_rfl) (by kernel_rfl) ?_
          intro W0 hE hN
          have r1 : W0.rangeAt b1 (o1 + k * 9) (bn y) := (by rw [hE.out]; exact R1)
          have r2 : W0.rangeAt b2 (o2 + i * 9) (bn x) := (by rw [hE.out]; exact R2)
          have g1' : b1 < W0.heap.size := (by rw [hE.out]; exact g1)
          have g2' : b2 < W0.heap.size := (by rw [hE.out]; exact g2)
          have hB' : Below w3.heap.size w3 W0 := (by rw [hE.out]; exact hB)
          clear hE R1 R2 g1 g2 hB lI2
          refine wpQuiet_split 3 ?_
          simp only [List.take_succ_cons, List.take_zero, List.drop_succ_cons, List.drop_zero]
          repeat (go_big_quiet_step (fail))
          refine wpQuiet_nil ?_
          refine wpQuiet_load_range 28 (.tmp 41) b1 (o1 + k * 9) (bn y) (fun W hW => by obtain ⟨x', rfl⟩ := hW; exact range_below g1' r1 x'.ok) _ (by kernel_rfl) rfl (by kernel_rfl) Tryd.underlying28 rfl (by kernel_rfl) ?_
          conv => arg 6; simp [Act.put]
          refine wpQuiet_split 3 ?_
          simp only [List.take_succ_cons, List.take_zero, List.drop_succ_cons, List.drop_zero]
          repeat (go_big_quiet_step (fail))
          refine wpQuiet_nil ?_
          refine wpQuiet_load_range 28 (.tmp 45) b2 (o2 + i * 9) (bn x) (fun W hW => by obtain ⟨x', rfl⟩ := hW; exact range_below g2' r2 x'.ok) _ (by kernel_rfl) rfl (by kernel_rfl) Tryd.underlying28 rfl (by kernel_rfl) ?_
          conv => arg 6; simp [Act.put]
          repeat (go_big_quiet_step (fail))
          refine wpQuiet_nil ?_
          rintro _ ⟨x', rfl⟩
          have hB2 := bt hB' x'.ok
          obtain ⟨u, hu⟩ : ∃ u, u = x'.wd := ⟨_, rfl⟩
          rw [← hu] at hB2 ⊢
          clear hu x' hN r1 r2 g1' g2' hB' E
          cases q
          · go_wp2
            go_roundw
            case rel => exact ⟨k + 1, by rw [HS.out]; rfl, by go_num, by omega, hB2⟩
            case measure => simp [intOf]; omega
          · go_wp2
            go_roundw
            case rel => exact ⟨k + 1, by rw [HS.out]; go_num, by go_num, by omega, hB2⟩
            case measure => simp [intOf]; omega
        · obtain rfl : k = I.length := by omega
          have hone : cntE x I I.length = 1 := (by rw [HX.out]; exact HC.out i hlt)
          rw [hone, show ((1 : Nat) : Int) = 1 from rfl]
          clear hone
          rcases Nat.eq_zero_or_pos i with rfl | hpos
          · have hun : undef = Value.tuple #[] := rfl
            have t0 : decide ((0 : Int) > 0) = false := by decide
            go_wp2_with fail
            refine wp_region_in (by kernel_rfl) (by kernel_rfl) ?_
            intro W0 hE hN
            have hB' : Below w3.heap.size w3 W0 := (by rw [hE.out]; exact hB)
            clear hE hB
            repeat (go_big_quiet_step (fail))
            refine wpQuiet_nil ?_
            rintro _ ⟨x', rfl⟩
            have hB2 := bt hB' x'.ok
            obtain ⟨u, hu⟩ : ∃ u, u = x'.wd := ⟨_, rfl⟩
            rw [← hu] at hB2 ⊢
            clear hu x' hN hB'
            go_wp2
            go_roundw
            case rel => exact ⟨1, by go_num, by omega, hB2⟩
            case measure => simp [intOf]; omega
          · have hun : undef = Value.tuple #[] := rfl
            obtain ⟨j, rfl⟩ : ∃ j, i = j + 1 := ⟨i - 1, by omega⟩
            have lI2 := LI.out
            have t0 : decide ((0 : Int) < ((j + 1 : Nat) : Int)) = true := decide_eq_true (by omega)
            have t00 : (0 : Int) < ((j + 1 : Nat) : Int) := by omega
            have tn : decide (0 < j + 1) = true := decide_eq_true (by omega)
            have tn0 : 0 < j + 1 := by omega
            have m1 : IntKind.i64.wrap (((j + 1 : Nat) : Int) - 1) = j := (IntWalk.i64_in _ (by omega)).trans (by omega)
            have p1 : ((j + 1 : Nat) : Int) < (I.length : Int) := by omega
            have p2 : (j : Int) < (I.length : Int) := by omega
            have hj1 : j + 1 < I.length := by omega
            have hj0 : j < I.length := by omega
            obtain ⟨b1, o1, rfl, g1, r1⟩ := (HS3.out.below hB).2.2.2 (by omega)
            obtain ⟨y, hy⟩ : ∃ x, x = I[j + 1] := ⟨_, rfl⟩
            obtain ⟨z, hz⟩ : ∃ x, x = I[j] := ⟨_, rfl⟩
            have R1 := r1 (j + 1) hj1
            have R2 := r1 j hj0
            have vy := (HW.out _ (List.getElem_mem hj1)).i
            have vz := (HW.out _ (List.getElem_mem hj0)).i
            have no := (List.pairwise_iff_getElem.1 HT.out) j (j + 1) hj0 hj1 (by omega)
            rw [← hy] at R1 vy no
            rw [← hz] at R2 vz no
            have gl := Lib.hid (fun w => lessB_any y z vy vz w)
            rw [no] at gl
            obtain ⟨n, hn⟩ : ∃ n, n = j + 1 := ⟨_, rfl⟩
            have HN := Lib.hid hn
            rw [← hn] at t0 t00 tn tn0 m1 p1 R1 hlt hltz ⊢
            clear r1 hy hz vy vz no lI2 hn hj0 hj1 hpos
            go_wp2_with fail
            refine wp_region_in (by kernel_rfl) (by kernel_rfl) ?_
            intro W0 hE hN
            have r1 : W0.rangeAt b1 (o1 + n * 9) (bn y) := (by rw [hE.out]; exact R1)
            have r2 : W0.rangeAt b1 (o1 + j * 9) (bn z) := (by rw [hE.out]; exact R2)
            have g1' : b1 < W0.heap.size := (by rw [hE.out]; exact g1)
            have hB' : Below w3.heap.size w3 W0 := (by rw [hE.out]; exact hB)
            clear hE R1 R2 g1 hB
            refine wpQuiet_split 9 ?_
            simp only [List.take_succ_cons, List.take_zero, List.drop_succ_cons, List.drop_zero]
            repeat (go_big_quiet_step (fail))
            refine wpQuiet_nil ?_
            refine wpQuiet_load_range 28 (.tmp 58) b1 (o1 + n * 9) (bn y) (fun W hW => by obtain ⟨x', rfl⟩ := hW; exact range_below g1' r1 x'.ok) _ (by kernel_rfl) rfl (by kernel_rfl) Tryd.underlying28 rfl (by kernel_rfl) ?_
            conv => arg 6; simp [Act.put]
            refine wpQuiet_split 4 ?_
            simp only [List.take_succ_cons, List.take_zero, List.drop_succ_cons, List.drop_zero]
            repeat (go_big_quiet_step (fail))
            refine wpQuiet_nil ?_
            refine wpQuiet_load_range 28 (.tmp 63) b1 (o1 + j * 9) (bn z) (fun W hW => by obtain ⟨x', rfl⟩ := hW; exact range_below g1' r2 x'.ok) _ (by kernel_rfl) rfl (by kernel_rfl) Tryd.underlying28 rfl (by kernel_rfl) ?_
            conv => arg 6; simp [Act.put]
            repeat (go_big_quiet_step ((go_at_call 18; (with_reducible refine Class.go _ (gl.out _)))))
            refine wpQuiet_nil ?_
            rintro _ ⟨x', rfl⟩
            have hB2 := bt hB' x'.ok
            obtain ⟨u, hu⟩ : ∃ u, u = x'.wd := ⟨_, rfl⟩
            rw [← hu] at hB2 ⊢
            clear hu x' hN r1 r2 g1' hB' gl t0 m1 p1 p2
            go_wp2
            go_roundw
            case rel => exact ⟨n + 1, by go_num, hlt, hB2⟩
            case measure => have hn := HN.out; simp [intOf]; omega
    · have gB := HS3.out.below hBr
      have bw : Below w.heap.size w wr := bt b3 hBr
      have g2 := Lib.hid (own_any a3 c3 I (by omega) wr gB)
      have HB := Lib.hid gB
      clear hBr HS13
      go_wp2_with (go_at_call 13; (with_reducible refine (g2.out).mono ?_); rintro e w4 ⟨v4, rfl, ho4, hB4⟩)
      obtain ⟨a4, c4, rfl, hS4, _⟩ := srow_of_owns bn_len ho4
      have g3 := Lib.hid (sort_ok a4 c4 I (by omega) HW.out w4 hS4)
      clear g2 ho4 hS4
      go_wp2_with (go_at_call 14; (with_reducible refine (g3.out).mono ?_); rintro e w5 ⟨v5, rfl, ho5, hB5⟩)
      rw [HF.out] at ho5
      obtain ⟨a5, c5, rfl, hS5, _⟩ := srow_of_owns bn_len ho5
      have hS3' := (HB.out.below hB4).below hB5
      have g4 := Lib.hid (sameB_any a3 a5 c3 c5 I I (by omega) (by omega) w5 hS3' hS5)
      rw [(sameL_iff I I).2 rfl] at g4
      have bw5 : Below w.heap.size w w5 := bt (bt bw hB4) hB5
      clear g3 ho5 hS5 hS3' hB4 hB5 HB
      go_wp2_with (first | (go_at_call 16; (with_reducible refine (g4.out).mono ?_); rintro e w6 ⟨rfl, hB6⟩) | (go_at_call 12; (with_reducible refine (ga.out _).mono ?_); rintro e w7 ⟨rfl, hB7⟩))
      go_ret
      exact ⟨rfl, bt (bt bw5 hB6) hB7⟩
theorem bundleSorted_row (a : Option Addr) (len cap : Nat) (zs : List Int) (w : World) (h : IsRow .i64 w a len cap zs) :
    Calls Tryd.prog 4 #[.slice a len cap] w fun e w' => e = .returned (.bool true) ∧ Below w.heap.size w w' := by
  obtain ⟨e, hr⟩ := row_of h
  have := bundleSorted_walk a cap (zs.take len) w hr
  rw [← e] at this
  exact this
end Go.Proofs.YtahopnlibmiafaaDoor
