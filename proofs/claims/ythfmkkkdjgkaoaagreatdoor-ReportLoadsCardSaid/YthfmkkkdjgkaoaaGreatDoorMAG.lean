/- Parts of a proof, printed by a program of mine out of my texts: RpRCw, RpRDg, RpRFa. -/
import Derived.Lib.ItoaLen
import Derived.Test.YthfmkkkdjgkaoaaGreatDoorMA
import Derived.Test.YthfmkkkdjgkaoaaGreatDoorMAF
import Derived.Test.YthfmkkkdjgkaoaaGreatDoorML
import Derived.Test.YthfmkkkdjgkaoaaGreatDoorMP
import Derived.Test.YthfmkkkdjgkaoaaGreatDoorMW
import Derived.Test.YthfmkkkdjgkaoaaGreatDoorMX10
set_option linter.unusedSimpArgs false
set_option linter.unusedVariables false
namespace Go.Proofs.YthfmkkkdjgkaoaaGreatDoor
open Go.RowKit
set_option maxRecDepth 100000 in
set_option maxHeartbeats 6400000 in
theorem rcounts_blk (ab al : Option Addr) (cb cl : Nat) (b : List Bn) (l : List Oc) (prio : Int) (hp : prioC b l prio = 0) (hd : ∀ x ∈ b, x.da.size ≤ maxLen) (w : World) (hb : SRow bn 9 w ab cb b) (hl : SRow oc 7 w al cl l) :
    Calls Tryz.prog 44 #[.slice ab b.length cb, .slice al l.length cl, .int .i64 prio] w fun e w' => ∃ (o : Nat) (f : Nat → Int), e = .returned (.tuple #[.slice (some ⟨o, 0, none⟩) 6 6, .int .i64 0]) ∧ blk w' o = some (outI f) ∧ couO b l prio = [f 0, f 1, f 2, f 3, f 4, f 5] ∧ Below w.heap.size w w' := by
  have g := rpchk_any ab al cb cl b l prio hd w hb hl
  have hv := prioC_v hp
  have hlen := hv.1.len
  have hp1 := hv.2.1
  have hp2 := hv.2.2
  have hcr : couR b l prio = couO b l prio := by unfold couR; rw [if_pos hp]
  have hcc : couO b l prio = [cntL (b.filter (inP prio)) l 0, cntL (b.filter (inP prio)) l 1, cntL (b.filter (inP prio)) l 2, cntL (b.filter (inP prio)) l 3, cntL (b.filter (inP prio)) l 4, cntL (b.filter (inP prio)) l 5] := by
    simp only [cntL_O]; rfl
  rw [hp] at g
  have HCC := Lib.hid hcc
  have gh : ∀ k id W, Below w.heap.size w W → Calls Tryz.prog 37 #[.slice al l.length cl, .int .i64 k, .agg (idL id).toArray] W fun e w' => e = .returned (.bool (hasO l k id)) ∧ Below W.heap.size W w' := fun k id W hB => has_any al cl l k id W (hl.below hB)
  have GH := Lib.hid gh
  have G := Lib.hid g
  have HR := Lib.hid hb
  have hcap := hb.1
  have hmax := hb.2.1
  unfold maxLen at hmax
  clear g gh hv hp hcr hcc hd hb hl
  have q0 : ((0 : Int) != 0) = false := rfl
  have hmk : ∀ w, (Instr.makeSlice 45 (.int .i64 6) (.int .i64 6)).run Tryz.prog w = .ok (.slice (some ⟨w.heap.size, 0, none⟩) 6 6) (w.alloc (.cells #[.int .i64 0, .int .i64 0, .int .i64 0, .int .i64 0, .int .i64 0, .int .i64 0] 3)) := fun w => by kernel_rfl
  go_enter Tryz.func44, Tryz.ntmps44
  go_wp2_with (go_at_call 72; (with_reducible refine (G.out).mono ?_); rintro e w2 ⟨rfl, h2⟩)
  obtain ⟨o, ho⟩ : ∃ o, o = w2.heap.size := ⟨_, rfl⟩
  obtain ⟨u0, hu0⟩ : ∃ u, u = w2.alloc (.cells #[.int .i64 0, .int .i64 0, .int .i64 0, .int .i64 0, .int .i64 0, .int .i64 0] 3) := ⟨_, rfl⟩
  have ko : blk u0 o = some (outI (cntL ((b.take 0).filter (inP prio)) l)) := by rw [hu0, ho]; exact blk_alloc_new _ _ _ rfl
  have B0 : Below w.heap.size w u0 := by rw [hu0]; exact h2.alloc h2.size _
  have hwo : w.heap.size ≤ o := by rw [ho]; exact h2.size
  rw [← hu0, ← ho]
  have KO := Lib.hid ko
  clear hu0 ho h2 hmk ko G
  go_loopw [10] (fun i wr => ∃ j : Nat, i = .int .i64 j ∧ j ≤ b.length ∧ Below w.heap.size w wr ∧ Hid (blk wr o = some (outI (cntL ((b.take j).filter (inP prio)) l)))) (fun i _ => b.length - (intOf i).toNat)
  case atStart => exact ⟨0, rfl, Nat.zero_le _, B0, KO⟩
  case round =>
    clear B0 KO
    obtain ⟨j, rfl, hj, hB, HM⟩ := hrel
    by_cases hlt : j < b.length
    · have hltz : (j : Int) < (b.length : Int) := by omega
      obtain ⟨g, off, hab, hbl, hcs⟩ := (HR.out.below hB).2.2.2 (by omega)
      subst hab
      obtain ⟨x, hx⟩ : ∃ x, x = b[j] := ⟨_, rfl⟩
      have hr := hcs j hlt
      rw [← hx] at hr
      have hsn := filter_snoc (inP prio) b j hlt
      rw [← hx] at hsn
      have HSN := Lib.hid hsn
      have cp : wr.cell? ⟨g, off + j * 9 + 4, none⟩ = some (.int .i64 x.pr) := hr 4 _ rfl
      have c0 : wr.cell? ⟨g, off + j * 9, none⟩ = some (.int .i64 x.no) := by simpa using hr 0 _ rfl
      have c1 : wr.cell? ⟨g, off + j * 9 + 1, none⟩ = some (.int .u64 x.sq) := hr 1 _ rfl
      have c2 : wr.cell? ⟨g, off + j * 9 + 2, none⟩ = some (.int .i64 x.of) := hr 2 _ rfl
      have hun : undef = Value.tuple #[] := rfl
      have hfl : ((b.take j).filter (inP prio)).length ≤ 1000 := Nat.le_trans (List.length_filter_le _ _) (by rw [List.length_take]; omega)
      have HFL := Lib.hid hfl
      clear hx hcs hsn hr hfl
      by_cases hin : inP prio x = true
      · rw [hin] at HSN
        have hcase : (decide (0 ≤ prio) = false) ∨ (decide (0 ≤ prio) = true ∧ (x.pr != prio) = false) := by
          unfold inP at hin
          by_cases h : prio < 0
          · exact .inl (decide_eq_false (by omega))
          · right
            refine ⟨decide_eq_true (by omega), ?_⟩
            simp [h] at hin
            simp [hin]
        clear hin
        go_upto_region 8 with fail
        go_cut [42] from 32 to 41 (fun s42 wq => s42 = .bool false ∧ wq = wr)
        case first =>
          rcases hcase with h | ⟨h, h2⟩
          · go_wp2
            go_meet
            case rel => exact ⟨rfl, rfl⟩
          · go_wp2
            go_meet
            case rel => exact ⟨rfl, rfl⟩
        case rest =>
        obtain ⟨rfl, rfl⟩ := hcut
        clear hcase cp
        have gx : ∀ k W, Below w.heap.size w W → Calls Tryz.prog 37 #[.slice al l.length cl, .int .i64 k, .agg #[.int .i64 x.no, .int .u64 x.sq, .int .i64 x.of]] W fun e w' => e = .returned (.bool (hasO l k (bid x))) ∧ Below W.heap.size W w' := fun k W hB => GH.out k (bid x) W hB
        have HMK : Hid (∀ p, p < 6 → markO l (bid x) p = mk6 (hasO l 1 (bid x)) (hasO l 2 (bid x) || (hasO l 3 (bid x) || hasO l 4 (bid x))) (hasO l 8 (bid x)) (hasO l 9 (bid x)) (hasO l 1 (bid x) && (!hasO l 8 (bid x) && !hasO l 9 (bid x))) (!hasO l 1 (bid x) && !(hasO l 2 (bid x) || (hasO l 3 (bid x) || hasO l 4 (bid x)))) p) := Lib.hid (fun p hp => mark_mk6 l (bid x) hp)
        have g1 := gx 1
        obtain ⟨q1, hq1⟩ : ∃ q, hasO l 1 (bid x) = q := ⟨_, rfl⟩
        rw [hq1] at g1 HMK
        have G1 := Lib.hid g1
        have g2 := gx 2
        obtain ⟨q2, hq2⟩ : ∃ q, hasO l 2 (bid x) = q := ⟨_, rfl⟩
        rw [hq2] at g2 HMK
        have G2 := Lib.hid g2
        have g3 := gx 3
        obtain ⟨q3, hq3⟩ : ∃ q, hasO l 3 (bid x) = q := ⟨_, rfl⟩
        rw [hq3] at g3 HMK
        have G3 := Lib.hid g3
        have g4 := gx 4
        obtain ⟨q4, hq4⟩ : ∃ q, hasO l 4 (bid x) = q := ⟨_, rfl⟩
        rw [hq4] at g4 HMK
        have G4 := Lib.hid g4
        have g8 := gx 8
        obtain ⟨q8, hq8⟩ : ∃ q, hasO l 8 (bid x) = q := ⟨_, rfl⟩
        rw [hq8] at g8 HMK
        have G8 := Lib.hid g8
        have g9 := gx 9
        obtain ⟨q9, hq9⟩ : ∃ q, hasO l 9 (bid x) = q := ⟨_, rfl⟩
        rw [hq9] at g9 HMK
        have G9 := Lib.hid g9
        clear gx g1 g2 g3 g4 g8 g9 hq1 hq2 hq3 hq4 hq8 hq9
        obtain ⟨OUT, hOUT⟩ : ∃ O, O = outI (cntL ((b.take j).filter (inP prio)) l) := ⟨_, rfl⟩
        have hm := HM.out
        rw [← hOUT] at hm
        have HO := Lib.hid hOUT
        have lo := blk_lt hm
        have sB := hB.size
        clear hOUT HM
        obtain ⟨c9, hc9⟩ : ∃ c, c = wc.heap.size := ⟨_, rfl⟩
        go_upto_region 10 with fail
        obtain ⟨u1, hu1⟩ : ∃ u, u = wc.alloc (.cells #[.int .i64 x.no, .int .u64 x.sq, .int .i64 x.of] 52) := ⟨_, rfl⟩
        have kk : blk u1 c9 = some #[.int .i64 x.no, .int .u64 x.sq, .int .i64 x.of] ∧ blk u1 o = some OUT := by rw [hu1]; exact ⟨blk_alloc_new _ _ _ hc9, blk_alloc hm _⟩
        have B1 : Below w.heap.size w u1 := by rw [hu1]; exact hB.alloc hB.size _
        have hoc : o ≠ c9 := by omega
        rw [← hu1, ← hc9]
        have KK := Lib.hid kk
        have nk := kn kk.1
        clear hu1 kk hm hc9 hB hbl c0 c1 c2
        go_upto_region 11 with (go_at_call 37; (with_reducible refine (G1.out _ B1).mono ?_); rintro e u2 ⟨rfl, h2⟩; (have KK2 := Lib.hid (And.intro (blk_below h2 KK.out.1) (blk_below h2 KK.out.2))); (have B2 := bt B1 h2); clear nk h2; (have nk := kn KK2.out.1))
        clear KK B1
        go_cut [13] from 51 to 63 (fun s13 wq => s13 = .bool (q2 || (q3 || q4)) ∧ Hid (blk wq c9 = some #[.int .i64 x.no, .int .u64 x.sq, .int .i64 x.of] ∧ blk wq o = some OUT) ∧ Below w.heap.size w wq)
        case first =>
          cases q2
          · cases q3
            · go_wp2_with (first
                | (go_at_call 37; (with_reducible refine (G2.out _ B2).mono ?_); rintro e u3 ⟨rfl, h3⟩; (have KK3 := Lib.hid (And.intro (blk_below h3 KK2.out.1) (blk_below h3 KK2.out.2))); (have B3 := bt B2 h3); clear nk h3; (have nk := kn KK3.out.1))
                | (go_at_call 37; (with_reducible refine (G3.out _ B3).mono ?_); rintro e u4 ⟨rfl, h4⟩; (have KK4 := Lib.hid (And.intro (blk_below h4 KK3.out.1) (blk_below h4 KK3.out.2))); (have B4 := bt B3 h4); clear nk h4; (have nk := kn KK4.out.1))
                | (go_at_call 37; (with_reducible refine (G4.out _ B4).mono ?_); rintro e u5 ⟨rfl, h5⟩; (have KK5 := Lib.hid (And.intro (blk_below h5 KK4.out.1) (blk_below h5 KK4.out.2))); (have B5 := bt B4 h5); clear nk h5))
              (try simp only [← hun])
              go_meet
              case rel => exact ⟨rfl, KK5, B5⟩
            · go_wp2_with (first
                | (go_at_call 37; (with_reducible refine (G2.out _ B2).mono ?_); rintro e u3 ⟨rfl, h3⟩; (have KK3 := Lib.hid (And.intro (blk_below h3 KK2.out.1) (blk_below h3 KK2.out.2))); (have B3 := bt B2 h3); clear nk h3; (have nk := kn KK3.out.1))
                | (go_at_call 37; (with_reducible refine (G3.out _ B3).mono ?_); rintro e u4 ⟨rfl, h4⟩; (have KK4 := Lib.hid (And.intro (blk_below h4 KK3.out.1) (blk_below h4 KK3.out.2))); (have B4 := bt B3 h4); clear nk h4))
              (try simp only [← hun])
              go_meet
              case rel => exact ⟨rfl, KK4, B4⟩
          · go_wp2_with (go_at_call 37; (with_reducible refine (G2.out _ B2).mono ?_); rintro e u3 ⟨rfl, h3⟩; (have KK3 := Lib.hid (And.intro (blk_below h3 KK2.out.1) (blk_below h3 KK2.out.2))); (have B3 := bt B2 h3); clear nk h3)
            (try simp only [← hun])
            go_meet
            case rel => exact ⟨rfl, KK3, B3⟩
        case rest =>
        obtain ⟨rfl, KK3, B3⟩ := hcut
        obtain ⟨nn, hnn⟩ : ∃ q, (q2 || (q3 || q4)) = q := ⟨_, rfl⟩
        rw [hnn] at HMK
        rw [hnn]
        clear hnn G1 G2 G3 G4 nk KK2 B2
        go_upto_region 12 with fail
        refine wp_region_in (by kernel_rfl) (by kernel_rfl) ?_
        intro W0 hE hN
        have q0' : blk W0 c9 = some #[.int .i64 x.no, .int .u64 x.sq, .int .i64 x.of] ∧ blk W0 o = some OUT := (by rw [hE.out]; exact KK3.out)
        have qB : Below w.heap.size w W0 := (by rw [hE.out]; exact B3)
        have n0 := calm_kn q0'.1
        clear hE KK3 B3
        repeat (go_big_quiet_step (first | (go_at_call 37; (with_reducible refine Class.go _ (G8.out _ (bt qB (Class.ok _))))) | (go_at_call 37; (with_reducible refine Class.go _ (G9.out _ (bt qB (Class.ok _)))))))
        refine wpQuiet_nil ?_
        rintro _ ⟨x', rfl⟩
        have B4 := bt qB x'.ok
        have KK4 := Lib.hid (And.intro (blk_below x'.ok q0'.1) (blk_below x'.ok q0'.2))
        obtain ⟨u, hu⟩ : ∃ u, u = x'.wd := ⟨_, rfl⟩
        rw [← hu] at B4 KK4 ⊢
        clear hu x' hN q0' qB n0 G8 G9
        go_upto_region 13 with fail
        go_cut [16] from 70 to 89 (fun s16 wq => ∃ M, s16 = .slice (some ⟨M, 0, none⟩) 6 6 ∧ M ≠ o ∧ w.heap.size ≤ M ∧ Hid (blk wq M = some #[.bool q1, .bool nn, .bool q8, .bool q9, .bool (q1 && (!q8 && !q9)), .bool (!q1 && !nn)] ∧ blk wq o = some OUT) ∧ Below w.heap.size w wq)
        case first =>
          have lo2 := blk_lt KK4.out.2
          have sB4 := B4.size
          cases q1 <;> cases q8 <;> cases q9 <;> cases nn <;> (go_wp2; (try simp only [← hun]); go_meet; case rel => exact ⟨u.heap.size, rfl, by omega, sB4, Lib.hid ⟨blk_alloc_new _ _ _ rfl, blk_alloc KK4.out.2 _⟩, by (repeat (first | (with_reducible assumption) | (with_reducible exact Below.refl _ _) | (with_reducible refine beld_drew ?_) | ((with_reducible refine bset' ?_ ?_); (first | (focus (dsimp only; assumption)) | (focus (simp; done)) | (focus (dsimp only; omega)))) | (with_reducible refine belt_alloc ?_) | ((with_reducible refine zeroed_below' ?_ ?_); (first | (focus (simp; done)) | (focus (dsimp only; omega)))) | (with_reducible refine bt ?_ (by assumption))))⟩)
        case rest =>
        obtain ⟨M, rfl, hMo, hMw, KM, B5⟩ := hcut
        obtain ⟨m4, hm4⟩ : ∃ q, (q1 && (!q8 && !q9)) = q := ⟨_, rfl⟩
        obtain ⟨m5, hm5⟩ : ∃ q, (!q1 && !nn) = q := ⟨_, rfl⟩
        rw [hm4, hm5] at HMK KM
        clear hm4 hm5 KK4 B4
        have hsn : ∀ p, p < 6 → cntL ((b.take (j + 1)).filter (inP prio)) l p = cntL ((b.take j).filter (inP prio)) l p + if mk6 q1 nn q8 q9 m4 m5 p then 1 else 0 := fun p hp => by
          have h9 := HSN.out
          rw [if_pos (by first | trivial | rfl)] at h9
          rw [h9, cntL_snoc, HMK.out p hp]
        have HSN2 := Lib.hid hsn
        obtain ⟨F0, hF0⟩ : ∃ F, F = cntL ((b.take j).filter (inP prio)) l := ⟨_, rfl⟩
        obtain ⟨F1, hF1⟩ : ∃ F, F = cntL ((b.take (j + 1)).filter (inP prio)) l := ⟨_, rfl⟩
        have hbd : ∀ p, 0 ≤ F0 p ∧ F0 p ≤ 1000 := fun p => by
          have h1 := cntL_le ((b.take j).filter (inP prio)) l p
          have h2 := HFL.out
          rw [hF0]; omega
        rw [← hF0, ← hF1] at HSN2
        rw [← hF0] at HO
        have HBD := Lib.hid hbd
        have HF1 := Lib.hid hF1
        have KM2 : Hid (blk wc M = some #[.bool q1, .bool nn, .bool q8, .bool q9, .bool m4, .bool m5] ∧ blk wc o = some (outI (fun i => if i < 0 then F1 i else F0 i))) := Lib.hid ⟨KM.out.1, by rw [KM.out.2, HO.out]; simp⟩
        clear hsn hF0 hF1 hbd HO KM HSN HMK HFL
        (try simp only [← hun])
        clear hun
        go_wp2
        go_loopw [17] (fun s17 wr => ∃ p : Nat, s17 = .int .i64 p ∧ p ≤ 6 ∧ Below w.heap.size w wr ∧ Hid (blk wr M = some #[.bool q1, .bool nn, .bool q8, .bool q9, .bool m4, .bool m5] ∧ blk wr o = some (outI (fun i => if i < p then F1 i else F0 i)))) (fun s17 _ => 6 - (intOf s17).toNat)
        case atStart => exact ⟨0, rfl, Nat.zero_le _, B5, KM2⟩
        case round =>
          clear KM2 B5
          obtain ⟨p, rfl, hp6, hB, HQ⟩ := hrel
          by_cases hp : p < 6
          · have hpz : (p : Int) < 6 := by omega
            have km : wr.cell? ⟨M, p, none⟩ = some (.bool (mk6 q1 nn q8 q9 m4 m5 p)) := (blk_cell HQ.out.1 p).trans (mk6_cell _ _ _ _ _ _ hp)
            have hs := HSN2.out p hp
            have hb9 := HBD.out p
            obtain ⟨q, hq⟩ : ∃ q, mk6 q1 nn q8 q9 m4 m5 p = q := ⟨_, rfl⟩
            rw [hq] at km hs
            obtain ⟨cv, hcv⟩ : ∃ c, F0 p = c := ⟨_, rfl⟩
            rw [hcv] at hs hb9
            have HSN := Lib.hid hs
            have HCV := Lib.hid hcv
            have b1 : 0 ≤ cv := hb9.1
            have b2 : cv ≤ 1000 := hb9.2
            have kc : wr.cell? ⟨o, p, none⟩ = some (.int .i64 cv) := by
              have := blk_cell HQ.out.2 p
              rw [outI_at _ hp, if_neg (Nat.lt_irrefl p), hcv] at this
              exact this
            have kf : wr.frozen? ⟨o, p, none⟩ = false := blk_frozen HQ.out.2 p
            clear hq hs hcv hb9
            have nxt : ∀ W : World, blk W o = some (outI (fun i => if i < p then F1 i else if i = p then F1 p else F0 i)) → blk W o = some (outI (fun i => if i < p + 1 then F1 i else F0 i)) := fun W h => by
              rw [h]
              congr 2
              funext i
              by_cases h1 : i < p
              · rw [if_pos h1, if_pos (by omega)]
              · by_cases h2 : i = p
                · subst h2; rw [if_neg h1, if_pos rfl, if_pos (by omega)]
                · rw [if_neg h1, if_neg h2, if_neg (by omega)]
            have NXT := Lib.hid nxt
            clear nxt
            cases q
            · have hE : Hid (blk wr M = some #[.bool q1, .bool nn, .bool q8, .bool q9, .bool m4, .bool m5] ∧ blk wr o = some (outI (fun i => if i < p + 1 then F1 i else F0 i))) := Lib.hid ⟨HQ.out.1, NXT.out _ (by
                rw [HQ.out.2]
                congr 2
                funext i
                by_cases h1 : i < p
                · rw [if_pos h1, if_pos h1]
                · by_cases h2 : i = p
                  · subst h2; rw [if_neg h1, if_neg h1, if_pos rfl, HSN.out, HCV.out]; simp
                  · rw [if_neg h1, if_neg h1, if_neg h2])⟩
              go_wp2
              go_roundw
              case rel => exact ⟨p + 1, by go_num, by omega, hB, hE⟩
              case measure => simp [intOf]; omega
            · have hE : Hid (blk (wr.setCell ⟨o, p, none⟩ (.int .i64 (cv + 1))) M = some #[.bool q1, .bool nn, .bool q8, .bool q9, .bool m4, .bool m5] ∧ blk (wr.setCell ⟨o, p, none⟩ (.int .i64 (cv + 1))) o = some (outI (fun i => if i < p + 1 then F1 i else F0 i))) := Lib.hid ⟨blk_other HQ.out.1 hMo, NXT.out _ (by
                have h8 := blk_set (i := p) (v := .int .i64 (cv + 1)) HQ.out.2
                rw [outI_set _ hp] at h8
                refine h8.trans ?_
                congr 2
                funext i
                by_cases h2 : i = p
                · subst h2; rw [if_pos rfl, if_neg (Nat.lt_irrefl i), if_pos rfl, HSN.out]; simp
                · rw [if_neg h2]
                  by_cases h1 : i < p
                  · rw [if_pos h1, if_pos h1]
                  · rw [if_neg h1, if_neg h1, if_neg h2])⟩
              have hB' : Below w.heap.size w (wr.setCell ⟨o, p, none⟩ (.int .i64 (cv + 1))) := hB.setCell hwo _
              clear HQ hB
              go_wp2
              go_roundw
              case rel => exact ⟨p + 1, by go_num, by omega, hB', hE⟩
              case measure => simp [intOf]; omega
          · obtain rfl : p = 6 := by omega
            have hE : Hid (blk wr o = some (outI (cntL ((b.take (j + 1)).filter (inP prio)) l))) := Lib.hid (by rw [← HF1.out]; exact HQ.out.2)
            go_wp2
            go_roundw
            case rel => exact ⟨j + 1, by go_num, by omega, hB, hE⟩
            case measure => simp [intOf]; omega
      · have hin' : inP prio x = false := by simpa using hin
        rw [hin'] at HSN
        have h0 : decide (0 ≤ prio) = true := decide_eq_true (by unfold inP at hin'; simp at hin'; omega)
        have h1 : (x.pr != prio) = true := by unfold inP at hin'; simp at hin'; simp [hin'.2]
        have hM2 : Hid (blk wr o = some (outI (cntL ((b.take (j + 1)).filter (inP prio)) l))) := Lib.hid (by
          rw [HSN.out]; simpa using HM.out)
        clear hin hin' HM HSN c0 c1 c2 hbl
        go_wp2
        go_roundw
        case rel => exact ⟨j + 1, by go_num, by omega, hB, hM2⟩
        case measure => simp [intOf]; omega
    · obtain rfl : j = b.length := by omega
      have ko := HM.out
      rw [List.take_length] at ko
      have KO := Lib.hid ko
      clear ko HM
      go_wp2
      go_ret2
      exact ⟨o, _, rfl, KO.out, HCC.out, hB⟩
end Go.Proofs.YthfmkkkdjgkaoaaGreatDoor
namespace Go.Proofs.YthfmkkkdjgkaoaaGreatDoor
open Go.RowKit
open Go.Lib (decDigits nDigits)
theorem dec_step {n : Nat} (h : 10 ≤ n) : decDigits n = decDigits (n / 10) ++ [UInt8.ofNat (48 + n % 10)] := by
  rw [decDigits, dif_neg (by omega)]
def restD (n : Nat) : List UInt8 := if n = 0 then [] else decDigits n
theorem restD_step {n : Nat} (h : 0 < n) : restD n = restD (n / 10) ++ [UInt8.ofNat (48 + n % 10)] := by
  unfold restD
  rw [if_neg (by omega)]
  by_cases h1 : n < 10
  · rw [if_pos (by omega), Lib.decDigits_one h1, show n % 10 = n by omega]; rfl
  · rw [if_neg (by omega), dec_step (by omega)]
def emS (v : Value) : Nat := match v with | .string a => if a.size = 0 then 1 else 0 | _ => 0
theorem dec_len20 {n : Nat} (h : n < 9223372036854775808) : (decDigits n).length ≤ 20 := by
  rw [Lib.decDigits_length]; exact Lib.nDigits_le20 _ (by omega)
set_option maxRecDepth 100000 in
set_option maxHeartbeats 3200000 in
theorem rdig_any (n : Nat) (hn : n < 9223372036854775808) (w : World) :
    Calls Tryz.prog 46 #[.int .u64 (n : Int)] w fun e w' => ∃ D : ByteArray, e = .returned (.string D) ∧ D.data.toList = decDigits n ∧ Below w.heap.size w w' := by
  have hob := fun x w => one_byte (P := Tryz.prog) Tryz.underlying85 Tryz.underlying5 Tryz.underlying9 x w
  have hl20 := dec_len20 hn
  go_enter Tryz.func46, Tryz.ntmps46
  go_wp2
  go_loopw [0, 3] (fun s0 s3 wr => ∃ (m : Nat) (A : ByteArray), s0 = .int .u64 (m : Int) ∧ s3 = .string A ∧ m < 9223372036854775808 ∧ Hid ((A.data.toList = [] ∧ m = n) ∨ (A.data.toList ≠ [] ∧ restD m ++ A.data.toList = decDigits n)) ∧ Below w.heap.size w wr) (fun s0 s3 _ => (intOf s0).toNat * 2 + emS s3)
  case atStart => exact ⟨n, ⟨#[]⟩, rfl, rfl, hn, Lib.hid (.inl ⟨rfl, rfl⟩), Below.refl _ _⟩
  case round =>
    obtain ⟨m, A, rfl, rfl, hm, HD, hB⟩ := hrel
    have hdl : A.data.toList.length = A.size := Array.length_toList
    have hA : A.size ≤ 20 := by
      rw [← hdl]
      rcases HD.out with ⟨h1, _⟩ | ⟨_, h2⟩
      · rw [h1]; simp
      · have h3 := congrArg List.length h2
        rw [List.length_append] at h3
        omega
    have step : ∀ (X : ByteArray), X.data.toList = UInt8.ofNat (48 + m % 10) :: A.data.toList → (m = 0 → A.data.toList = []) → X.data.toList ≠ [] ∧ restD (m / 10) ++ X.data.toList = decDigits n := by
      intro X hX h0
      refine ⟨by rw [hX]; simp, ?_⟩
      rw [hX]
      rcases HD.out with ⟨h1, rfl⟩ | ⟨h1, h2⟩
      · rw [h1]
        by_cases hz : m = 0
        · subst hz; rw [Lib.decDigits_one (show 0 < 10 by omega)]; rfl
        · have h3 := restD_step (n := m) (by omega)
          rw [← h3]
          unfold restD; rw [if_neg hz]
      · have hz : m ≠ 0 := fun h => h1 (h0 h)
        rw [← h2, restD_step (n := m) (by omega)]
        simp
    have HST := Lib.hid step
    have e1 : ((m : Int)).tmod 10 = ((m % 10 : Nat) : Int) := by rw [Int.tmod_eq_emod_of_nonneg (by omega)]; simp
    have e2 : ((m : Int)).tdiv 10 = ((m / 10 : Nat) : Int) := by rw [Int.tdiv_eq_ediv_of_nonneg (by omega)]; simp
    have hq10 : m % 10 < 10 := Nat.mod_lt _ (by omega)
    obtain ⟨q, hq⟩ : ∃ q, m % 10 = q := ⟨_, rfl⟩
    obtain ⟨r, hr⟩ : ∃ q, m / 10 = q := ⟨_, rfl⟩
    have hrm : r ≤ m := by omega
    have hr0 : m = 0 → r = 0 := by omega
    have hr1 : 0 < m → r < m := by omega
    rw [hq] at e1 hq10 HST
    rw [hr] at e2 HST
    have w1 : IntKind.u64.wrap (q : Int) = (q : Int) := IntWalk.u64_in _ (by omega)
    have w2 : IntKind.u64.wrap (48 + (q : Int)) = 48 + (q : Int) := IntWalk.u64_in _ (by omega)
    have w3 : IntKind.u8.wrap (48 + (q : Int)) = 48 + (q : Int) := by rw [IntKind.wrap_u8']; omega
    have w4 : IntKind.u64.wrap (r : Int) = (r : Int) := IntWalk.u64_in _ (by omega)
    have hb : (⟨#[UInt8.ofNat (48 + (q : Int)).toNat]⟩ : ByteArray) = ⟨#[UInt8.ofNat (48 + q)]⟩ := by rw [show (48 + (q : Int)).toNat = 48 + q by omega]
    have hob1 := fun w => hob (48 + (q : Int)) w
    rw [hb] at hob1
    obtain ⟨C, hC⟩ : ∃ C : ByteArray, (⟨#[UInt8.ofNat (48 + q)]⟩ : ByteArray) = C := ⟨_, rfl⟩
    rw [hC] at hob1
    have hCs : C.size = 1 := by rw [← hC]; rfl
    have hov : ¬ (9223372036854775807 < C.size + A.size) := by omega
    have hcat : (C ++ A).data.toList = UInt8.ofNat (48 + q) :: A.data.toList := by rw [← hC, ByteArray.data_append]; simp
    have HCA := Lib.hid hcat
    have HCS := Lib.hid hCs
    have hcs : (C ++ A).size = 1 + A.size := by rw [ByteArray.size_append, hCs]
    have HCZ := Lib.hid hcs
    have hun : undef = Value.tuple #[] := rfl
    clear hb hC hCs hcat hq hr step hob hcs
    by_cases hm0 : 0 < m
    · have hz : (0 : Int) < (m : Int) := by omega
      have HR := Lib.hid (hr1 hm0)
      have hnew := HST.out (C ++ A) HCA.out (fun h => by omega)
      have HNEW := Lib.hid hnew
      clear hnew HST hr0 hr1 hrm HD hdl
      go_wp2
      (try simp only [← hun])
      clear hun
      go_roundw
      case rel => exact ⟨r, C ++ A, by simp, rfl, by have := HR.out; omega, Lib.hid (.inr HNEW.out), by (repeat (first | (with_reducible assumption) | (with_reducible exact Below.refl _ _) | (with_reducible refine beld_drew ?_) | ((with_reducible refine bset' ?_ ?_); (first | (focus (dsimp only; assumption)) | (focus (simp; done)) | (focus (dsimp only; omega)))) | (with_reducible refine belt_alloc ?_) | ((with_reducible refine zeroed_below' ?_ ?_); (first | (focus (simp; done)) | (focus (dsimp only; omega)))) | (with_reducible refine bt ?_ (by assumption))))⟩
      case measure =>
        have h9 := HR.out
        have h8 : emS (Value.string (C ++ A)) ≤ 1 := by unfold emS; split <;> (try split) <;> omega
        simp [intOf]
        omega
    · have hz : ¬ (0 : Int) < (m : Int) := by omega
      rcases HD.out with ⟨h1, h2⟩ | ⟨h1, h2⟩
      · have hA0 : A = ⟨#[]⟩ := by
          obtain ⟨⟨L⟩⟩ := A
          simp at h1
          subst h1
          rfl
        have hmz : m = 0 := by omega
        have hnew := HST.out (C ++ A) HCA.out (fun _ => h1)
        have HNEW := Lib.hid hnew
        have HR := Lib.hid (hr0 hmz)
        have HMZ := Lib.hid hmz
        have hcz := HCZ.out
        rw [hA0] at HNEW hcz
        subst hA0
        have HCZ2 := Lib.hid hcz
        clear hnew HST hr0 hr1 hrm HD hdl h1 h2 hmz hun hcz
        go_wp2
        go_roundw
        case rel => exact ⟨r, C ++ ⟨#[]⟩, by simp, rfl, by have := HR.out; omega, Lib.hid (.inr HNEW.out), by (repeat (first | (with_reducible assumption) | (with_reducible exact Below.refl _ _) | (with_reducible refine beld_drew ?_) | ((with_reducible refine bset' ?_ ?_); (first | (focus (dsimp only; assumption)) | (focus (simp; done)) | (focus (dsimp only; omega)))) | (with_reducible refine belt_alloc ?_) | ((with_reducible refine zeroed_below' ?_ ?_); (first | (focus (simp; done)) | (focus (dsimp only; omega)))) | (with_reducible refine bt ?_ (by assumption))))⟩
        case measure =>
          have h9 := HR.out
          have h8 : emS (Value.string (C ++ ⟨#[]⟩)) = 0 := by
            have h7 := HCZ2.out
            show (if (C ++ (⟨#[]⟩ : ByteArray)).size = 0 then 1 else 0) = 0
            rw [if_neg]; rw [h7]; omega
          have h7 : emS (Value.string ⟨#[]⟩) = 1 := rfl
          simp [intOf]
          omega
      · have hmz : m = 0 := by omega
        have hfin : A.data.toList = decDigits n := by
          rw [hmz] at h2
          have : restD 0 = [] := rfl
          rw [this, List.nil_append] at h2
          exact h2
        have hn1 : ¬ (A = ⟨#[]⟩) := fun h => h1 (by rw [h])
        have hn3 : ∀ W, Sem.run Tryz.prog (binOp BinOp.eql 9 (.string A) (.string ⟨#[]⟩)) W = .ok (.bool false) W := by
          intro W
          go_simp
          rw [Go.ByteArray.toList_eq]
          exact h1
        have hn4 : ¬ (A.toList = []) := by rw [Go.ByteArray.toList_eq]; exact h1
        have hn5 : (A.toList == []) = false := by simpa using hn4
        have hn6 : A.toList.isEmpty = false := by rw [List.isEmpty_eq_false_iff]; exact hn4
        have HF := Lib.hid hfin
        clear HST hr0 hr1 hrm HD hdl h1 h2 hmz hun hfin HCA HCS HCZ
        go_wp2
        go_ret
        exact ⟨A, rfl, HF.out, hB⟩
end Go.Proofs.YthfmkkkdjgkaoaaGreatDoor
namespace Go.Proofs.YthfmkkkdjgkaoaaGreatDoor
open Go.RowKit
def nodK (b : List Bn) (l : List Oc) (k : Nat) : List Int := ((List.range k).map fun (i : Nat) => (i : Int) + 1).filter (madO b l)
theorem nodK_succ (b : List Bn) (l : List Oc) (k : Nat) : nodK b l (k + 1) = nodK b l k ++ if madO b l ((k : Int) + 1) = true then [(k : Int) + 1] else [] := by
  unfold nodK
  rw [List.range_succ, List.map_append, List.filter_append]
  congr 1
  cases h : madO b l ((k : Int) + 1) <;> simp [h]
theorem nodK_len (b : List Bn) (l : List Oc) (k : Nat) : (nodK b l k).length ≤ k := by
  unfold nodK
  exact Nat.le_trans (List.length_filter_le _ _) (by simp)
def smK (b : List Bn) (l : List Oc) (k : Nat) : Int := sumI ((nodK b l k).map (svcO b l))
def sqK (b : List Bn) (l : List Oc) (k : Nat) : Int := sumI ((nodK b l k).map fun n => svcO b l n * svcO b l n)
theorem smK_succ (b : List Bn) (l : List Oc) (k : Nat) : smK b l (k + 1) = smK b l k + if madO b l ((k : Int) + 1) = true then svcO b l ((k : Int) + 1) else 0 := by
  unfold smK
  rw [nodK_succ, List.map_append, sumI_app]
  congr 1
  split <;> simp [sumI]
theorem sqK_succ (b : List Bn) (l : List Oc) (k : Nat) : sqK b l (k + 1) = sqK b l k + if madO b l ((k : Int) + 1) = true then svcO b l ((k : Int) + 1) * svcO b l ((k : Int) + 1) else 0 := by
  unfold sqK
  rw [nodK_succ, List.map_append, sumI_app]
  congr 1
  split <;> simp [sumI]
theorem fK_bd {b : List Bn} {l : List Oc} (h : ∀ x ∈ b, x.da.size ≤ 1000) (hl : b.length ≤ 1000) : ∀ k, (0 ≤ smK b l k ∧ smK b l k ≤ (k : Int) * 1000000) ∧ (0 ≤ sqK b l k ∧ sqK b l k ≤ (k : Int) * 1000000000000)
  | 0 => by simp [smK, sqK, nodK, sumI]
  | k + 1 => by
    obtain ⟨h1, h2⟩ := fK_bd (l := l) h hl k
    have hs := svc_le (l := l) h hl ((k : Int) + 1)
    have hq : 0 ≤ svcO b l ((k : Int) + 1) * svcO b l ((k : Int) + 1) ∧ svcO b l ((k : Int) + 1) * svcO b l ((k : Int) + 1) ≤ 1000000 * 1000000 := ⟨Int.mul_nonneg hs.1 hs.1, Int.mul_le_mul hs.2 hs.2 hs.1 (by omega)⟩
    rw [smK_succ, sqK_succ]
    split <;> omega
theorem fai_K (b : List Bn) (l : List Oc) : faiO b l = if smK b l 16 = 0 then (1, 1) else (smK b l 16 * smK b l 16 / (Int.gcd (smK b l 16 * smK b l 16) (((nodK b l 16).length : Int) * sqK b l 16) : Int), ((nodK b l 16).length : Int) * sqK b l 16 / (Int.gcd (smK b l 16 * smK b l 16) (((nodK b l 16).length : Int) * sqK b l 16) : Int)) := rfl
theorem mad_take {b : List Bn} {l : List Oc} {i : Nat} (h : i < b.length) (k : Int) : madO (b.take (i + 1)) l k = (madO (b.take i) l k || (decide (b[i].no = k) && hasO l 1 (bid b[i]))) := by
  rw [List.take_succ_eq_append_getElem h, mad_snoc]
theorem svc_take {b : List Bn} {l : List Oc} {i : Nat} (h : i < b.length) (k : Int) : svcO (b.take (i + 1)) l k = svcO (b.take i) l k + if decide (b[i].no = k) && hasO l 8 (bid b[i]) then (b[i].da.size : Int) else 0 := by
  rw [List.take_succ_eq_append_getElem h, svc_snoc]
set_option maxRecDepth 100000 in
set_option maxHeartbeats 12800000 in
theorem rfair43_ok (ab al : Option Addr) (cb cl : Nat) (b : List Bn) (l : List Oc) (hv : RunV b l) (hd : ∀ x ∈ b, x.da.size ≤ maxLen) (w : World) (hb : SRow bn 9 w ab cb b) (hl : SRow oc 7 w al cl l) :
    Calls Tryz.prog 15 #[.slice ab b.length cb, .slice al l.length cl] w fun e w' => e = .returned (.tuple #[.int .u64 (faiO b l).1, .int .u64 (faiO b l).2, .int .i64 0]) ∧ Below w.heap.size w w' := by
  have hda : ∀ x ∈ b, x.da.size ≤ 1000 := fun y hy => by obtain ⟨j, hj, rfl⟩ := List.getElem_of_mem hy; exact (node_bd (hv.bun j hj)).2
  have GC : Hid (∀ W, Below w.heap.size w W → Calls Tryz.prog 32 #[.slice ab b.length cb, .slice al l.length cl] W fun e w' => e = .returned (.tuple #[.int .i64 0, .int .i64 0]) ∧ Below W.heap.size W w') := Lib.hid fun W hB => by
    have h := rrcheck_any ab al cb cl b l hd W (hb.below hB) (hl.below hB)
    rwa [runC_ok hv] at h
  have GH : Hid (∀ k (x : Bn) W, Below w.heap.size w W → Calls Tryz.prog 37 #[.slice al l.length cl, .int .i64 k, .agg #[.int .i64 x.no, .int .u64 x.sq, .int .i64 x.of]] W fun e w' => e = .returned (.bool (hasO l k (bid x))) ∧ Below W.heap.size W w') := Lib.hid fun k x W hB => has_any al cl l k (bid x) W (hl.below hB)
  have HBD := Lib.hid (fK_bd (l := l) hda hv.len)
  have HSV := Lib.hid (fun i k => svc_le (b := b.take i) (l := l) (fun x hx => hda x (List.mem_of_mem_take hx)) (by have := hv.len; rw [List.length_take]; omega) k)
  have HSV0 := Lib.hid (fun k => svc_le (b := b) (l := l) hda hv.len k)
  have HR := Lib.hid hb
  have HDA := Lib.hid hda
  have hlen := hv.len
  have hcap := hb.1
  have hmax := hb.2.1
  unfold maxLen at hmax
  have q0 : ((0 : Int) != 0) = false := rfl
  clear hb hl hd hv hda
  go_enter Tryz.func15, Tryz.ntmps15
  go_upto_region 4 with (go_at_call 32; (with_reducible refine (GC.out _ (Below.refl _ _)).mono ?_); rintro e w1 ⟨rfl, h1⟩)
  clear GC q0
  go_wp2
  go_loopw [9, 10, 11, 12] (fun s9 s10 s11 s12 wr => ∃ k : Nat, s12 = .int .i64 ((k : Int) + 1) ∧ k ≤ 16 ∧ s9 = .int .u64 ((nodK b l k).length : Int) ∧ s10 = .int .u64 (smK b l k) ∧ s11 = .int .u64 (sqK b l k) ∧ Below w.heap.size w wr) (fun _ _ _ s12 _ => 17 - (intOf s12).toNat)
  case atStart => exact ⟨0, rfl, by omega, rfl, rfl, rfl, h1⟩
  case round =>
    clear h1
    obtain ⟨k, rfl, hk, rfl, rfl, rfl, hB⟩ := hrel
    by_cases hlt : k < 16
    · have hkz : (k : Int) + 1 ≤ 16 := by omega
      have hn1 := nodK_succ b l k
      have hs1 := smK_succ b l k
      have hq1 := sqK_succ b l k
      have hnl := nodK_len b l k
      obtain ⟨hb1, hb2⟩ := HBD.out k
      obtain ⟨N, hN⟩ : ∃ N : Int, (k : Int) + 1 = N := ⟨_, rfl⟩
      rw [hN] at hn1 hs1 hq1
      have hnl1 : (nodK b l (k + 1)).length = (nodK b l k).length + if madO b l N = true then 1 else 0 := by rw [hn1, List.length_append]; split <;> rfl
      have HNL := Lib.hid hnl1; have HS1 := Lib.hid hs1; have HQ1 := Lib.hid hq1
      have HN := Lib.hid hN
      have hN16 : N ≤ 16 := by omega
      rw [hN] at hkz ⊢
      have B0 : Below wr.heap.size wr wr := Below.refl _ _
      obtain ⟨nl, hnl9⟩ : ∃ n : Nat, (nodK b l k).length = n := ⟨_, rfl⟩
      obtain ⟨sm, hsm9⟩ : ∃ n, smK b l k = n := ⟨_, rfl⟩
      obtain ⟨sq, hsq9⟩ : ∃ n, sqK b l k = n := ⟨_, rfl⟩
      rw [hnl9] at HNL hnl ⊢
      rw [hsm9] at HS1 hb1 ⊢
      rw [hsq9] at HQ1 hb2 ⊢
      obtain ⟨W1, hW1⟩ : ∃ W, W = wr := ⟨_, rfl⟩
      rw [← hW1] at hB B0
      have HW1 := Lib.hid hW1
      clear hn1 hs1 hq1 hnl1 hN hnl9 hsm9 hsq9 hW1
      go_wp2
      go_loopw [13, 14, 15] (fun s13 s14 s15 wr => ∃ i : Nat, s15 = .int .i64 i ∧ i ≤ b.length ∧ s13 = .bool (madO (b.take i) l N) ∧ s14 = .int .u64 (svcO (b.take i) l N) ∧ Below W1.heap.size W1 wr) (fun _ _ s15 _ => b.length - (intOf s15).toNat)
      case atStart => exact ⟨0, rfl, by omega, rfl, rfl, by rw [HW1.out]; exact Below.refl _ _⟩
      case round =>
        clear B0 HW1
        obtain ⟨i, rfl, hi, rfl, rfl, hBi⟩ := hrel
        by_cases hil : i < b.length
        · have hiz : (i : Int) < (b.length : Int) := by omega
          have hBw := bt hB hBi
          obtain ⟨g, off, hab, hgl, hcs⟩ := (HR.out.below hBw).2.2.2 (by omega)
          subst hab
          have hr := hcs i hil
          have hmt := mad_take (l := l) hil N
          have hst := svc_take (l := l) hil N
          have hsv := HSV.out i N
          have hdx := HDA.out b[i] (List.getElem_mem _)
          obtain ⟨x, hx⟩ : ∃ x, x = b[i] := ⟨_, rfl⟩
          rw [← hx] at hr hmt hst hdx
          have G1 := Lib.hid (GH.out 1 x)
          have G8 := Lib.hid (GH.out 8 x)
          have k0 : wr.cell? ⟨g, off + i * 9, none⟩ = some (.int .i64 x.no) := hr 0 _ rfl
          have k1 : wr.cell? ⟨g, off + i * 9 + 1, none⟩ = some (.int .u64 x.sq) := hr 1 _ rfl
          have k2 : wr.cell? ⟨g, off + i * 9 + 2, none⟩ = some (.int .i64 x.of) := hr 2 _ rfl
          have k8 : wr.cell? ⟨g, off + i * 9 + 8, none⟩ = some (.string x.da) := hr 8 _ rfl
          obtain ⟨M, hM⟩ : ∃ M, madO (b.take i) l N = M := ⟨_, rfl⟩
          obtain ⟨V, hV⟩ : ∃ M, svcO (b.take i) l N = M := ⟨_, rfl⟩
          rw [hM] at hmt ⊢
          rw [hV] at hst hsv ⊢
          have hun : undef = Value.tuple #[] := rfl
          by_cases hno : x.no = N
          · have t0 : (x.no != N) = false := by simpa using hno
            rw [decide_eq_true hno, Bool.true_and] at hmt hst
            obtain ⟨q1, hq1⟩ : ∃ q, hasO l 1 (bid x) = q := ⟨_, rfl⟩
            obtain ⟨q8, hq8⟩ : ∃ q, hasO l 8 (bid x) = q := ⟨_, rfl⟩
            rw [hq1] at G1 hmt
            rw [hq8] at G8 hst
            have HMT := Lib.hid hmt; have HST := Lib.hid hst
            have c1 : IntKind.u64.wrap (x.da.size : Int) = (x.da.size : Int) := IntWalk.u64_in _ (by omega)
            have c2 : IntKind.u64.wrap (V + (x.da.size : Int)) = V + (x.da.size : Int) := IntWalk.u64_in _ (by omega)
            have hgw := hgl
            have hr9 := fun (W : World) (hW : Below wr.heap.size wr W) => range_below hgl hr hW
            have HR9 := Lib.hid hr9
            clear hcs hr hmt hst hsv hdx hx hM hV hno hq1 hq8 hr9
            cases M
            · go_upto_region 15 with (go_at_call 37; (with_reducible refine (G1.out _ hBw).mono ?_); rintro e w3 ⟨rfl, h3⟩)
              have hB3 := bt hBw h3
              have hBi3 := bt hBi h3
              have m0 : w3.cell? ⟨g, off + i * 9, none⟩ = some (.int .i64 x.no) := HR9.out w3 h3 0 _ rfl
              have m1 : w3.cell? ⟨g, off + i * 9 + 1, none⟩ = some (.int .u64 x.sq) := HR9.out w3 h3 1 _ rfl
              have m2 : w3.cell? ⟨g, off + i * 9 + 2, none⟩ = some (.int .i64 x.of) := HR9.out w3 h3 2 _ rfl
              clear k0 k1 k2 k8
              go_upto_if 60 with (go_at_call 37; (with_reducible refine (G8.out _ hB3).mono ?_); rintro e w4 ⟨rfl, h4⟩)
              have m8 : w4.cell? ⟨g, off + i * 9 + 8, none⟩ = some (.string x.da) := HR9.out w4 (bt h3 h4) 8 _ rfl
              have HBI4 := Lib.hid (bt hBi3 h4)
              clear m0 m1 m2 h3 h4 hB3 hBi3 hBi hBw
              cases q8
              · go_wp2
                (try simp only [← hun])
                clear hun
                go_roundw
                case rel => first | exact ⟨i + 1, by go_num, by omega, by rw [HMT.out]; simp, by rw [HST.out]; simp, HBI4.out⟩ | exact ⟨_, _, _, ⟨i + 1, rfl, by omega, rfl, rfl, HBI4.out⟩, by rw [HMT.out]; simp, by rw [HST.out]; simp, by simp⟩
                case measure => simp [intOf]; omega
              · go_wp2
                (try simp only [← hun])
                clear hun
                go_roundw
                case rel => first | exact ⟨i + 1, by go_num, by omega, by rw [HMT.out]; simp, by rw [HST.out]; simp, HBI4.out⟩ | exact ⟨_, _, _, ⟨i + 1, rfl, by omega, rfl, rfl, HBI4.out⟩, by rw [HMT.out]; simp, by rw [HST.out]; simp, by simp⟩
                case measure => simp [intOf]; omega
            · go_upto_region 15 with fail
              go_upto_if 60 with (go_at_call 37; (with_reducible refine (G8.out _ hBw).mono ?_); rintro e w4 ⟨rfl, h4⟩)
              have m8 : w4.cell? ⟨g, off + i * 9 + 8, none⟩ = some (.string x.da) := HR9.out w4 h4 8 _ rfl
              have HBI4 := Lib.hid (bt hBi h4)
              clear k0 k1 k2 k8 h4 hBi hBw
              cases q8
              · go_wp2
                (try simp only [← hun])
                clear hun
                go_roundw
                case rel => first | exact ⟨i + 1, by go_num, by omega, by rw [HMT.out]; simp, by rw [HST.out]; simp, HBI4.out⟩ | exact ⟨_, _, _, ⟨i + 1, rfl, by omega, rfl, rfl, HBI4.out⟩, by rw [HMT.out]; simp, by rw [HST.out]; simp, by simp⟩
                case measure => simp [intOf]; omega
              · go_wp2
                (try simp only [← hun])
                clear hun
                go_roundw
                case rel => first | exact ⟨i + 1, by go_num, by omega, by rw [HMT.out]; simp, by rw [HST.out]; simp, HBI4.out⟩ | exact ⟨_, _, _, ⟨i + 1, rfl, by omega, rfl, rfl, HBI4.out⟩, by rw [HMT.out]; simp, by rw [HST.out]; simp, by simp⟩
                case measure => simp [intOf]; omega
          · have t0 : (x.no != N) = true := by simpa using hno
            rw [decide_eq_false hno, Bool.false_and, Bool.or_false] at hmt
            rw [decide_eq_false hno, Bool.false_and] at hst
            have HMT := Lib.hid hmt; have HST := Lib.hid hst
            clear hcs hr hmt hst hsv hdx hx hM hV hno hun k1 k2 k8
            go_wp2
            go_roundw
            case rel => exact ⟨i + 1, by go_num, by omega, by rw [HMT.out], by rw [HST.out]; simp, hBi⟩
            case measure => simp [intOf]; omega
        · have hiz : ¬ (i : Int) < (b.length : Int) := by omega
          have hib : i = b.length := by omega
          have em : madO (b.take i) l N = madO b l N := by rw [hib, List.take_length]
          have es : svcO (b.take i) l N = svcO b l N := by rw [hib, List.take_length]
          have hsv := HSV0.out N
          rw [em, es]
          obtain ⟨M, hM⟩ : ∃ M, madO b l N = M := ⟨_, rfl⟩
          obtain ⟨V, hV⟩ : ∃ M, svcO b l N = M := ⟨_, rfl⟩
          rw [hM] at HNL HS1 HQ1 ⊢
          rw [hV] at hsv HS1 HQ1 ⊢
          have hVV : 0 ≤ V * V ∧ V * V ≤ 1000000 * 1000000 := ⟨Int.mul_nonneg hsv.1 hsv.1, Int.mul_le_mul hsv.2 hsv.2 hsv.1 (by omega)⟩
          have c1 : IntKind.u64.wrap ((nl : Int) + 1) = (nl : Int) + 1 := IntWalk.u64_in _ (by omega)
          have c2 : IntKind.u64.wrap (sm + V) = sm + V := IntWalk.u64_in _ (by omega)
          have c3 : IntKind.u64.wrap (V * V) = V * V := IntWalk.u64_in _ (by omega)
          have c4 : IntKind.u64.wrap (sq + V * V) = sq + V * V := IntWalk.u64_in _ (by omega)
          have hB9 := bt hB hBi
          have HNN : Hid (N + 1 = ((k + 1 : Nat) : Int) + 1) := Lib.hid (by rw [← HN.out]; omega)
          have w9 : IntKind.i64.wrap (N + 1) = N + 1 := by have h9 := HN.out; exact IntWalk.i64_in _ (by omega)
          have hms : 17 - (N + 1).toNat < 17 - N.toNat := by have h9 := HN.out; omega
          clear hM hV hsv hVV hib em es hB hBi
          cases M
          · go_wp2
            go_roundw
            case rel => exact ⟨k + 1, by rw [HNN.out], by omega, by rw [HNL.out]; simp, by rw [HS1.out]; simp, by rw [HQ1.out]; simp, hB9⟩
            case measure => simpa [intOf] using hms
          · go_wp2
            go_roundw
            case rel => exact ⟨k + 1, by rw [HNN.out], by omega, by rw [HNL.out]; simp, by rw [HS1.out]; simp, by rw [HQ1.out]; simp, hB9⟩
            case measure => simpa [intOf] using hms
    · have hkz : ¬ (k : Int) + 1 ≤ 16 := by omega
      have hk16 : k = 16 := by omega
      obtain ⟨hb1, hb2⟩ := HBD.out k
      have hnl := nodK_len b l k
      have hf := fai_K b l
      rw [← hk16] at hf
      obtain ⟨M, hM⟩ : ∃ n : Nat, (nodK b l k).length = n := ⟨_, rfl⟩
      obtain ⟨S, hS⟩ : ∃ n : Nat, smK b l k = (n : Int) := ⟨(smK b l k).toNat, by omega⟩
      obtain ⟨R, hR⟩ : ∃ n : Nat, sqK b l k = (n : Int) := ⟨(sqK b l k).toNat, by omega⟩
      rw [hM] at hf hnl ⊢
      rw [hS] at hf hb1 ⊢
      rw [hR] at hf hb2 ⊢
      have hS2 : S ≤ 16000000 := by omega
      have hR2 : R ≤ 16000000000000 := by omega
      have hX : S * S ≤ 16000000 * 16000000 := Nat.mul_le_mul hS2 hS2
      have hY : M * R ≤ 16 * 16000000000000 := Nat.mul_le_mul (by omega) hR2
      have gd := fun W => rdiv_any (S * S) (M * R) (by omega) (by omega) W
      by_cases hs0 : S = 0
      · subst hs0
        rw [if_pos (show ((0 : Nat) : Int) = 0 from rfl)] at hf
        have HF := Lib.hid hf
        clear hf gd hM hS hR hX hY hk16 hb1 hb2 hnl
        go_wp2
        go_ret3
        exact ⟨by rw [HF.out] <;> rfl, hB⟩
      · have t0 : ((S : Int) == 0) = false := by simp; omega
        rw [if_neg (by omega)] at hf
        have hgc : Int.gcd ((S : Int) * (S : Int)) ((M : Int) * (R : Int)) = Nat.gcd (S * S) (M * R) := by rw [← Int.natCast_mul, ← Int.natCast_mul]; rfl
        rw [hgc, ← Int.natCast_mul, ← Int.natCast_mul] at hf
        have hX0 : 0 < S * S := Nat.mul_pos (by omega) (by omega)
        have eX : IntKind.u64.wrap ((S : Int) * (S : Int)) = ((S * S : Nat) : Int) := by rw [IntWalk.u64_in _ (by rw [← Int.natCast_mul]; omega)]; simp
        have eY : IntKind.u64.wrap ((M : Int) * (R : Int)) = ((M * R : Nat) : Int) := by rw [IntWalk.u64_in _ (by rw [← Int.natCast_mul]; omega)]; simp
        have hg0 : 0 < Nat.gcd (S * S) (M * R) := Nat.gcd_pos_of_pos_left _ hX0
        obtain ⟨G, hG⟩ : ∃ g, Nat.gcd (S * S) (M * R) = g := ⟨_, rfl⟩
        obtain ⟨X, hXX⟩ : ∃ g, S * S = g := ⟨_, rfl⟩
        obtain ⟨Y, hYY⟩ : ∃ g, M * R = g := ⟨_, rfl⟩
        rw [hG] at hf hg0 gd
        rw [hXX] at hf gd eX hX
        rw [hYY] at hf gd eY hY
        have GD := Lib.hid gd
        have z0 : ((G : Int) == 0) = false := by simp; omega
        have d1 : (X : Int).tdiv (G : Int) = (X : Int) / (G : Int) := Int.tdiv_eq_ediv_of_nonneg (by omega)
        have d2 : (Y : Int).tdiv (G : Int) = (Y : Int) / (G : Int) := Int.tdiv_eq_ediv_of_nonneg (by omega)
        have n1 := Int.ediv_nonneg (show (0 : Int) ≤ X by omega) (show (0 : Int) ≤ G by omega)
        have n2 := Int.ediv_nonneg (show (0 : Int) ≤ Y by omega) (show (0 : Int) ≤ G by omega)
        have n3 := Int.ediv_le_self (G : Int) (show (0 : Int) ≤ X by omega)
        have n4 := Int.ediv_le_self (G : Int) (show (0 : Int) ≤ Y by omega)
        obtain ⟨P1, hP1⟩ : ∃ g, (X : Int) / (G : Int) = g := ⟨_, rfl⟩
        obtain ⟨P2, hP2⟩ : ∃ g, (Y : Int) / (G : Int) = g := ⟨_, rfl⟩
        rw [hP1] at d1 n1 n3 hf
        rw [hP2] at d2 n2 n4 hf
        have v1 : IntKind.u64.wrap P1 = P1 := IntWalk.u64_in _ (by omega)
        have v2 : IntKind.u64.wrap P2 = P2 := IntWalk.u64_in _ (by omega)
        have HF := Lib.hid hf
        have hGi : ¬ ((G : Int) = 0) := by omega
        have hGn : ¬ (G = 0) := by omega
        clear hf gd hM hS hR hX hY hk16 hb1 hb2 hnl hs0 hgc hX0 hg0 hG hXX hYY n1 n2 n3 n4 hS2 hR2
        go_upto_region 24 with (go_at_call 38; (with_reducible refine (GD.out _).mono ?_); rintro e w5 ⟨rfl, h5⟩)
        have hB5 := bt hB h5
        clear h5 hB
        refine wp_region_in (by kernel_rfl) (by kernel_rfl) ?_
        intro W0 hE hN
        repeat (go_big_quiet_step (fail))
        refine wpQuiet_nil ?_
        rintro _ ⟨x', rfl⟩
        have hB9 : Below w.heap.size w x'.wd := bt hB5 (by rw [← hE.out]; exact x'.ok)
        clear hE hN
        obtain ⟨u9, hu⟩ : ∃ u, u = x'.wd := ⟨_, rfl⟩
        rw [← hu] at hB9 ⊢
        clear hu x'
        go_wp2
        go_ret3
        exact ⟨by rw [HF.out] <;> rfl, hB9⟩
set_option maxRecDepth 100000 in
set_option maxHeartbeats 1600000 in
theorem rfair43_any (ab al : Option Addr) (cb cl : Nat) (b : List Bn) (l : List Oc) (hd : ∀ x ∈ b, x.da.size ≤ maxLen) (w : World) (hb : SRow bn 9 w ab cb b) (hl : SRow oc 7 w al cl l) :
    Calls Tryz.prog 15 #[.slice ab b.length cb, .slice al l.length cl] w fun e w' => e = .returned (.tuple #[.int .u64 (faiP b l).1, .int .u64 (faiP b l).2, .int .i64 (runC b l).1]) ∧ Below w.heap.size w w' := by
  unfold faiP
  by_cases h0 : (runC b l).1 = 0
  · rw [if_pos h0, h0]
    exact rfair43_ok ab al cb cl b l (runC_zero h0) hd w hb hl
  · rw [if_neg h0]
    have GC := Lib.hid (rrcheck_any ab al cb cl b l hd w hb hl)
    obtain ⟨r1, hr1⟩ : ∃ r, (runC b l).1 = r := ⟨_, rfl⟩
    obtain ⟨r2, hr2⟩ : ∃ r, (runC b l).2 = r := ⟨_, rfl⟩
    rw [hr1] at h0 ⊢
    rw [hr1, hr2] at GC
    have q0 : (r1 != 0) = true := by simpa using h0
    clear hr1 hr2 h0 hd hb hl
    go_enter Tryz.func15, Tryz.ntmps15
    go_wp2_with (go_at_call 32; (with_reducible refine (GC.out).mono ?_); rintro e w1 ⟨rfl, h1⟩)
    go_ret3
    exact ⟨rfl, h1⟩
end Go.Proofs.YthfmkkkdjgkaoaaGreatDoor
