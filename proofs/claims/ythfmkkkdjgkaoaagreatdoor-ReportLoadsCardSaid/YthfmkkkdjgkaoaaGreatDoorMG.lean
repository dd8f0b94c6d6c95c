/- Parts of a proof, printed by a program of mine out of my texts: RpChk. -/
import Derived.Test.YthfmkkkdjgkaoaaGreatDoorMB
import Derived.Test.YthfmkkkdjgkaoaaGreatDoorMF
import Derived.Test.YthfmkkkdjgkaoaaGreatDoorMM
import Derived.Test.YthfmkkkdjgkaoaaGreatDoorMU
set_option linter.unusedSimpArgs false
set_option linter.unusedVariables false
namespace Go.Proofs.YthfmkkkdjgkaoaaGreatDoor
open Go.RowKit
def useB (k : Int) : Bool := decide (k ≠ 5) && decide (k ≤ 10)
set_option maxRecDepth 100000 in
theorem usesID_any (k : Int) (w : World) : Calls Tryz.prog 57 #[.int .i64 k] w fun e w' => e = .returned (.bool (useB k)) ∧ w = w' := by
  by_cases h5 : k = 5
  · have e : useB k = false := by simp [useB, h5]
    rw [e]
    have t : (k != 5) = false := by simp [h5]
    clear e h5
    go_enter Tryz.func57, Tryz.ntmps57
    go_wp2
    go_ret
    exact ⟨rfl, rfl⟩
  · have e : useB k = decide (k ≤ 10) := by simp [useB, h5]
    rw [e]
    have t : (k != 5) = true := by simp [h5]
    clear e h5
    go_enter Tryz.func57, Tryz.ntmps57
    go_wp2
    go_ret
    exact ⟨rfl, rfl⟩
theorem useB_one {o : Oc} (h : oneC o = 0) : useB o.ki = useI o.ki := by
  have h1 : ¬ (o.ki < 1 ∨ 15 < o.ki) := fun hk => by
    unfold oneC at h
    rw [if_pos hk] at h
    exact absurd h (by decide)
  unfold useB useI
  have : decide (1 ≤ o.ki) = true := decide_eq_true (by omega)
  rw [this, Bool.true_and, Bool.and_comm]
def tru (k : Id3) : Value := .bool true
theorem getT (ks : List Id3) (k : Id3) : getM (mpf ks tru) k (.bool false) = .bool (decide (k ∈ ks)) := by
  rw [getM_mpf]; by_cases h : k ∈ ks <;> simp [h, tru]
theorem putT {ks : List Id3} (hn : ks.Nodup) {k : Id3} (h : k ∉ ks) : putM (mpf ks tru) k (.bool true) = mpf (ks ++ [k]) tru := by
  rw [putM_mpf hn]
  have e : insK ks k = ks ++ [k] := if_neg h
  rw [e]
  exact mpf_congr fun x _ => by unfold updK tru; split <;> rfl
theorem bcheck_b (x : Bn) (hd : x.da.size ≤ maxLen) (w : World) : Calls Tryz.prog 75 #[.agg #[.int .i64 x.no, .int .u64 x.sq, .int .i64 x.of, .int .i64 x.de, .int .i64 x.pr, .int .i64 x.bo, .int .i64 x.li, .int .i64 x.to, .string x.da]] w fun e w' => e = .returned (.int .i64 (bcode x)) ∧ Below w.heap.size w w' := check_any x.no x.sq x.of x.de x.pr x.bo x.li x.to x.da hd w
theorem ids_take {b : List Bn} (h : ∀ k < b.length, bunAt b k = 0) : ∀ j, j ≤ b.length → ((b.take j).map bid).Nodup
  | 0, _ => by simp
  | j + 1, hj => by
    have ih := ids_take h j (by omega)
    have h1 := h j (by omega)
    rw [bunAt_eq (by omega)] at h1
    rw [List.take_succ_eq_append_getElem (by omega), List.map_append, List.nodup_append]
    refine ⟨ih, by simp, fun a ha c hc e => ?_⟩
    simp only [List.map_cons, List.map_nil, List.mem_singleton] at hc
    subst hc; subst e
    split at h1
    · rename_i hx; exact hx h1
    · first | (cases h1; done) | (rw [if_pos ha] at h1; cases h1)
theorem ids_upto {b : List Bn} {j : Nat} (hj : j ≤ b.length) (h : ∀ k < j, bunAt b k = 0) : ((b.take j).map bid).Nodup := by
  have h2 : ∀ k < (b.take j).length, bunAt (b.take j) k = 0 := fun k hk => by
    have hkj : k < j := by rw [List.length_take] at hk; omega
    have := h k hkj
    rw [bunAt_eq (by omega)] at this
    rw [bunAt_eq hk, List.getElem_take, List.take_take, Nat.min_eq_left (by omega)]
    exact this
  have := ids_take h2 (b.take j).length (Nat.le_refl _)
  rwa [List.take_length] at this
set_option maxRecDepth 100000 in
set_option maxHeartbeats 6400000 in
theorem rcheck_any (ab al : Option Addr) (cb cl : Nat) (b : List Bn) (l : List Oc) (hd : ∀ x ∈ b, x.da.size ≤ maxLen) (w : World) (hT : FTab w) (hb : SRow bn 9 w ab cb b) (hl : SRow oc 7 w al cl l) :
    Calls Tryz.prog 47 #[.slice ab b.length cb, .slice al l.length cl] w fun e w' => e = .returned (.tuple #[.int .i64 (runC b l).1, .int .i64 (runC b l).2]) ∧ Below w.heap.size w w' := by
  have HR := Lib.hid hb
  have HL := Lib.hid hl
  have HT := Lib.hid hT
  have HD := Lib.hid hd
  clear hb hl hT hd
  by_cases h0 : 1000 < b.length
  · have e : runC b l = (5, 0) := by unfold runC; rw [if_pos h0]
    rw [e]
    have t0 : decide ((1000 : Int) < (b.length : Int)) = true := decide_eq_true (by omega)
    clear e
    go_enter Tryz.func47, Tryz.ntmps47
    go_wp2
    go_ret2
    exact ⟨rfl, Below.refl _ _⟩
  · have t0 : decide ((1000 : Int) < (b.length : Int)) = false := decide_eq_false (by omega)
    have hcap := HR.out.1
    have hmax := HR.out.2.1
    have hcapl := HL.out.1
    have hmaxl := HL.out.2.1
    unfold maxLen at hmax hmaxl
    go_enter Tryz.func47, Tryz.ntmps47
    have hmm := @run_makeMap Tryz.prog
    go_wp2
    have bm : Below w.heap.size w (w.alloc (.map #[] 0)) := (Below.refl _ _).alloc (Nat.le_refl _) _
    go_loopw [20] (fun i wr => ∃ j : Nat, i = .int .i64 j ∧ j ≤ b.length ∧ Below w.heap.size w wr ∧ Hid (mapAt wr w.heap.size (mpf ((b.take j).map bid) tru) ∧ ∀ k < j, bunAt b k = 0)) (fun i _ => b.length - (intOf i).toNat)
    case atStart => exact ⟨0, rfl, Nat.zero_le _, bm, Lib.hid ⟨mapAt_made w, fun k hk => absurd hk (by omega)⟩⟩
    case round =>
      obtain ⟨j, rfl, hj, hB, HM⟩ := hrel
      by_cases hlt : j < b.length
      · have hltz : (j : Int) < (b.length : Int) := by omega
        obtain ⟨g, off, hab, hbl, hcs⟩ := (HR.out.below hB).2.2.2 (by omega)
        subst hab
        obtain ⟨x, hx⟩ : ∃ x, x = b[j] := ⟨_, rfl⟩
        have hr := hcs j hlt
        rw [← hx] at hr
        have HX := Lib.hid hx
        clear hx hcs hmm
        go_upto_region 6 with fail
        refine wp_region_elem 54 (.tmp 23) (.tmp 22) (.int .i64 j) (.int .i64 j) g (off + j * 9) (bn x) #[.int .i64 0, .int .u64 0, .int .i64 0, .int .i64 0, .int .i64 0, .int .i64 0, .int .i64 0, .int .i64 0, .string ⟨#[]⟩] hr rfl rfl rfl (by go_simp) rfl rfl rfl _ Tryz.underlying54 rfl (by kernel_rfl) rfl (by kernel_rfl) rfl rfl rfl rfl _ _ rfl rfl rfl rfl (bn_one x) ?_
        intro c0 w1 hc0 kb hB1
        conv => arg 4; simp [Act.put]
        have hB2 : Below w.heap.size w w1 := bt hB hB1
        have kb : blk w1 c0 = some #[.int .i64 x.no, .int .u64 x.sq, .int .i64 x.of, .int .i64 x.de, .int .i64 x.pr, .int .i64 x.bo, .int .i64 x.li, .int .i64 x.to, .string x.da] := kb
        have hm2 := Lib.hid (HM.out.1.below hB1)
        have hA : bunAt b j = if bcode x ≠ 0 then bcode x else if bid x ∈ (b.take j).map bid then 9 else 0 := by rw [bunAt_eq hlt, HX.out]
        have g1 := bcheck_b x (by rw [HX.out]; exact HD.out _ (List.getElem_mem _)) w1
        obtain ⟨v, hv⟩ : ∃ v, bcode x = v := ⟨_, rfl⟩
        obtain ⟨tv, htv⟩ : ∃ v, bunAt b j = v := ⟨_, rfl⟩
        rw [hv] at g1 hA
        rw [htv] at hA
        have G1 := Lib.hid g1
        have HTV := Lib.hid htv
        have HA := Lib.hid hA
        have bad : tv ≠ 0 → runC b l = (tv, (j : Int)) := fun h => by
          unfold runC
          rw [if_neg h0, firC_at hlt HM.out.2 (by rw [HTV.out]; exact h), HTV.out]; rfl
        have BAD := Lib.hid bad
        have nk := kn kb
        clear hv g1 hr hc0 htv hA bad hB1 hbl hB
        by_cases hv0 : v = 0
        · subst hv0
          have q0 : ((0 : Int) != 0) = false := rfl
          by_cases hin : bid x ∈ (b.take j).map bid
          · have hgm : getM (mpf ((b.take j).map bid) tru) (x.no, x.sq, x.of) (.bool false) = .bool true := (getT _ (bid x)).trans (congrArg Value.bool (decide_eq_true hin))
            have htv : tv = 9 := by rw [HA.out, if_neg (by simp), if_pos hin]
            have he := BAD.out (by rw [htv]; decide)
            rw [htv] at he
            have HE := Lib.hid he
            clear htv he hin
            go_wp2_with (first | (go_at_call 75; (with_reducible refine (G1.out).mono ?_); rintro e w2 ⟨rfl, h2⟩; (have kb2 := blk_below h2 kb); clear nk; (have nk := kn kb2); (have hB3 := bt hB2 h2); (have hm3 := Lib.hid (hm2.out.below h2))) | (at_lookup; go_loud (refine wpList_lookId rfl _ _ 107 rfl 4 Tryz.underlying107 (.bool false) (by kernel_rfl) w.heap.size (mpf ((b.take j).map bid) tru) hm3.out (x.no, x.sq, x.of) rfl rfl ?_; rw [hgm])))
            go_ret2
            exact ⟨by rw [HE.out]; rfl, hB3⟩
          · have hgm : getM (mpf ((b.take j).map bid) tru) (x.no, x.sq, x.of) (.bool false) = .bool false := (getT _ (bid x)).trans (congrArg Value.bool (decide_eq_false hin))
            have htv : tv = 0 := by rw [HA.out, if_neg (by simp), if_neg hin]
            have stp : ∀ k < j + 1, bunAt b k = 0 := fun k hk => by
              rcases Nat.lt_or_ge k j with h5 | h5
              · exact HM.out.2 k h5
              · obtain rfl : k = j := by omega
                rw [HTV.out]; exact htv
            have hput : putM (mpf ((b.take j).map bid) tru) (x.no, x.sq, x.of) (.bool true) = mpf ((b.take (j + 1)).map bid) tru := by
              rw [List.take_succ_eq_append_getElem hlt, List.map_append, ← HX.out]
              exact putT (ids_upto (by omega) HM.out.2) hin
            have STP := Lib.hid stp
            have HPU := Lib.hid hput
            clear htv hin stp hput
            go_wp2_with (first | (go_at_call 75; (with_reducible refine (G1.out).mono ?_); rintro e w2 ⟨rfl, h2⟩; (have kb2 := blk_below h2 kb); clear nk; (have nk := kn kb2); (have hB3 := bt hB2 h2); (have hm3 := Lib.hid (hm2.out.below h2))) | (at_lookup; go_loud (refine wpList_lookId rfl _ _ 107 rfl 4 Tryz.underlying107 (.bool false) (by kernel_rfl) w.heap.size (mpf ((b.take j).map bid) tru) hm3.out (x.no, x.sq, x.of) rfl rfl ?_; rw [hgm])) | (at_mapUpdate; go_loud (refine wpList_putId rfl _ _ _ 107 rfl 4 Tryz.underlying107 w.heap.size (mpf ((b.take j).map bid) tru) hm3.out (x.no, x.sq, x.of) (.bool true) rfl rfl rfl ?_); intro w5 hm5 hg5))
            have hB5 : Below w.heap.size w w5 := hB3.grown hg5 hB3.size (fun k e => by cases e; exact Nat.le_refl _)
            rw [HPU.out] at hm5
            have hf2 := Lib.hid (And.intro hm5 STP.out)
            clear hm5 hgm
            go_wp2
            go_roundw
            case rel => exact ⟨j + 1, by go_num, by omega, hB5, hf2⟩
            case measure => simp [intOf]; omega
        · have q0 : (v != 0) = true := by simpa using hv0
          have htv : tv = v := by rw [HA.out, if_pos hv0]
          have he := BAD.out (by rw [htv]; exact hv0)
          rw [htv] at he
          have HE := Lib.hid he
          clear hv0 htv he
          go_wp2_with (go_at_call 75; (with_reducible refine (G1.out).mono ?_); rintro e w2 ⟨rfl, h2⟩)
          go_ret2
          exact ⟨by rw [HE.out]; rfl, bt hB2 h2⟩
      · obtain rfl : j = b.length := by omega
        have hnb : firC b.length (bunAt b) = none := firC_none HM.out.2
        have hM := HM.out.1
        rw [List.take_length] at hM
        have HMA := Lib.hid hM
        have gt : Calls Tryz.prog 76 #[.slice al l.length cl] wr fun e w' => e = .returned (.tuple #[.int .i64 (trcC l).1, .int .i64 (trcC l).2]) ∧ Below wr.heap.size wr w' := tcheck_any al cl l wr (HT.out.on hB) (HL.out.below hB)
        by_cases ht : (trcC l).1 = 0
        · have hrun : runC b l = (firC l.length (misAt b l)).getD (0, 0) := by
            unfold runC
            rw [if_neg h0, hnb, Option.getD_none, if_neg (by simp [ht])]
          have hone : ∀ k (h : k < l.length), oneC l[k] = 0 := by
            unfold trcC at ht
            split at ht
            · exact absurd ht (by decide)
            · intro k hk
              have h1 := firC_zero ht k hk
              rw [trcAt_eq hk] at h1
              refine Classical.byContradiction fun hc => ?_
              rw [if_pos hc] at h1; exact hc h1
          obtain ⟨t2, ht2⟩ : ∃ v, (trcC l).2 = v := ⟨_, rfl⟩
          rw [ht, ht2] at gt
          have GT := Lib.hid gt
          have HRUN := Lib.hid hrun
          have HONE := Lib.hid hone
          have q0 : ((0 : Int) != 0) = false := rfl
          clear gt ht ht2 hrun hone hnb hM HM hmm
          go_wp2_with (go_at_call 76; (with_reducible refine (GT.out).mono ?_); rintro e w2 ⟨rfl, h2⟩; (have hB2 := bt hB h2); (have HM2 := Lib.hid (HMA.out.below h2)); clear h2)
          clear GT hB HMA
          go_loopw [51] (fun i wr => ∃ j : Nat, i = .int .i64 j ∧ j ≤ l.length ∧ Below w.heap.size w wr ∧ Hid (mapAt wr w.heap.size (mpf (b.map bid) tru) ∧ ∀ k < j, misAt b l k = 0)) (fun i _ => l.length - (intOf i).toNat)
          case atStart => exact ⟨0, rfl, Nat.zero_le _, hB2, Lib.hid ⟨HM2.out, fun k hk => absurd hk (by omega)⟩⟩
          case round =>
            clear hB2 HM2
            obtain ⟨j, rfl, hj, hB, HM⟩ := hrel
            by_cases hlt : j < l.length
            · have hltz : (j : Int) < (l.length : Int) := by omega
              obtain ⟨g, off, hab, hbl, hcs⟩ := (HL.out.below hB).2.2.2 (by omega)
              subst hab
              obtain ⟨x, hx⟩ : ∃ x, x = l[j] := ⟨_, rfl⟩
              have hr := hcs j hlt
              rw [← hx] at hr
              have HX := Lib.hid hx
              clear hx hcs
              go_upto_region 19 with fail
              refine wp_region_elem 56 (.tmp 54) (.tmp 53) (.int .i64 j) (.int .i64 j) g (off + j * 7) (oc x) #[.int .i64 0, .int .i64 0, .int .i64 0, .int .i64 0, .int .u64 0, .int .i64 0, .int .i64 0] hr rfl rfl rfl (by go_simp) rfl rfl rfl _ Tryz.underlying56 rfl (by kernel_rfl) rfl (by kernel_rfl) rfl rfl rfl rfl _ _ rfl rfl rfl rfl (oc_one x) ?_
              intro c0 w1 hc0 kb hB1
              conv => arg 4; simp [Act.put]
              have hB2 : Below w.heap.size w w1 := bt hB hB1
              have kb : blk w1 c0 = some #[.int .i64 x.ti, .int .i64 x.no, .int .i64 x.ki, .int .i64 x.ino, .int .u64 x.isq, .int .i64 x.iof, .int .i64 x.ot] := kb
              have hm2 := Lib.hid (HM.out.1.below hB1)
              have hA : misAt b l j = if useI x.ki = true ∧ oid x ∉ b.map bid then 8 else 0 := by rw [misAt_eq hlt, HX.out]
              have gu := usesID_any x.ki w1
              rw [useB_one (by rw [HX.out]; exact HONE.out j hlt)] at gu
              obtain ⟨q, hq⟩ : ∃ v, useI x.ki = v := ⟨_, rfl⟩
              obtain ⟨tv, htv⟩ : ∃ v, misAt b l j = v := ⟨_, rfl⟩
              rw [hq] at gu hA
              rw [htv] at hA
              have GU := Lib.hid gu
              have HTV := Lib.hid htv
              have HA := Lib.hid hA
              have stp : tv = 0 → ∀ k < j + 1, misAt b l k = 0 := fun h k hk => by
                rcases Nat.lt_or_ge k j with h5 | h5
                · exact HM.out.2 k h5
                · obtain rfl : k = j := by omega
                  rw [HTV.out]; exact h
              have STP := Lib.hid stp
              have nk := kn kb
              clear hq gu hr hc0 htv hA stp hB1 hbl hB
              have hun : undef = Value.tuple #[] := rfl
              cases q
              · have htv : tv = 0 := by rw [HA.out, if_neg (by simp)]
                have HZ := Lib.hid htv
                clear htv HA
                go_wp2_with (go_at_call 57; (with_reducible refine (GU.out).mono ?_); rintro e w2 ⟨rfl, rfl⟩)
                (try simp only [← hun])
                clear hun
                go_roundw
                case rel => exact ⟨j + 1, by go_num, by omega, hB2, Lib.hid ⟨hm2.out, STP.out HZ.out⟩⟩
                case measure => simp [intOf]; omega
              · have lk : Sem.run Tryz.prog (Instr.lookup 107 (.map (some w.heap.size)) (.agg #[.int .i64 x.ino, .int .u64 x.isq, .int .i64 x.iof]) false) w1 = .ok (.bool (decide (oid x ∈ b.map bid))) w1 := (run_lookId (e := 4) (z := .bool false) Tryz.underlying107 (by kernel_rfl) hm2.out (oid x)).trans (by rw [getT])
                by_cases hin : oid x ∈ b.map bid
                · rw [decide_eq_true hin] at lk
                  have htv : tv = 0 := by rw [HA.out, if_neg (by simp [hin])]
                  have HZ := Lib.hid htv
                  clear htv HA hin
                  go_wp2_with (go_at_call 57; (with_reducible refine (GU.out).mono ?_); rintro e w2 ⟨rfl, rfl⟩)
                  (try simp only [← hun])
                  clear hun
                  go_roundw
                  case rel => exact ⟨j + 1, by go_num, by omega, hB2, Lib.hid ⟨hm2.out, STP.out HZ.out⟩⟩
                  case measure => simp [intOf]; omega
                · rw [decide_eq_false hin] at lk
                  have htv : tv = 8 := by rw [HA.out, if_pos (by simp [hin])]
                  have he : runC b l = (8, (j : Int)) := by
                    rw [HRUN.out, firC_at hlt HM.out.2 (by rw [HTV.out, htv]; decide), HTV.out, htv]; rfl
                  have HE := Lib.hid he
                  clear htv HA hin he
                  go_wp2_with (go_at_call 57; (with_reducible refine (GU.out).mono ?_); rintro e w2 ⟨rfl, rfl⟩)
                  (try simp only [← hun])
                  go_ret2
                  exact ⟨by rw [HE.out]; rfl, hB2⟩
            · obtain rfl : j = l.length := by omega
              have he : runC b l = (0, 0) := by rw [HRUN.out, firC_none HM.out.2]; rfl
              have HE := Lib.hid he
              clear he
              go_wp2
              go_ret2
              exact ⟨by rw [HE.out]; rfl, hB⟩
        · have he : runC b l = trcC l := by
            unfold runC
            rw [if_neg h0, hnb, Option.getD_none, if_pos ht]
          obtain ⟨t1, t2, htt⟩ : ∃ t1 t2, trcC l = (t1, t2) := ⟨_, _, rfl⟩
          rw [htt] at gt ht he
          have q0 : (t1 != 0) = true := by simpa using ht
          have GT := Lib.hid gt
          have HE := Lib.hid he
          clear gt ht he htt hnb hM hmm
          go_wp2_with (go_at_call 76; (with_reducible refine (GT.out).mono ?_); rintro e w2 ⟨rfl, h2⟩)
          go_ret2
          exact ⟨by rw [HE.out]; rfl, bt hB h2⟩
set_option maxRecDepth 100000 in
theorem open_any (ab al : Option Addr) (cb cl : Nat) (b : List Bn) (l : List Oc) (hd : ∀ x ∈ b, x.da.size ≤ maxLen) (w : World) (hT : FTab w) (hb : SRow bn 9 w ab cb b) (hl : SRow oc 7 w al cl l) :
    Calls Tryz.prog 30 #[.slice ab b.length cb, .slice al l.length cl] w fun e w' => e = .returned (.tuple #[.agg #[.slice ab b.length cb, .slice al l.length cl], .int .i64 (runC b l).1]) ∧ Below w.heap.size w w' := by
  have g : ∀ W, Below w.heap.size w W → Calls Tryz.prog 47 #[.slice ab b.length cb, .slice al l.length cl] W fun e w' => e = .returned (.tuple #[.int .i64 (runC b l).1, .int .i64 (runC b l).2]) ∧ Below W.heap.size W w' := fun W hB => rcheck_any ab al cb cl b l hd W (hT.on hB) (hb.below hB) (hl.below hB)
  obtain ⟨r, hr⟩ : ∃ r, runC b l = r := ⟨_, rfl⟩
  rw [hr] at g ⊢
  have G := Lib.hid g
  clear g hr hT hb hl hd
  go_enter Tryz.func30, Tryz.ntmps30
  go_wp2_with (go_at_call 47; (with_reducible refine (G.out _ (by (repeat (first | (with_reducible assumption) | (with_reducible exact Below.refl _ _) | (with_reducible refine beld_drew ?_) | ((with_reducible refine bset' ?_ ?_); (first | (focus (dsimp only; assumption)) | (focus (simp; done)) | (focus (dsimp only; omega)))) | (with_reducible refine belt_alloc ?_) | ((with_reducible refine zeroed_below' ?_ ?_); (first | (focus (simp; done)) | (focus (dsimp only; omega)))) | (with_reducible refine bt ?_ (by assumption)))))).mono ?_); rintro e w2 ⟨rfl, h2⟩; (have kb := blk_below h2 (blk_alloc_new w #[.slice none 0 0, .slice none 0 0] 70 rfl)); (have nb := kn kb); (have b2 : Below w.heap.size w w2 := (by (repeat (first | (with_reducible assumption) | (with_reducible exact Below.refl _ _) | (with_reducible refine beld_drew ?_) | ((with_reducible refine bset' ?_ ?_); (first | (focus (dsimp only; assumption)) | (focus (simp; done)) | (focus (dsimp only; omega)))) | (with_reducible refine belt_alloc ?_) | ((with_reducible refine zeroed_below' ?_ ?_); (first | (focus (simp; done)) | (focus (dsimp only; omega)))) | (with_reducible refine bt ?_ (by assumption)))))))
  refine ret_blk (b := w.heap.size) (c := #[.slice ab b.length cb, .slice al l.length cl]) (v := .tuple #[.agg #[.slice ab b.length cb, .slice al l.length cl], .int .i64 r.1]) (by (apply blk_to; (focus (repeat (first | (with_reducible assumption) | (with_reducible apply blk_drew) | (with_reducible apply blk_set) | ((with_reducible apply blk_other'); (first | (focus (dsimp only; assumption)) | (focus (simp; done)) | (focus (dsimp only; omega)))) | ((with_reducible apply blk_alloc_new); (first | (with_reducible rfl) | (focus (simp; done)) | (focus (simp; omega)))) | (with_reducible apply blk_alloc) | ((with_reducible apply blk_below); (with_reducible assumption))))); rfl)) (fun W' hc => by simp [results, Tryz.results30, go_sem, hc]) rfl ⟨rfl, by (repeat (first | (with_reducible assumption) | (with_reducible exact Below.refl _ _) | (with_reducible refine beld_drew ?_) | ((with_reducible refine bset' ?_ ?_); (first | (focus (dsimp only; assumption)) | (focus (simp; done)) | (focus (dsimp only; omega)))) | (with_reducible refine belt_alloc ?_) | ((with_reducible refine zeroed_below' ?_ ?_); (first | (focus (simp; done)) | (focus (dsimp only; omega)))) | (with_reducible refine bt ?_ (by assumption))))⟩
end Go.Proofs.YthfmkkkdjgkaoaaGreatDoor
