/- Parts of a proof, printed by a program of mine out of my texts: SoSortA. -/
import Derived.Great.Walk
import Derived.Test.YtahopnlibmiafaaDoorMB
import Derived.Test.YtahopnlibmiafaaDoorMSc
import Derived.Test.YtahopnlibmiafaaDoorMSoSrtD
set_option linter.unusedSimpArgs false
set_option linter.unusedVariables false
namespace Go.Proofs.YtahopnlibmiafaaDoor
open Go.RowKit
set_option maxRecDepth 100000 in
set_option maxHeartbeats 3200000 in
theorem sort_any (a : Option Addr) (cap : Nat) (l : List Bn) (hl : l.length ≤ 40) (hd : ∀ b ∈ l, b.da.size ≤ maxLen) (w : World) (hrow : SRow bn 9 w a cap l) :
    Calls Tryd.prog 14 #[.slice a l.length cap] w fun e w' => RetB (srtB l) w e w' := by
  obtain ⟨i0, hi, hz0, hz1, hz2⟩ := info_parts infoRk
  have Hi := Lib.hid hi; have Hz0 := Lib.hid hz0; have Hz1 := Lib.hid hz1; have Hz2 := Lib.hid hz2
  obtain ⟨i2, hi', hz0', hz1', hz2'⟩ := info_parts infoBu
  have Hj := Lib.hid hi'; have Hy0 := Lib.hid hz0'; have Hy1 := Lib.hid hz1'; have Hy2 := Lib.hid hz2'
  clear hi hz0 hz1 hz2 hi' hz0' hz1' hz2'
  have HD := Lib.hid hd
  have HR := Lib.hid hrow
  clear hd hrow
  go_enter Tryd.func14, Tryd.ntmps14
  go_wp2
  go_loopw [4, 13] (fun o i wr => ∃ j : Nat, i = .int .i64 j ∧ j ≤ l.length ∧ Below w.heap.size w wr ∧ Hid (wr.ownsRow w.heap.size 81 9 o j (rowC bn (l.take j))) ∧ Hid (∀ i (hi : i < l.length), i < j → bcode l[i] = 0)) (fun _ i _ => l.length - (intOf i).toNat)
  case atStart => exact ⟨0, rfl, Nat.zero_le _, Below.refl _ _, Lib.hid (by simpa [rowC] using World.ownsRow_nil w _ _ _), Lib.hid (fun i hi h => absurd h (by omega))⟩
  case round =>
    obtain ⟨j, rfl, hj, hB, hown, HC⟩ := hrel
    by_cases hlt : j < l.length
    · have hltz : (j : Int) < (l.length : Int) := by omega
      obtain ⟨b, off, hab, hbl, hcs⟩ := HR.out.2.2.2 (by omega)
      subst hab
      obtain ⟨x, hx⟩ : ∃ x, x = l[j] := ⟨_, rfl⟩
      have hr := hcs j hlt
      rw [← hx] at hr
      have hrw := range_below hbl hr hB
      have hdx : x.da.size ≤ maxLen := by rw [hx]; exact HD.out _ (List.getElem_mem _)
      obtain ⟨c, hc⟩ : ∃ c, bcode x = c := ⟨_, rfl⟩
      have ck : ∀ w, Calls Tryd.prog 54 #[.agg #[.int .i64 x.no, .int .u64 x.sq, .int .i64 x.of, .int .i64 x.de, .int .i64 x.pr, .int .i64 x.bo, .int .i64 x.li, .int .i64 x.to, .string x.da]] w fun e w' => e = .returned (.int .i64 c) ∧ Below w.heap.size w w' := fun w => by rw [← hc]; exact pchk_any x hdx w
      replace ck := Lib.hid ck
      have HX := Lib.hid hx
      clear hx hr hcs hdx
      have bwr : b < wr.heap.size := Nat.lt_of_lt_of_le hbl hB.size
      go_upto_region 4 with fail
      refine wp_region_tail0 1 ?_
      intro W0 hE hN
      have hrW : W0.rangeAt b (off + j * 9) (bn x) := (by rw [hE.out]; exact hrw)
      have hBW : Below w.heap.size w W0 := (by rw [hE.out]; exact hB)
      have hoW := hown
      rw [← hE.out] at hoW
      have bW : b < W0.heap.size := (by rw [hE.out]; exact bwr)
      clear hE hrw hB hown bwr
      simp only [List.take_succ_cons, List.take_zero, List.drop_succ_cons, List.drop_zero]
      repeat (go_big_quiet_step (fail))
      refine wpQuiet_nil ?_
      rintro _ ⟨x', rfl⟩
      have hr1 := range_below bW hrW x'.ok
      have hB1 := bt hBW x'.ok
      have ho1 := Lib.hid (owns_belowS hoW.out x'.ok)
      obtain ⟨u, hu⟩ : ∃ u, u = x'.wd := ⟨_, rfl⟩
      rw [← hu] at hr1 hB1 ho1 ⊢
      clear hu x' hN hrW hBW hoW bW
      refine wpList_load_mid rfl 28 (.tmp 15) rfl b (off + j * 9) rfl (bn x) _ hr1 Tryd.underlying28 rfl (by kernel_rfl) ?_
      conv => arg 5; simp [Act.put]
      refine Go.Great.wpList_allocTo rfl (some 6) rfl (.pointer (some ⟨u.heap.size, 0, none⟩)) (.cells #[.int .i64 0, .int .u64 0, .int .i64 0, .int .i64 0, .int .i64 0, .int .i64 0, .int .i64 0, .int .i64 0, .string ⟨#[]⟩] 28) (by kernel_rfl) ?_
      conv => arg 5; simp [Act.put]
      refine wpList_store_midB 28 (.tmp 6) (.tmp 16) u.heap.size 0 #[.int .i64 0, .int .u64 0, .int .i64 0, .int .i64 0, .int .i64 0, .int .i64 0, .int .i64 0, .int .i64 0, .string ⟨#[]⟩] #[.int .i64 x.no, .int .u64 x.sq, .int .i64 x.of, .int .i64 x.de, .int .i64 x.pr, .int .i64 x.bo, .int .i64 x.li, .int .i64 x.to, .string x.da] #[.int .i64 x.no, .int .u64 x.sq, .int .i64 x.of, .int .i64 x.de, .int .i64 x.pr, .int .i64 x.bo, .int .i64 x.li, .int .i64 x.to, .string x.da] (blk_alloc_new _ _ _ rfl) rfl rfl rfl rfl (by simp) (by kernel_rfl) (by kernel_rfl) (by kernel_rfl) ?_
      intro w1 kb1 o1 B1 z1
      conv => arg 5; simp [Act.put]
      have sz1 : w1.heap.size = u.heap.size + 1 := (by rw [z1]; simp)
      have hb1 : Below w.heap.size w w1 := B1 _ _ hB1.size (hB1.alloc hB1.size _)
      have hBu : Below u.heap.size u w1 := B1 _ _ (Nat.le_refl _) ((Below.refl _ _).alloc (Nat.le_refl _) _)
      have ho2 := Lib.hid (owns_belowS ho1.out hBu)
      have nb1 := kn kb1
      obtain ⟨c0, hc0⟩ : ∃ c, c = u.heap.size := ⟨_, rfl⟩
      rw [← hc0] at kb1 nb1 ⊢
      clear o1 B1 z1 ho1 hBu hr1 hB1 sz1 hc0 u
      go_wp2_with fail
      (with_reducible refine (ck.out _).mono ?_)
      rintro e w2 ⟨rfl, h2⟩
      by_cases hc0 : c = 0
      · subst hc0
        have q0 : ((0 : Int) != 0) = false := rfl
        have HC2 : Hid (∀ i (hi : i < l.length), i < j + 1 → bcode l[i] = 0) := Lib.hid (fun i hi h => by
          rcases Nat.lt_or_ge i j with h3 | h3
          · exact HC.out i hi h3
          · obtain rfl : i = j := by omega
            rw [← HX.out]; exact hc)
        clear HC hc
        have kb2 := blk_below h2 kb1
        have nb2 := kn kb2
        have hb2 := bt hb1 h2
        have ho3 := Lib.hid (owns_belowS ho2.out h2)
        clear h2 nb1 kb1 hb1 ho2 ck
        have sw2 := hb2.size
        have ltk : (l.take j).length = j := (by simp; omega)
        have ho4 := Lib.hid (show w2.ownsRow w.heap.size 81 9 _ (l.take j).length (rowC bn (l.take j)) from (by rw [ltk]; exact ho3.out))
        have LK := Lib.hid ltk
        clear ltk ho3
        go_wp2_with (at_builtin; go_loud (refine wpList_append_struct (enc := bn) rfl _ _ 79 rfl w.heap.size 81 i0 (.agg #[.int .i64 0, .int .u64 0, .int .i64 0, .int .i64 0, .int .i64 0, .int .i64 0, .int .i64 0, .int .i64 0, .string ⟨#[]⟩]) 9 80 Tryd.underlying79 Hi.out Hz0.out Hz1.out Hz2.out rfl (by decide) bn_len bn_one _ (l.take j) rfl (ho4.out.alloc _) w2.heap.size 1 x rfl (blk_alloc_new _ _ _ rfl) (by rw [LK.out]; unfold maxLen; omega) (by rw [LK.out]; omega) (by simp; omega) ?_); intro v' wb hown2 hgrow2)
        have hB3 : Below w.heap.size w wb := (hb2.alloc hb2.size _).grown hgrow2 (by simp; omega) (fun k e => (ho4.out.lt k e).1)
        have etk : l.take (j + 1) = l.take j ++ [x] := (by rw [List.take_succ_eq_append_getElem hlt, ← HX.out])
        have hown3 : Hid (wb.ownsRow w.heap.size 81 9 v' (j + 1) (rowC bn (l.take (j + 1)))) := Lib.hid (by
          have := hown2
          rw [List.length_append, LK.out] at this
          rw [etk]
          exact this)
        clear hown2 hgrow2 etk ho4 kb2 nb2
        go_wp2
        go_roundw
        case rel => exact ⟨j + 1, by go_num, by omega, hB3, hown3, HC2⟩
        case measure => simp [intOf]; omega
      · have q0 : (c != 0) = true := by simpa using hc0
        have e9 := Lib.hid (srtB_bad hlt (fun i hi h => HC.out i hi h) (by rw [← HX.out]; exact hc) hc0)
        have hb2 := bt hb1 h2
        clear hc0 hc HC h2 ho2 hb1 kb1 nb1 ck
        go_wp2
        go_ret2
        rw [e9.out]
        exact RetB.err _ hb2
    · obtain rfl : j = l.length := by omega
      have HVV : ∀ i (hi : i < l.length), bcode l[i] = 0 := fun i hi => HC.out i hi hi
      have HBI : Hid (∀ x ∈ l, BnI x) := Lib.hid (fun x hx => by obtain ⟨i, hi, rfl⟩ := List.getElem_of_mem hx; exact bcode_iB (HVV i hi))
      have E9 := Lib.hid (srtB_ok HVV)
      clear HVV HC
      have hown2 := hown.out
      rw [List.take_length] at hown2
      obtain ⟨a4, cap4, rfl, hS4, hd⟩ := srow_of_owns bn_len hown2
      clear hown hown2
      rcases Nat.eq_zero_or_pos l.length with h0 | h0
      · obtain rfl := List.length_eq_zero_iff.1 h0
        have gs : ∀ w, Calls Tryd.prog 55 #[.slice a4 0 cap4, .func (.func 56) #[] #[]] w fun e w' => e = .returned (.tuple #[]) ∧ w = w' := fun w => sortStable_none a4 cap4 w
        replace gs := Lib.hid gs
        go_wp2_with (go_at_call 55; (with_reducible refine (gs.out _).mono ?_); rintro e w5 ⟨rfl, rfl⟩)
        refine wp_loop_rounds 1 ?_
        rw [rounds_succ]
        go_wp2
        go_ret2
        rw [E9.out]
        exact ⟨_, rfl, by simpa [rowC, isort] using World.ownsRow_nil _ _ _ _, hB⟩
      · rcases hd with ⟨_, rfl⟩ | ⟨g, cur, rfl, hgb, hbg, hcs, hct⟩
        · simp at h0
        obtain ⟨sp, hsp⟩ : ∃ sp, sp = cur.toList.drop (l.length * 9) := ⟨_, rfl⟩
        have hbg2 : blk wr g = some (rowC bn l ++ sp).toArray := (by rw [hbg, hsp, ← hct, List.take_append_drop])
        have gs := Lib.hid (sortStable_40 g cap4 l sp h0 hl hS4.1 (fun x hx => HBI.out x hx) wr hbg2)
        clear hbg hcs hct hsp hbg2 hS4
        go_wp2_with (go_at_call 55; (with_reducible refine (gs.out).mono ?_); rintro e w5 ⟨rfl, hg5, hb5⟩)
        have hB5 : Below w.heap.size w w5 := hB.grown hg5 hB.size (fun k e => by cases e; exact hgb)
        have gl5 := blk_lt hb5
        have lI := isort_length ltB l
        obtain ⟨I, hI⟩ : ∃ I, I = isort ltB l := ⟨_, rfl⟩
        rw [← hI] at hb5 lI
        have HI := Lib.hid hI
        clear gs hB hg5 hI
        have sz5 := hB5.size
        go_loopw [8, 31] (fun o i wr => ∃ j : Nat, i = .int .i64 j ∧ j ≤ l.length ∧ Below w5.heap.size w5 wr ∧ Hid (wr.ownsRow w5.heap.size 28 9 o j (rowC bn (I.take j)))) (fun _ i _ => l.length - (intOf i).toNat)
        case atStart => exact ⟨0, rfl, Nat.zero_le _, Below.refl _ _, Lib.hid (by simpa [rowC] using World.ownsRow_nil w5 _ _ _)⟩
        case round =>
          obtain ⟨j, rfl, hj, hB, hown⟩ := hrel
          by_cases hlt : j < l.length
          · have hltz : (j : Int) < (l.length : Int) := by omega
            have hltI : j < I.length := by omega
            obtain ⟨x, hx⟩ : ∃ x, x = I[j] := ⟨_, rfl⟩
            have hrw := range_below gl5 (range_row bn_len hb5 (by rw [List.getElem?_eq_getElem hltI, ← hx])) hB
            have HX := Lib.hid hx
            clear hx
            have bwr : g < wr.heap.size := Nat.lt_of_lt_of_le gl5 hB.size
            go_upto_region 14 with fail
            refine wp_region_tail0 1 ?_
            intro W0 hE hN
            have hrW : W0.rangeAt g (j * 9) (bn x) := (by rw [hE.out]; exact hrw)
            have hBW : Below w5.heap.size w5 W0 := (by rw [hE.out]; exact hB)
            have hoW := hown
            rw [← hE.out] at hoW
            have bW : g < W0.heap.size := (by rw [hE.out]; exact bwr)
            clear hE hrw hB hown bwr
            simp only [List.take_succ_cons, List.take_zero, List.drop_succ_cons, List.drop_zero]
            repeat (go_big_quiet_step (fail))
            refine wpQuiet_nil ?_
            rintro _ ⟨x', rfl⟩
            have hr1 := range_below bW hrW x'.ok
            have hB1 := hBW.trans (x'.ok.mono hBW.size)
            have ho1 := Lib.hid (owns_belowS hoW.out x'.ok)
            obtain ⟨u, hu⟩ : ∃ u, u = x'.wd := ⟨_, rfl⟩
            rw [← hu] at hr1 hB1 ho1 ⊢
            clear hu x' hN hrW hBW hoW bW
            refine wpList_load_mid rfl 81 (.tmp 33) rfl g (j * 9) rfl (bn x) _ hr1 Tryd.underlying81 rfl (by kernel_rfl) ?_
            conv => arg 5; simp [Act.put]
            refine Go.Great.wpList_allocTo rfl (some 10) rfl (.pointer (some ⟨u.heap.size, 0, none⟩)) (.cells #[.int .i64 0, .int .u64 0, .int .i64 0, .int .i64 0, .int .i64 0, .int .i64 0, .int .i64 0, .int .i64 0, .string ⟨#[]⟩] 81) (by kernel_rfl) ?_
            conv => arg 5; simp [Act.put]
            refine wpList_store_midB 81 (.tmp 10) (.tmp 34) u.heap.size 0 #[.int .i64 0, .int .u64 0, .int .i64 0, .int .i64 0, .int .i64 0, .int .i64 0, .int .i64 0, .int .i64 0, .string ⟨#[]⟩] #[.int .i64 x.no, .int .u64 x.sq, .int .i64 x.of, .int .i64 x.de, .int .i64 x.pr, .int .i64 x.bo, .int .i64 x.li, .int .i64 x.to, .string x.da] #[.int .i64 x.no, .int .u64 x.sq, .int .i64 x.of, .int .i64 x.de, .int .i64 x.pr, .int .i64 x.bo, .int .i64 x.li, .int .i64 x.to, .string x.da] (blk_alloc_new _ _ _ rfl) rfl rfl rfl rfl (by simp) (by kernel_rfl) (by kernel_rfl) (by kernel_rfl) ?_
            intro w1 kb1 o1 B1 z1
            conv => arg 5; simp [Act.put]
            have hb1 : Below w5.heap.size w5 w1 := B1 _ _ hB1.size (hB1.alloc hB1.size _)
            have hBu : Below u.heap.size u w1 := B1 _ _ (Nat.le_refl _) ((Below.refl _ _).alloc (Nat.le_refl _) _)
            have ho2 := Lib.hid (owns_belowS ho1.out hBu)
            have nb1 := kn kb1
            obtain ⟨c0, hc0⟩ : ∃ c, c = u.heap.size := ⟨_, rfl⟩
            rw [← hc0] at kb1 nb1 ⊢
            clear o1 B1 z1 ho1 hBu hr1 hB1 hc0 u
            have sw1 := hb1.size
            have ltk : (I.take j).length = j := (by simp; omega)
            have ho4 := Lib.hid (show w1.ownsRow w5.heap.size 28 9 _ (I.take j).length (rowC bn (I.take j)) from (by rw [ltk]; exact ho2.out))
            have LK := Lib.hid ltk
            have LI := Lib.hid lI
            clear ltk ho2
            go_wp2_with (at_builtin; go_loud (refine wpList_append_struct (enc := bn) rfl _ _ 22 rfl w5.heap.size 28 i2 (.agg #[.int .i64 0, .int .u64 0, .int .i64 0, .int .i64 0, .int .i64 0, .int .i64 0, .int .i64 0, .int .i64 0, .string ⟨#[]⟩]) 9 80 Tryd.underlying22 Hj.out Hy0.out Hy1.out Hy2.out rfl (by decide) bn_len bn_one _ (I.take j) rfl (ho4.out.alloc _) w1.heap.size 1 x rfl (blk_alloc_new _ _ _ rfl) (by rw [LK.out]; unfold maxLen; omega) (by rw [LK.out]; omega) (by simp; omega) ?_); intro v' wb hown2 hgrow2)
            have hB3 : Below w5.heap.size w5 wb := (hb1.alloc hb1.size _).grown hgrow2 (by simp; omega) (fun k e => (ho4.out.lt k e).1)
            have etk : I.take (j + 1) = I.take j ++ [x] := (by rw [List.take_succ_eq_append_getElem hltI, ← HX.out])
            have hown3 : Hid (wb.ownsRow w5.heap.size 28 9 v' (j + 1) (rowC bn (I.take (j + 1)))) := Lib.hid (by
              have := hown2
              rw [List.length_append, LK.out] at this
              rw [etk]
              exact this)
            clear hown2 hgrow2 etk ho4 kb1 nb1
            go_wp2
            go_roundw
            case rel => exact ⟨j + 1, by go_num, by omega, hB3, hown3⟩
            case measure => simp [intOf]; omega
          · obtain rfl : j = l.length := by omega
            have hown2 := hown.out
            rw [List.take_of_length_le (by omega), HI.out] at hown2
            have ho := Lib.hid (owns_base hown2 sz5)
            clear hown hown2
            have hB9 : Below w.heap.size w wr := hB5.trans (hB.mono sz5)
            go_wp2
            go_ret2
            rw [E9.out]
            exact ⟨_, rfl, (by show World.ownsRow _ _ _ _ _ (isort ltB l).length _; rw [isort_length]; exact ho.out), hB9⟩
end Go.Proofs.YtahopnlibmiafaaDoor
