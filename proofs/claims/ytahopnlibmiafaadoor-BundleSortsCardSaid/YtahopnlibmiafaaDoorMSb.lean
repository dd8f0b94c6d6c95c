/- Parts of a proof, printed by a program of mine out of my texts: SoSymBT. -/
import Derived.Test.YtahopnlibmiafaaDoorMSa
set_option linter.unusedSimpArgs false
set_option linter.unusedVariables false
namespace Go.Proofs.YtahopnlibmiafaaDoor
open Go.RowKit
set_option maxRecDepth 100000 in
set_option maxHeartbeats 16000000 in
theorem symB_step (g cap c n : Nat) (P A B S : List Bn) (sp : List Value) (hn : n = (P ++ A ++ B ++ S).length) (hlen : n ≤ 1000000) (hcap : n ≤ cap) (Hd : World → Prop) (lt : Bn → Bn → Bool) (cm : Bn → Bn → Int) (hlt : ∀ x y, lt x y = decide (cm x y < 0)) (hB : ∀ W W', Hd W → Below W.heap.size W W' → Hd W') (hS : ∀ W o vs, Hd W → Hd (W.setCells g o vs)) (hD : ∀ W, Hd W → Hd W.drew)
    (D : Bn → Prop) (hcmp : ∀ x y, D x → D y → ∀ W, Hd W → Calls Tryd.prog 56 #[.agg (bn x).toArray, .agg (bn y).toArray] W fun e w' => e = .returned (.int .i64 (cm x y)) ∧ Below W.heap.size W w')
    (asym : ∀ a b, lt a b = true → lt b a = false) (nn : ∀ a b c, lt a b = false → lt b c = false → lt a c = false) (hAD : ∀ x ∈ A, D x) (hBD : ∀ x ∈ B, D x) (hAs : Srt lt A) (hBs : Srt lt B) (hA2 : 2 ≤ A.length) (hB2 : 2 ≤ B.length)
    (IH : ∀ (P' A' B' S' : List Bn) (a m b : Nat) (W : World), n = (P' ++ A' ++ B' ++ S').length → 0 < A'.length → 0 < B'.length → A'.length + B'.length < A.length + B.length → (∀ x ∈ A', D x) → (∀ x ∈ B', D x) → Srt lt A' → Srt lt B' → a = P'.length → m = a + A'.length → b = m + B'.length → Hd W → blk W g = some (rowC bn (P' ++ A' ++ B' ++ S') ++ sp).toArray →
      Calls Tryd.prog 115 #[.slice (some ⟨g, 0, none⟩) n cap, .int .i64 a, .int .i64 m, .int .i64 b, .func (.func 56) #[] #[]] W fun e w' => e = .returned (.tuple #[]) ∧ W.grownBy w' (some g) ∧ blk w' g = some (rowC bn (P' ++ mrg lt A' B' ++ S') ++ sp).toArray ∧ Hd w')
    (a m b : Nat) (ha : a = P.length) (hm : m = a + A.length) (hb : b = m + B.length) (w : World) (h0 : Hd w) (hbk : blk w g = some (rowC bn (P ++ A ++ B ++ S) ++ sp).toArray) :
    Calls Tryd.prog 115 #[.slice (some ⟨g, 0, none⟩) n cap, .int .i64 a, .int .i64 m, .int .i64 b, .func (.func 56) #[] #[]] w fun e w' =>
      e = .returned (.tuple #[]) ∧ w.grownBy w' (some g) ∧ blk w' g = some (rowC bn (P ++ mrg lt A B ++ S) ++ sp).toArray ∧ Hd w' := by
  have hn2 : n = P.length + A.length + B.length + S.length := by rw [hn]; simp; omega
  have HI := Lib.hid hcmp; have HBK := Lib.hid hbk; have H0 := Lib.hid h0; have HIH := Lib.hid IH
  have gR : ∀ (P' A' B' S' : List Bn) (x y z : Nat) (W : World), 0 < A'.length → 0 < B'.length → n = (P' ++ A' ++ B' ++ S').length → x = P'.length → y = P'.length + A'.length → z = P'.length + A'.length + B'.length → Hd W → blk W g = some (rowC bn (P' ++ A' ++ B' ++ S') ++ sp).toArray →
      Calls Tryd.prog 131 #[.slice (some ⟨g, 0, none⟩) n cap, .int .i64 x, .int .i64 y, .int .i64 z, .func (.func 56) #[] #[]] W fun e w' => e = .returned (.tuple #[]) ∧ W.grownBy w' (some g) ∧ blk w' g = some (rowC bn (P' ++ B' ++ A' ++ S') ++ sp).toArray ∧ Hd w' :=
    fun P' A' B' S' x y z W h1 h2 h3 h4 h5 h6 h7 h8 => rotB_any g cap n P' A' B' S' sp _ h1 h2 h3 hlen hcap Hd hS hD x y z h4 h5 h6 W h7 h8
  have GR := Lib.hid gR
  replace hB := Lib.hid hB; replace hS := Lib.hid hS; replace hlt := Lib.hid hlt; replace hD := Lib.hid hD
  have NN := Lib.hid nn; have AS := Lib.hid asym
  have HAD := Lib.hid hAD; have HBD := Lib.hid hBD; have HAS := Lib.hid hAs; have HBS := Lib.hid hBs; have HN := Lib.hid hn2; have HA := Lib.hid ha
  obtain ⟨L, hL⟩ : ∃ L, L = P ++ A ++ B ++ S := ⟨_, rfl⟩
  obtain ⟨na, hna⟩ : ∃ k, k = A.length := ⟨_, rfl⟩
  obtain ⟨nb, hnb⟩ : ∃ k, k = B.length := ⟨_, rfl⟩
  have HL := Lib.hid hL; have HNA := Lib.hid hna; have HNB := Lib.hid hnb
  rw [← hna] at hA2 hm
  rw [← hnb] at hB2 hb
  have hbn : b ≤ n := by omega
  have m1 : IntKind.i64.wrap ((m : Int) - (a : Int)) = na := (IntWalk.i64_in _ (by omega)).trans (by omega)
  have m2 : IntKind.i64.wrap ((b : Int) - (m : Int)) = nb := (IntWalk.i64_in _ (by omega)).trans (by omega)
  have r1 : ((na : Int) == 1) = false := by simp; omega
  have r2 : ((nb : Int) == 1) = false := by simp; omega
  have r1' : (na == 1) = false := by simp; omega
  have r2' : (nb == 1) = false := by simp; omega
  obtain ⟨mid, hmid⟩ : ∃ k, k = (a + b) / 2 := ⟨_, rfl⟩
  have u1 : ((a : Int) + (b : Int)) / 2 = (mid : Int) := by omega
  have u2 : (a + b) / 2 = mid := hmid.symm
  obtain ⟨q, hq⟩ : ∃ k, k = mid + m := ⟨_, rfl⟩
  obtain ⟨p, hp⟩ : ∃ k, q = k + 1 := ⟨q - 1, by omega⟩
  have u3 : IntKind.i64.wrap ((mid : Int) + (m : Int)) = q := (IntWalk.i64_in _ (by omega)).trans (by omega)
  have u4 : IntKind.i64.wrap ((q : Int) - 1) = p := (IntWalk.i64_in _ (by omega)).trans (by omega)
  have u5 : IntKind.i64.wrap (q : Int) = q := IntWalk.i64_in _ (by omega)
  have u6 : IntKind.i64.wrap (p : Int) = p := IntWalk.i64_in _ (by omega)
  have HARI := Lib.hid (And.intro hm (And.intro hb (And.intro hmid (And.intro hq hp))))
  have b1 : na ≤ 1000000 := by omega
  have b2 : nb ≤ 1000000 := by omega
  have b3 : q ≤ 2000000 := by omega
  have key : ∃ lo hi : Nat, (decide ((mid : Int) < (m : Int)) = true ∧ decide (mid < m) = true ∧ IntKind.i64.wrap ((q : Int) - (b : Int)) = lo ∧ hi = mid ∨ decide ((mid : Int) < (m : Int)) = false ∧ decide (mid < m) = false ∧ lo = a ∧ hi = m) ∧ a ≤ lo ∧ lo ≤ hi ∧ hi ≤ m ∧ hi ≤ mid ∧ q ≤ b + lo ∧ (lo = a ∨ q = b + lo) ∧ (hi = m ∨ q = m + hi) := by
    by_cases h : mid < m
    · exact ⟨q - b, mid, .inl ⟨decide_eq_true (by omega), decide_eq_true h, (IntWalk.i64_in _ (by omega)).trans (by omega), rfl⟩, by omega, by omega, by omega, by omega, by omega, by omega, by omega⟩
    · exact ⟨a, m, .inr ⟨decide_eq_false (by omega), decide_eq_false h, rfl, rfl⟩, by omega, by omega, by omega, by omega, by omega, by omega, by omega⟩
  obtain ⟨lo, hi, hcase, k1, k2, k3, k4, k5, k6, k7⟩ := key
  have HKEY := Lib.hid (And.intro k1 (And.intro k2 (And.intro k3 (And.intro k4 (And.intro k5 (And.intro k6 k7))))))
  clear hcmp hbk h0 nn asym hAD hBD hAs hBs hn hn2 hL hna hnb hm hb hmid hq hp IH gR ha k6 k7
  go_enter Tryd.func115, Tryd.ntmps115
  have key2 : ∀ (Q : Exit → Act → World → Prop), True := fun _ => trivial
  clear key2
  rcases hcase with ⟨t0, t0', t1, E2⟩ | ⟨t0, t0', E1, E2⟩
  · have HE2 := Lib.hid E2; clear E2
    go_upto_region 33 with fail
    go_loopw [20, 21] (fun vi vj wr => ∃ i j : Nat, vi = .int .i64 i ∧ vj = .int .i64 j ∧ lo ≤ i ∧ i ≤ j ∧ j ≤ hi ∧ w.grownBy wr (some g) ∧ Hid ((i = lo ∨ ∃ x y, A[i - 1 - a]? = some x ∧ B[p - (i - 1) - m]? = some y ∧ lt y x = false) ∧ (j = hi ∨ ∃ x y, A[j - a]? = some x ∧ B[p - j - m]? = some y ∧ lt y x = true) ∧ blk wr g = some (rowC bn L ++ sp).toArray ∧ Hd wr)) (fun vi vj _ => (intOf vj).toNat - (intOf vi).toNat)
    case atStart => exact ⟨lo, hi, rfl, by rw [HE2.out], Nat.le_refl _, k2, Nat.le_refl _, igrown_self w g, Lib.hid ⟨.inl rfl, .inl rfl, by rw [HL.out]; exact HBK.out, H0.out⟩⟩
    case round =>
      clear HBK H0
      obtain ⟨i, j, rfl, rfl, hmi, hij, hjb, hgr, HQ⟩ := hrel
      by_cases hlt' : i < j
      · have t5 : decide ((i : Int) < (j : Int)) = true := decide_eq_true (by omega)
        have t5' : decide (i < j) = true := decide_eq_true (by omega)
        obtain ⟨e1, e2, e3, e4, e5⟩ := HARI.out
        obtain ⟨_, _, _, _, _, f6, f7⟩ := HKEY.out
        obtain ⟨h, hh⟩ : ∃ h, h = (i + j) / 2 := ⟨_, rfl⟩
        have v1 : ((i : Int) + (j : Int)) / 2 = (h : Int) := by omega
        have v2 : (i + j) / 2 = h := hh.symm
        have hhi : i ≤ h := by omega
        have hhj : h < j := by omega
        obtain ⟨ph, hph⟩ : ∃ k, k = p - h := ⟨_, rfl⟩
        have v3 : IntKind.i64.wrap ((p : Int) - (h : Int)) = ph := (IntWalk.i64_in _ (by omega)).trans (by omega)
        have v4 : IntKind.i64.wrap (ph : Int) = ph := IntWalk.i64_in _ (by omega)
        have q1 : h - a < A.length := by have := HNA.out; omega
        have q2 : ph - m < B.length := by have := HNB.out; omega
        have q3 : m ≤ ph := by omega
        obtain ⟨x, hx⟩ : ∃ x, x = A[h - a] := ⟨_, rfl⟩
        obtain ⟨y, hy⟩ : ∃ y, y = B[ph - m] := ⟨_, rfl⟩
        have lP := HA.out
        have lA := HNA.out
        have hLx : L[h]? = some x := by
          rw [HL.out, hx, List.append_assoc, List.append_assoc, List.getElem?_append_right (by omega), List.getElem?_append_left (by omega)]
          rw [List.getElem?_eq_getElem (by omega)]
          congr 2
          omega
        have hLy : L[ph]? = some y := by
          rw [HL.out, hy, List.append_assoc, List.getElem?_append_right (by simp; omega), List.getElem?_append_left (by simp; omega)]
          rw [List.getElem?_eq_getElem (by simp; omega)]
          congr 2
          simp; omega
        have Ax : A[h - a]? = some x := by rw [hx]; exact List.getElem?_eq_getElem _
        have By : B[p - h - m]? = some y := by rw [← hph, hy]; exact List.getElem?_eq_getElem _
        have l1 : (h : Int) < (n : Int) := by omega
        have l2 : (ph : Int) < (n : Int) := by omega
        obtain ⟨d, hc⟩ : ∃ d, cm y x = d := ⟨_, rfl⟩
        have gc : ∀ W, Hd W → Calls Tryd.prog 56 #[.agg (bn y).toArray, .agg (bn x).toArray] W fun e w' => e = .returned (.int .i64 d) ∧ Below W.heap.size W w' := fun W h => by rw [← hc]; exact HI.out y x (HBD.out y (by rw [hy]; exact List.getElem_mem _)) (HAD.out x (by rw [hx]; exact List.getElem_mem _)) W h
        replace gc := Lib.hid gc
        have hbM := HQ.out.2.2.1
        have hd := HQ.out.2.2.2
        have hcl : lt y x = decide (d < 0) := by rw [hlt.out, hc]
        have HC := Lib.hid hcl; have HAX := Lib.hid Ax; have HBY := Lib.hid By
        clear hcl hc hx hy hh lP lA Ax By e1 e2 e3 e4 e5 f6 f7 hph q1 q2
        by_cases hc0 : d < 0
        · have tc : decide (d < 0) = true := decide_eq_true hc0
          go_wp2_with fail
          refine wp_region_in (by kernel_rfl) (by kernel_rfl) ?_
          intro W0 hE hN
          have q1 : blk W0 g = some (rowC bn L ++ sp).toArray := (by rw [hE.out]; exact hbM)
          have q2 : w.grownBy W0 (some g) := (by rw [hE.out]; exact hgr)
          have q3 : Hd W0 := (by rw [hE.out]; exact hd)
          clear hE
          have r0 := range_row bn_len q1 hLy
          have r1 := range_row bn_len q1 hLx
          have gl := blk_lt q1
          have gC : ∀ X : Class (Calm W0), _ := fun X => gc.out X.wd (hB.out _ _ q3 X.ok)
          have GC := Lib.hid gC
          clear gC
          refine wpQuiet_split 6 ?_
          simp only [List.take_succ_cons, List.take_zero, List.drop_succ_cons, List.drop_zero]
          repeat (go_big_quiet_step (fail))
          refine wpQuiet_nil ?_
          refine wpQuiet_load_range 81 (.tmp 163) g (ph * 9) (bn y) (fun W hW => by obtain ⟨x', rfl⟩ := hW; exact range_below gl r0 x'.ok) _ (by kernel_rfl) rfl (by kernel_rfl) Tryd.underlying81 rfl (by kernel_rfl) ?_
          conv => arg 6; simp [Act.put]
          refine wpQuiet_split 3 ?_
          simp only [List.take_succ_cons, List.take_zero, List.drop_succ_cons, List.drop_zero]
          repeat (go_big_quiet_step (fail))
          refine wpQuiet_nil ?_
          refine wpQuiet_load_range 81 (.tmp 167) g (h * 9) (bn x) (fun W hW => by obtain ⟨x', rfl⟩ := hW; exact range_below gl r1 x'.ok) _ (by kernel_rfl) rfl (by kernel_rfl) Tryd.underlying81 rfl (by kernel_rfl) ?_
          conv => arg 6; simp [Act.put]
          repeat (go_big_quiet_step ((go_at_call 56; (with_reducible refine Class.go _ (GC.out _)))))
          refine wpQuiet_nil ?_
          rintro _ ⟨x', rfl⟩
          have hbM2 := blk_below x'.ok q1
          have hgr2 := igrown_below q2 x'.ok
          have hd2 := hB.out _ _ q3 x'.ok
          obtain ⟨u, hu⟩ : ∃ u, u = x'.wd := ⟨_, rfl⟩
          rw [← hu] at hbM2 hgr2 hd2 ⊢
          clear hu x' r0 r1 gl q1 q2 q3 hN GC hbM hgr hd
          go_wp2
          go_roundw
          case rel => exact ⟨i, h, rfl, rfl, by omega, by omega, by omega, hgr2, Lib.hid ⟨HQ.out.1, .inr ⟨x, y, HAX.out, HBY.out, by rw [HC.out, tc]⟩, hbM2, hd2⟩⟩
          case measure => simp [intOf]; omega
        · have tc : decide (d < 0) = false := decide_eq_false hc0
          go_wp2_with fail
          refine wp_region_in (by kernel_rfl) (by kernel_rfl) ?_
          intro W0 hE hN
          have q1 : blk W0 g = some (rowC bn L ++ sp).toArray := (by rw [hE.out]; exact hbM)
          have q2 : w.grownBy W0 (some g) := (by rw [hE.out]; exact hgr)
          have q3 : Hd W0 := (by rw [hE.out]; exact hd)
          clear hE
          have r0 := range_row bn_len q1 hLy
          have r1 := range_row bn_len q1 hLx
          have gl := blk_lt q1
          have gC : ∀ X : Class (Calm W0), _ := fun X => gc.out X.wd (hB.out _ _ q3 X.ok)
          have GC := Lib.hid gC
          clear gC
          refine wpQuiet_split 6 ?_
          simp only [List.take_succ_cons, List.take_zero, List.drop_succ_cons, List.drop_zero]
          repeat (go_big_quiet_step (fail))
          refine wpQuiet_nil ?_
          refine wpQuiet_load_range 81 (.tmp 163) g (ph * 9) (bn y) (fun W hW => by obtain ⟨x', rfl⟩ := hW; exact range_below gl r0 x'.ok) _ (by kernel_rfl) rfl (by kernel_rfl) Tryd.underlying81 rfl (by kernel_rfl) ?_
          conv => arg 6; simp [Act.put]
          refine wpQuiet_split 3 ?_
          simp only [List.take_succ_cons, List.take_zero, List.drop_succ_cons, List.drop_zero]
          repeat (go_big_quiet_step (fail))
          refine wpQuiet_nil ?_
          refine wpQuiet_load_range 81 (.tmp 167) g (h * 9) (bn x) (fun W hW => by obtain ⟨x', rfl⟩ := hW; exact range_below gl r1 x'.ok) _ (by kernel_rfl) rfl (by kernel_rfl) Tryd.underlying81 rfl (by kernel_rfl) ?_
          conv => arg 6; simp [Act.put]
          repeat (go_big_quiet_step ((go_at_call 56; (with_reducible refine Class.go _ (GC.out _)))))
          refine wpQuiet_nil ?_
          rintro _ ⟨x', rfl⟩
          have hbM2 := blk_below x'.ok q1
          have hgr2 := igrown_below q2 x'.ok
          have hd2 := hB.out _ _ q3 x'.ok
          obtain ⟨u, hu⟩ : ∃ u, u = x'.wd := ⟨_, rfl⟩
          rw [← hu] at hbM2 hgr2 hd2 ⊢
          clear hu x' r0 r1 gl q1 q2 q3 hN GC hbM hgr hd
          go_wp2
          go_roundw
          case rel => exact ⟨h + 1, j, by go_num, rfl, by omega, by omega, hjb, hgr2, Lib.hid ⟨.inr ⟨x, y, HAX.out, HBY.out, by rw [HC.out, tc]⟩, HQ.out.2.1, hbM2, hd2⟩⟩
          case measure => simp [intOf]; omega
      · have hij' : i = j := by omega
        subst hij'
        have t5 : decide ((i : Int) < (i : Int)) = false := decide_eq_false (by omega)
        obtain ⟨e1, e2, e3, e4, e5⟩ := HARI.out
        obtain ⟨_, _, _, _, _, f6, f7⟩ := HKEY.out
        obtain ⟨en, hen⟩ : ∃ k, k = q - i := ⟨_, rfl⟩
        have v5 : IntKind.i64.wrap ((q : Int) - (i : Int)) = en := (IntWalk.i64_in _ (by omega)).trans (by omega)
        have v6 : IntKind.i64.wrap (en : Int) = en := IntWalk.i64_in _ (by omega)
        have lA := HNA.out
        have lB := HNB.out
        have g1 : m ≤ en := by omega
        have g2 : en ≤ b := by omega
        have g3 : i ≤ m := by omega
        have g4 : a ≤ i := by omega
        have g5 : mid + m = i + en := by omega
        have CUT := mrg_cut AS.out NN.out HAS.out HBS.out (k := i - a) (l := en - m) (by omega) (by omega) (fun hk hl => by
          rcases HQ.out.2.1 with h | ⟨x, y, ax, ay, hl'⟩
          · exfalso; omega
          · have ex : A[i - a] = x := by rw [List.getElem?_eq_getElem hk] at ax; exact Option.some.inj ax
            have e : p - i - m = en - m - 1 := by omega
            have ey : B[en - m - 1]'(by omega) = y := by rw [e, List.getElem?_eq_getElem (by omega)] at ay; exact Option.some.inj ay
            rw [ex, ey]; exact hl') (fun hk hl => by
          rcases HQ.out.1 with h | ⟨x, y, ax, ay, hl'⟩
          · exfalso; omega
          · have e : i - 1 - a = i - a - 1 := by omega
            have ex : A[i - a - 1]'(by omega) = x := by rw [e, List.getElem?_eq_getElem (by omega)] at ax; exact Option.some.inj ax
            have e' : p - (i - 1) - m = en - m := by omega
            have ey : B[en - m]'(by omega) = y := by rw [e', List.getElem?_eq_getElem (by omega)] at ay; exact Option.some.inj ay
            rw [ex, ey]; exact hl')
        have la1 : (A.take (i - a)).length = i - a := by rw [List.length_take]; omega
        have la2 : (A.drop (i - a)).length = m - i := by rw [List.length_drop]; omega
        have lb1 : (B.take (en - m)).length = en - m := by rw [List.length_take]; omega
        have lb2 : (B.drop (en - m)).length = b - en := by rw [List.length_drop]; omega
        have sA1 : Srt lt (A.take (i - a)) := HAS.out.sublist (List.take_sublist _ _)
        have sA2 : Srt lt (A.drop (i - a)) := HAS.out.sublist (List.drop_sublist _ _)
        have sB1 : Srt lt (B.take (en - m)) := HBS.out.sublist (List.take_sublist _ _)
        have sB2 : Srt lt (B.drop (en - m)) := HBS.out.sublist (List.drop_sublist _ _)
        have dA1 : ∀ x ∈ A.take (i - a), D x := fun x hx => HAD.out x (List.mem_of_mem_take hx)
        have dA2 : ∀ x ∈ A.drop (i - a), D x := fun x hx => HAD.out x (List.mem_of_mem_drop hx)
        have dB1 : ∀ x ∈ B.take (en - m), D x := fun x hx => HBD.out x (List.mem_of_mem_take hx)
        have dB2 : ∀ x ∈ B.drop (en - m), D x := fun x hx => HBD.out x (List.mem_of_mem_drop hx)
        have hAA : A = A.take (i - a) ++ A.drop (i - a) := (List.take_append_drop _ _).symm
        have hBB : B = B.take (en - m) ++ B.drop (en - m) := (List.take_append_drop _ _).symm
        obtain ⟨A1, hA1⟩ : ∃ l, l = A.take (i - a) := ⟨_, rfl⟩
        obtain ⟨A2, hA2'⟩ : ∃ l, l = A.drop (i - a) := ⟨_, rfl⟩
        obtain ⟨B1, hB1⟩ : ∃ l, l = B.take (en - m) := ⟨_, rfl⟩
        obtain ⟨B2, hB2'⟩ : ∃ l, l = B.drop (en - m) := ⟨_, rfl⟩
        rw [← hA1, ← hA2', ← hB1, ← hB2'] at CUT
        rw [← hA1] at la1 sA1 dA1
        rw [← hA2'] at la2 sA2 dA2
        rw [← hB1] at lb1 sB1 dB1
        rw [← hB2'] at lb2 sB2 dB2
        rw [← hA1, ← hA2'] at hAA
        rw [← hB1, ← hB2'] at hBB
        have lM1 : (mrg lt A1 B1).length = A1.length + B1.length := mrg_length _ _ _
        have hbC : blk wr g = some (rowC bn (P ++ A1 ++ A2 ++ B1 ++ (B2 ++ S)) ++ sp).toArray := by
          have h9 := HQ.out.2.2.1
          rw [HL.out, hAA, hBB] at h9
          simpa using h9
        have hdC := HQ.out.2.2.2
        have LP := HA.out
        have hN := HN.out
        have hfull : A.length + B.length = A1.length + A2.length + (B1.length + B2.length) := by rw [hAA, hBB]; simp
        have HF := Lib.hid (And.intro CUT (And.intro hAA hBB))
        have HLN := Lib.hid (And.intro la1 (And.intro la2 (And.intro lb1 (And.intro lb2 (And.intro lM1 (And.intro LP (And.intro hN (And.intro hfull (And.intro lA lB)))))))))
        have HAR := Lib.hid (And.intro e1 (And.intro e2 (And.intro e3 (And.intro e4 (And.intro e5 hen)))))
        clear CUT hAA hBB la1 la2 lb1 lb2 lM1 LP hN hfull lA lB e1 e2 e3 e4 e5 hen hA1 hA2' hB1 hB2' f6 f7
        rcases (show (i < m ∧ m < en) ∨ (¬ i < m) ∨ (i < m ∧ ¬ m < en) by omega) with ⟨x0, y0⟩ | x0 | ⟨x0, y0⟩
        · have w0a : decide ((i : Int) < (m : Int)) = true := decide_eq_true (by omega)
          have w0a' : decide (i < m) = true := decide_eq_true (by omega)
          have w0b : decide ((m : Int) < (en : Int)) = true := decide_eq_true (by omega)
          have w0b' : decide (m < en) = true := decide_eq_true (by omega)
          rcases (show (a < i ∧ i < mid) ∨ (¬ a < i) ∨ (a < i ∧ ¬ i < mid) by omega) with ⟨x1, y1⟩ | x1 | ⟨x1, y1⟩
          · have w1a : decide ((a : Int) < (i : Int)) = true := decide_eq_true (by omega)
            have w1a' : decide (a < i) = true := decide_eq_true (by omega)
            have w1b : decide ((i : Int) < (mid : Int)) = true := decide_eq_true (by omega)
            have w1b' : decide (i < mid) = true := decide_eq_true (by omega)
            rcases (show (mid < en ∧ en < b) ∨ (¬ mid < en) ∨ (mid < en ∧ ¬ en < b) by omega) with ⟨x2, y2⟩ | x2 | ⟨x2, y2⟩
            · have w2a : decide ((mid : Int) < (en : Int)) = true := decide_eq_true (by omega)
              have w2a' : decide (mid < en) = true := decide_eq_true (by omega)
              have w2b : decide ((en : Int) < (b : Int)) = true := decide_eq_true (by omega)
              have w2b' : decide (en < b) = true := decide_eq_true (by omega)
              have g := GR.out (P ++ A1) A2 B1 (B2 ++ S) i m en _ (by obtain ⟨la1, la2, lb1, lb2, lM1, LP, hN, hfull, lA, lB⟩ := HLN.out; obtain ⟨e1, e2, e3, e4, e5, hen⟩ := HAR.out; (try simp only [List.length_append]); omega) (by obtain ⟨la1, la2, lb1, lb2, lM1, LP, hN, hfull, lA, lB⟩ := HLN.out; obtain ⟨e1, e2, e3, e4, e5, hen⟩ := HAR.out; (try simp only [List.length_append]); omega) (by obtain ⟨la1, la2, lb1, lb2, lM1, LP, hN, hfull, lA, lB⟩ := HLN.out; obtain ⟨e1, e2, e3, e4, e5, hen⟩ := HAR.out; (try simp only [List.length_append]); omega) (by obtain ⟨la1, la2, lb1, lb2, lM1, LP, hN, hfull, lA, lB⟩ := HLN.out; obtain ⟨e1, e2, e3, e4, e5, hen⟩ := HAR.out; (try simp only [List.length_append]); omega) (by obtain ⟨la1, la2, lb1, lb2, lM1, LP, hN, hfull, lA, lB⟩ := HLN.out; obtain ⟨e1, e2, e3, e4, e5, hen⟩ := HAR.out; (try simp only [List.length_append]); omega) (by obtain ⟨la1, la2, lb1, lb2, lM1, LP, hN, hfull, lA, lB⟩ := HLN.out; obtain ⟨e1, e2, e3, e4, e5, hen⟩ := HAR.out; (try simp only [List.length_append]); omega) hdC hbC
              replace g := Lib.hid g
              go_wp2_with fail
              (with_reducible refine (g.out).mono ?_)
              rintro e w1 ⟨rfl, hg1, hb1, hd1⟩
              clear g
              have gr1 := igrown_trans hgr hg1
              have g := HIH.out P A1 B1 (A2 ++ (B2 ++ S)) a i mid _ (by obtain ⟨la1, la2, lb1, lb2, lM1, LP, hN, hfull, lA, lB⟩ := HLN.out; obtain ⟨e1, e2, e3, e4, e5, hen⟩ := HAR.out; (try simp only [List.length_append]); omega) (by obtain ⟨la1, la2, lb1, lb2, lM1, LP, hN, hfull, lA, lB⟩ := HLN.out; obtain ⟨e1, e2, e3, e4, e5, hen⟩ := HAR.out; (try simp only [List.length_append]); omega) (by obtain ⟨la1, la2, lb1, lb2, lM1, LP, hN, hfull, lA, lB⟩ := HLN.out; obtain ⟨e1, e2, e3, e4, e5, hen⟩ := HAR.out; (try simp only [List.length_append]); omega) (by obtain ⟨la1, la2, lb1, lb2, lM1, LP, hN, hfull, lA, lB⟩ := HLN.out; obtain ⟨e1, e2, e3, e4, e5, hen⟩ := HAR.out; (try simp only [List.length_append]); omega) dA1 dB1 sA1 sB1 (by obtain ⟨la1, la2, lb1, lb2, lM1, LP, hN, hfull, lA, lB⟩ := HLN.out; obtain ⟨e1, e2, e3, e4, e5, hen⟩ := HAR.out; (try simp only [List.length_append]); omega) (by obtain ⟨la1, la2, lb1, lb2, lM1, LP, hN, hfull, lA, lB⟩ := HLN.out; obtain ⟨e1, e2, e3, e4, e5, hen⟩ := HAR.out; (try simp only [List.length_append]); omega) (by obtain ⟨la1, la2, lb1, lb2, lM1, LP, hN, hfull, lA, lB⟩ := HLN.out; obtain ⟨e1, e2, e3, e4, e5, hen⟩ := HAR.out; (try simp only [List.length_append]); omega) hd1 (by have h9 := hb1; simp only [List.append_assoc] at h9 ⊢; exact h9)
              replace g := Lib.hid g
              go_wp2_with fail
              (with_reducible refine (g.out).mono ?_)
              rintro e w2 ⟨rfl, hg2, hb2, hd2⟩
              clear g
              have gr2 := igrown_trans gr1 hg2
              have g := HIH.out (P ++ mrg lt A1 B1) A2 B2 S mid en b _ (by obtain ⟨la1, la2, lb1, lb2, lM1, LP, hN, hfull, lA, lB⟩ := HLN.out; obtain ⟨e1, e2, e3, e4, e5, hen⟩ := HAR.out; (try simp only [List.length_append]); omega) (by obtain ⟨la1, la2, lb1, lb2, lM1, LP, hN, hfull, lA, lB⟩ := HLN.out; obtain ⟨e1, e2, e3, e4, e5, hen⟩ := HAR.out; (try simp only [List.length_append]); omega) (by obtain ⟨la1, la2, lb1, lb2, lM1, LP, hN, hfull, lA, lB⟩ := HLN.out; obtain ⟨e1, e2, e3, e4, e5, hen⟩ := HAR.out; (try simp only [List.length_append]); omega) (by obtain ⟨la1, la2, lb1, lb2, lM1, LP, hN, hfull, lA, lB⟩ := HLN.out; obtain ⟨e1, e2, e3, e4, e5, hen⟩ := HAR.out; (try simp only [List.length_append]); omega) dA2 dB2 sA2 sB2 (by obtain ⟨la1, la2, lb1, lb2, lM1, LP, hN, hfull, lA, lB⟩ := HLN.out; obtain ⟨e1, e2, e3, e4, e5, hen⟩ := HAR.out; (try simp only [List.length_append]); omega) (by obtain ⟨la1, la2, lb1, lb2, lM1, LP, hN, hfull, lA, lB⟩ := HLN.out; obtain ⟨e1, e2, e3, e4, e5, hen⟩ := HAR.out; (try simp only [List.length_append]); omega) (by obtain ⟨la1, la2, lb1, lb2, lM1, LP, hN, hfull, lA, lB⟩ := HLN.out; obtain ⟨e1, e2, e3, e4, e5, hen⟩ := HAR.out; (try simp only [List.length_append]); omega) hd2 (by have h9 := hb2; simp only [List.append_assoc] at h9 ⊢; exact h9)
              replace g := Lib.hid g
              go_wp2_with fail
              (with_reducible refine (g.out).mono ?_)
              rintro e w3 ⟨rfl, hg3, hb3, hd3⟩
              clear g
              have gr3 := igrown_trans gr2 hg3
              go_wp2
              go_end0
              refine ⟨rfl, gr3, ?_, hd3⟩
              have h9 := hb3
              rw [HF.out.1]
              simp only [List.append_assoc] at h9 ⊢
              exact h9
            · have w2a : decide ((mid : Int) < (en : Int)) = false := decide_eq_false (by omega)
              have w2a' : decide (mid < en) = false := decide_eq_false (by omega)
              have g := GR.out (P ++ A1) A2 B1 (B2 ++ S) i m en _ (by obtain ⟨la1, la2, lb1, lb2, lM1, LP, hN, hfull, lA, lB⟩ := HLN.out; obtain ⟨e1, e2, e3, e4, e5, hen⟩ := HAR.out; (try simp only [List.length_append]); omega) (by obtain ⟨la1, la2, lb1, lb2, lM1, LP, hN, hfull, lA, lB⟩ := HLN.out; obtain ⟨e1, e2, e3, e4, e5, hen⟩ := HAR.out; (try simp only [List.length_append]); omega) (by obtain ⟨la1, la2, lb1, lb2, lM1, LP, hN, hfull, lA, lB⟩ := HLN.out; obtain ⟨e1, e2, e3, e4, e5, hen⟩ := HAR.out; (try simp only [List.length_append]); omega) (by obtain ⟨la1, la2, lb1, lb2, lM1, LP, hN, hfull, lA, lB⟩ := HLN.out; obtain ⟨e1, e2, e3, e4, e5, hen⟩ := HAR.out; (try simp only [List.length_append]); omega) (by obtain ⟨la1, la2, lb1, lb2, lM1, LP, hN, hfull, lA, lB⟩ := HLN.out; obtain ⟨e1, e2, e3, e4, e5, hen⟩ := HAR.out; (try simp only [List.length_append]); omega) (by obtain ⟨la1, la2, lb1, lb2, lM1, LP, hN, hfull, lA, lB⟩ := HLN.out; obtain ⟨e1, e2, e3, e4, e5, hen⟩ := HAR.out; (try simp only [List.length_append]); omega) hdC hbC
              replace g := Lib.hid g
              go_wp2_with fail
              (with_reducible refine (g.out).mono ?_)
              rintro e w1 ⟨rfl, hg1, hb1, hd1⟩
              clear g
              have gr1 := igrown_trans hgr hg1
              have g := HIH.out P A1 B1 (A2 ++ (B2 ++ S)) a i mid _ (by obtain ⟨la1, la2, lb1, lb2, lM1, LP, hN, hfull, lA, lB⟩ := HLN.out; obtain ⟨e1, e2, e3, e4, e5, hen⟩ := HAR.out; (try simp only [List.length_append]); omega) (by obtain ⟨la1, la2, lb1, lb2, lM1, LP, hN, hfull, lA, lB⟩ := HLN.out; obtain ⟨e1, e2, e3, e4, e5, hen⟩ := HAR.out; (try simp only [List.length_append]); omega) (by obtain ⟨la1, la2, lb1, lb2, lM1, LP, hN, hfull, lA, lB⟩ := HLN.out; obtain ⟨e1, e2, e3, e4, e5, hen⟩ := HAR.out; (try simp only [List.length_append]); omega) (by obtain ⟨la1, la2, lb1, lb2, lM1, LP, hN, hfull, lA, lB⟩ := HLN.out; obtain ⟨e1, e2, e3, e4, e5, hen⟩ := HAR.out; (try simp only [List.length_append]); omega) dA1 dB1 sA1 sB1 (by obtain ⟨la1, la2, lb1, lb2, lM1, LP, hN, hfull, lA, lB⟩ := HLN.out; obtain ⟨e1, e2, e3, e4, e5, hen⟩ := HAR.out; (try simp only [List.length_append]); omega) (by obtain ⟨la1, la2, lb1, lb2, lM1, LP, hN, hfull, lA, lB⟩ := HLN.out; obtain ⟨e1, e2, e3, e4, e5, hen⟩ := HAR.out; (try simp only [List.length_append]); omega) (by obtain ⟨la1, la2, lb1, lb2, lM1, LP, hN, hfull, lA, lB⟩ := HLN.out; obtain ⟨e1, e2, e3, e4, e5, hen⟩ := HAR.out; (try simp only [List.length_append]); omega) hd1 (by have h9 := hb1; simp only [List.append_assoc] at h9 ⊢; exact h9)
              replace g := Lib.hid g
              go_wp2_with fail
              (with_reducible refine (g.out).mono ?_)
              rintro e w2 ⟨rfl, hg2, hb2, hd2⟩
              clear g
              have gr2 := igrown_trans gr1 hg2
              have hb3 : blk w2 g = some (rowC bn (P ++ mrg lt A1 B1 ++ mrg lt A2 B2 ++ S) ++ sp).toArray := by
                have z0 : A2 = [] := List.length_eq_zero_iff.1 (by obtain ⟨la1, la2, lb1, lb2, lM1, LP, hN, hfull, lA, lB⟩ := HLN.out; obtain ⟨e1, e2, e3, e4, e5, hen⟩ := HAR.out; (try simp only [List.length_append]); omega)
                have h9 := hb2
                rw [z0] at h9 ⊢
                simpa [mrg_nil_left, mrg_nil_right] using h9
              go_wp2
              go_end0
              refine ⟨rfl, gr2, ?_, hd2⟩
              have h9 := hb3
              rw [HF.out.1]
              simp only [List.append_assoc] at h9 ⊢
              exact h9
            · have w2a : decide ((mid : Int) < (en : Int)) = true := decide_eq_true (by omega)
              have w2a' : decide (mid < en) = true := decide_eq_true (by omega)
              have w2b : decide ((en : Int) < (b : Int)) = false := decide_eq_false (by omega)
              have w2b' : decide (en < b) = false := decide_eq_false (by omega)
              have g := GR.out (P ++ A1) A2 B1 (B2 ++ S) i m en _ (by obtain ⟨la1, la2, lb1, lb2, lM1, LP, hN, hfull, lA, lB⟩ := HLN.out; obtain ⟨e1, e2, e3, e4, e5, hen⟩ := HAR.out; (try simp only [List.length_append]); omega) (by obtain ⟨la1, la2, lb1, lb2, lM1, LP, hN, hfull, lA, lB⟩ := HLN.out; obtain ⟨e1, e2, e3, e4, e5, hen⟩ := HAR.out; (try simp only [List.length_append]); omega) (by obtain ⟨la1, la2, lb1, lb2, lM1, LP, hN, hfull, lA, lB⟩ := HLN.out; obtain ⟨e1, e2, e3, e4, e5, hen⟩ := HAR.out; (try simp only [List.length_append]); omega) (by obtain ⟨la1, la2, lb1, lb2, lM1, LP, hN, hfull, lA, lB⟩ := HLN.out; obtain ⟨e1, e2, e3, e4, e5, hen⟩ := HAR.out; (try simp only [List.length_append]); omega) (by obtain ⟨la1, la2, lb1, lb2, lM1, LP, hN, hfull, lA, lB⟩ := HLN.out; obtain ⟨e1, e2, e3, e4, e5, hen⟩ := HAR.out; (try simp only [List.length_append]); omega) (by obtain ⟨la1, la2, lb1, lb2, lM1, LP, hN, hfull, lA, lB⟩ := HLN.out; obtain ⟨e1, e2, e3, e4, e5, hen⟩ := HAR.out; (try simp only [List.length_append]); omega) hdC hbC
              replace g := Lib.hid g
              go_wp2_with fail
              (with_reducible refine (g.out).mono ?_)
              rintro e w1 ⟨rfl, hg1, hb1, hd1⟩
              clear g
              have gr1 := igrown_trans hgr hg1
              have g := HIH.out P A1 B1 (A2 ++ (B2 ++ S)) a i mid _ (by obtain ⟨la1, la2, lb1, lb2, lM1, LP, hN, hfull, lA, lB⟩ := HLN.out; obtain ⟨e1, e2, e3, e4, e5, hen⟩ := HAR.out; (try simp only [List.length_append]); omega) (by obtain ⟨la1, la2, lb1, lb2, lM1, LP, hN, hfull, lA, lB⟩ := HLN.out; obtain ⟨e1, e2, e3, e4, e5, hen⟩ := HAR.out; (try simp only [List.length_append]); omega) (by obtain ⟨la1, la2, lb1, lb2, lM1, LP, hN, hfull, lA, lB⟩ := HLN.out; obtain ⟨e1, e2, e3, e4, e5, hen⟩ := HAR.out; (try simp only [List.length_append]); omega) (by obtain ⟨la1, la2, lb1, lb2, lM1, LP, hN, hfull, lA, lB⟩ := HLN.out; obtain ⟨e1, e2, e3, e4, e5, hen⟩ := HAR.out; (try simp only [List.length_append]); omega) dA1 dB1 sA1 sB1 (by obtain ⟨la1, la2, lb1, lb2, lM1, LP, hN, hfull, lA, lB⟩ := HLN.out; obtain ⟨e1, e2, e3, e4, e5, hen⟩ := HAR.out; (try simp only [List.length_append]); omega) (by obtain ⟨la1, la2, lb1, lb2, lM1, LP, hN, hfull, lA, lB⟩ := HLN.out; obtain ⟨e1, e2, e3, e4, e5, hen⟩ := HAR.out; (try simp only [List.length_append]); omega) (by obtain ⟨la1, la2, lb1, lb2, lM1, LP, hN, hfull, lA, lB⟩ := HLN.out; obtain ⟨e1, e2, e3, e4, e5, hen⟩ := HAR.out; (try simp only [List.length_append]); omega) hd1 (by have h9 := hb1; simp only [List.append_assoc] at h9 ⊢; exact h9)
              replace g := Lib.hid g
              go_wp2_with fail
              (with_reducible refine (g.out).mono ?_)
              rintro e w2 ⟨rfl, hg2, hb2, hd2⟩
              clear g
              have gr2 := igrown_trans gr1 hg2
              have hb3 : blk w2 g = some (rowC bn (P ++ mrg lt A1 B1 ++ mrg lt A2 B2 ++ S) ++ sp).toArray := by
                have z0 : B2 = [] := List.length_eq_zero_iff.1 (by obtain ⟨la1, la2, lb1, lb2, lM1, LP, hN, hfull, lA, lB⟩ := HLN.out; obtain ⟨e1, e2, e3, e4, e5, hen⟩ := HAR.out; (try simp only [List.length_append]); omega)
                have h9 := hb2
                rw [z0] at h9 ⊢
                simpa [mrg_nil_left, mrg_nil_right] using h9
              go_wp2
              go_end0
              refine ⟨rfl, gr2, ?_, hd2⟩
              have h9 := hb3
              rw [HF.out.1]
              simp only [List.append_assoc] at h9 ⊢
              exact h9
          · have w1a : decide ((a : Int) < (i : Int)) = false := decide_eq_false (by omega)
            have w1a' : decide (a < i) = false := decide_eq_false (by omega)
            rcases (show (mid < en ∧ en < b) ∨ (¬ mid < en) ∨ (mid < en ∧ ¬ en < b) by omega) with ⟨x2, y2⟩ | x2 | ⟨x2, y2⟩
            · have w2a : decide ((mid : Int) < (en : Int)) = true := decide_eq_true (by omega)
              have w2a' : decide (mid < en) = true := decide_eq_true (by omega)
              have w2b : decide ((en : Int) < (b : Int)) = true := decide_eq_true (by omega)
              have w2b' : decide (en < b) = true := decide_eq_true (by omega)
              have g := GR.out (P ++ A1) A2 B1 (B2 ++ S) i m en _ (by obtain ⟨la1, la2, lb1, lb2, lM1, LP, hN, hfull, lA, lB⟩ := HLN.out; obtain ⟨e1, e2, e3, e4, e5, hen⟩ := HAR.out; (try simp only [List.length_append]); omega) (by obtain ⟨la1, la2, lb1, lb2, lM1, LP, hN, hfull, lA, lB⟩ := HLN.out; obtain ⟨e1, e2, e3, e4, e5, hen⟩ := HAR.out; (try simp only [List.length_append]); omega) (by obtain ⟨la1, la2, lb1, lb2, lM1, LP, hN, hfull, lA, lB⟩ := HLN.out; obtain ⟨e1, e2, e3, e4, e5, hen⟩ := HAR.out; (try simp only [List.length_append]); omega) (by obtain ⟨la1, la2, lb1, lb2, lM1, LP, hN, hfull, lA, lB⟩ := HLN.out; obtain ⟨e1, e2, e3, e4, e5, hen⟩ := HAR.out; (try simp only [List.length_append]); omega) (by obtain ⟨la1, la2, lb1, lb2, lM1, LP, hN, hfull, lA, lB⟩ := HLN.out; obtain ⟨e1, e2, e3, e4, e5, hen⟩ := HAR.out; (try simp only [List.length_append]); omega) (by obtain ⟨la1, la2, lb1, lb2, lM1, LP, hN, hfull, lA, lB⟩ := HLN.out; obtain ⟨e1, e2, e3, e4, e5, hen⟩ := HAR.out; (try simp only [List.length_append]); omega) hdC hbC
              replace g := Lib.hid g
              go_wp2_with fail
              (with_reducible refine (g.out).mono ?_)
              rintro e w1 ⟨rfl, hg1, hb1, hd1⟩
              clear g
              have gr1 := igrown_trans hgr hg1
              have hb2 : blk w1 g = some (rowC bn (P ++ mrg lt A1 B1 ++ (A2 ++ (B2 ++ S))) ++ sp).toArray := by
                have z0 : A1 = [] := List.length_eq_zero_iff.1 (by obtain ⟨la1, la2, lb1, lb2, lM1, LP, hN, hfull, lA, lB⟩ := HLN.out; obtain ⟨e1, e2, e3, e4, e5, hen⟩ := HAR.out; (try simp only [List.length_append]); omega)
                have h9 := hb1
                rw [z0] at h9 ⊢
                simpa [mrg_nil_left, mrg_nil_right] using h9
              have g := HIH.out (P ++ mrg lt A1 B1) A2 B2 S mid en b _ (by obtain ⟨la1, la2, lb1, lb2, lM1, LP, hN, hfull, lA, lB⟩ := HLN.out; obtain ⟨e1, e2, e3, e4, e5, hen⟩ := HAR.out; (try simp only [List.length_append]); omega) (by obtain ⟨la1, la2, lb1, lb2, lM1, LP, hN, hfull, lA, lB⟩ := HLN.out; obtain ⟨e1, e2, e3, e4, e5, hen⟩ := HAR.out; (try simp only [List.length_append]); omega) (by obtain ⟨la1, la2, lb1, lb2, lM1, LP, hN, hfull, lA, lB⟩ := HLN.out; obtain ⟨e1, e2, e3, e4, e5, hen⟩ := HAR.out; (try simp only [List.length_append]); omega) (by obtain ⟨la1, la2, lb1, lb2, lM1, LP, hN, hfull, lA, lB⟩ := HLN.out; obtain ⟨e1, e2, e3, e4, e5, hen⟩ := HAR.out; (try simp only [List.length_append]); omega) dA2 dB2 sA2 sB2 (by obtain ⟨la1, la2, lb1, lb2, lM1, LP, hN, hfull, lA, lB⟩ := HLN.out; obtain ⟨e1, e2, e3, e4, e5, hen⟩ := HAR.out; (try simp only [List.length_append]); omega) (by obtain ⟨la1, la2, lb1, lb2, lM1, LP, hN, hfull, lA, lB⟩ := HLN.out; obtain ⟨e1, e2, e3, e4, e5, hen⟩ := HAR.out; (try simp only [List.length_append]); omega) (by obtain ⟨la1, la2, lb1, lb2, lM1, LP, hN, hfull, lA, lB⟩ := HLN.out; obtain ⟨e1, e2, e3, e4, e5, hen⟩ := HAR.out; (try simp only [List.length_append]); omega) hd1 (by have h9 := hb2; simp only [List.append_assoc] at h9 ⊢; exact h9)
              replace g := Lib.hid g
              go_wp2_with fail
              (with_reducible refine (g.out).mono ?_)
              rintro e w3 ⟨rfl, hg3, hb3, hd3⟩
              clear g
              have gr3 := igrown_trans gr1 hg3
              go_wp2
              go_end0
              refine ⟨rfl, gr3, ?_, hd3⟩
              have h9 := hb3
              rw [HF.out.1]
              simp only [List.append_assoc] at h9 ⊢
              exact h9
            · have w2a : decide ((mid : Int) < (en : Int)) = false := decide_eq_false (by omega)
              have w2a' : decide (mid < en) = false := decide_eq_false (by omega)
              have g := GR.out (P ++ A1) A2 B1 (B2 ++ S) i m en _ (by obtain ⟨la1, la2, lb1, lb2, lM1, LP, hN, hfull, lA, lB⟩ := HLN.out; obtain ⟨e1, e2, e3, e4, e5, hen⟩ := HAR.out; (try simp only [List.length_append]); omega) (by obtain ⟨la1, la2, lb1, lb2, lM1, LP, hN, hfull, lA, lB⟩ := HLN.out; obtain ⟨e1, e2, e3, e4, e5, hen⟩ := HAR.out; (try simp only [List.length_append]); omega) (by obtain ⟨la1, la2, lb1, lb2, lM1, LP, hN, hfull, lA, lB⟩ := HLN.out; obtain ⟨e1, e2, e3, e4, e5, hen⟩ := HAR.out; (try simp only [List.length_append]); omega) (by obtain ⟨la1, la2, lb1, lb2, lM1, LP, hN, hfull, lA, lB⟩ := HLN.out; obtain ⟨e1, e2, e3, e4, e5, hen⟩ := HAR.out; (try simp only [List.length_append]); omega) (by obtain ⟨la1, la2, lb1, lb2, lM1, LP, hN, hfull, lA, lB⟩ := HLN.out; obtain ⟨e1, e2, e3, e4, e5, hen⟩ := HAR.out; (try simp only [List.length_append]); omega) (by obtain ⟨la1, la2, lb1, lb2, lM1, LP, hN, hfull, lA, lB⟩ := HLN.out; obtain ⟨e1, e2, e3, e4, e5, hen⟩ := HAR.out; (try simp only [List.length_append]); omega) hdC hbC
              replace g := Lib.hid g
              go_wp2_with fail
              (with_reducible refine (g.out).mono ?_)
              rintro e w1 ⟨rfl, hg1, hb1, hd1⟩
              clear g
              have gr1 := igrown_trans hgr hg1
              have hb2 : blk w1 g = some (rowC bn (P ++ mrg lt A1 B1 ++ (A2 ++ (B2 ++ S))) ++ sp).toArray := by
                have z0 : A1 = [] := List.length_eq_zero_iff.1 (by obtain ⟨la1, la2, lb1, lb2, lM1, LP, hN, hfull, lA, lB⟩ := HLN.out; obtain ⟨e1, e2, e3, e4, e5, hen⟩ := HAR.out; (try simp only [List.length_append]); omega)
                have h9 := hb1
                rw [z0] at h9 ⊢
                simpa [mrg_nil_left, mrg_nil_right] using h9
              have hb3 : blk w1 g = some (rowC bn (P ++ mrg lt A1 B1 ++ mrg lt A2 B2 ++ S) ++ sp).toArray := by
                have z0 : A2 = [] := List.length_eq_zero_iff.1 (by obtain ⟨la1, la2, lb1, lb2, lM1, LP, hN, hfull, lA, lB⟩ := HLN.out; obtain ⟨e1, e2, e3, e4, e5, hen⟩ := HAR.out; (try simp only [List.length_append]); omega)
                have h9 := hb2
                rw [z0] at h9 ⊢
                simpa [mrg_nil_left, mrg_nil_right] using h9
              go_wp2
              go_end0
              refine ⟨rfl, gr1, ?_, hd1⟩
              have h9 := hb3
              rw [HF.out.1]
              simp only [List.append_assoc] at h9 ⊢
              exact h9
            · have w2a : decide ((mid : Int) < (en : Int)) = true := decide_eq_true (by omega)
              have w2a' : decide (mid < en) = true := decide_eq_true (by omega)
              have w2b : decide ((en : Int) < (b : Int)) = false := decide_eq_false (by omega)
              have w2b' : decide (en < b) = false := decide_eq_false (by omega)
              have g := GR.out (P ++ A1) A2 B1 (B2 ++ S) i m en _ (by obtain ⟨la1, la2, lb1, lb2, lM1, LP, hN, hfull, lA, lB⟩ := HLN.out; obtain ⟨e1, e2, e3, e4, e5, hen⟩ := HAR.out; (try simp only [List.length_append]); omega) (by obtain ⟨la1, la2, lb1, lb2, lM1, LP, hN, hfull, lA, lB⟩ := HLN.out; obtain ⟨e1, e2, e3, e4, e5, hen⟩ := HAR.out; (try simp only [List.length_append]); omega) (by obtain ⟨la1, la2, lb1, lb2, lM1, LP, hN, hfull, lA, lB⟩ := HLN.out; obtain ⟨e1, e2, e3, e4, e5, hen⟩ := HAR.out; (try simp only [List.length_append]); omega) (by obtain ⟨la1, la2, lb1, lb2, lM1, LP, hN, hfull, lA, lB⟩ := HLN.out; obtain ⟨e1, e2, e3, e4, e5, hen⟩ := HAR.out; (try simp only [List.length_append]); omega) (by obtain ⟨la1, la2, lb1, lb2, lM1, LP, hN, hfull, lA, lB⟩ := HLN.out; obtain ⟨e1, e2, e3, e4, e5, hen⟩ := HAR.out; (try simp only [List.length_append]); omega) (by obtain ⟨la1, la2, lb1, lb2, lM1, LP, hN, hfull, lA, lB⟩ := HLN.out; obtain ⟨e1, e2, e3, e4, e5, hen⟩ := HAR.out; (try simp only [List.length_append]); omega) hdC hbC
              replace g := Lib.hid g
              go_wp2_with fail
              (with_reducible refine (g.out).mono ?_)
              rintro e w1 ⟨rfl, hg1, hb1, hd1⟩
              clear g
              have gr1 := igrown_trans hgr hg1
              have hb2 : blk w1 g = some (rowC bn (P ++ mrg lt A1 B1 ++ (A2 ++ (B2 ++ S))) ++ sp).toArray := by
                have z0 : A1 = [] := List.length_eq_zero_iff.1 (by obtain ⟨la1, la2, lb1, lb2, lM1, LP, hN, hfull, lA, lB⟩ := HLN.out; obtain ⟨e1, e2, e3, e4, e5, hen⟩ := HAR.out; (try simp only [List.length_append]); omega)
                have h9 := hb1
                rw [z0] at h9 ⊢
                simpa [mrg_nil_left, mrg_nil_right] using h9
              have hb3 : blk w1 g = some (rowC bn (P ++ mrg lt A1 B1 ++ mrg lt A2 B2 ++ S) ++ sp).toArray := by
                have z0 : B2 = [] := List.length_eq_zero_iff.1 (by obtain ⟨la1, la2, lb1, lb2, lM1, LP, hN, hfull, lA, lB⟩ := HLN.out; obtain ⟨e1, e2, e3, e4, e5, hen⟩ := HAR.out; (try simp only [List.length_append]); omega)
                have h9 := hb2
                rw [z0] at h9 ⊢
                simpa [mrg_nil_left, mrg_nil_right] using h9
              go_wp2
              go_end0
              refine ⟨rfl, gr1, ?_, hd1⟩
              have h9 := hb3
              rw [HF.out.1]
              simp only [List.append_assoc] at h9 ⊢
              exact h9
          · have w1a : decide ((a : Int) < (i : Int)) = true := decide_eq_true (by omega)
            have w1a' : decide (a < i) = true := decide_eq_true (by omega)
            have w1b : decide ((i : Int) < (mid : Int)) = false := decide_eq_false (by omega)
            have w1b' : decide (i < mid) = false := decide_eq_false (by omega)
            rcases (show (mid < en ∧ en < b) ∨ (¬ mid < en) ∨ (mid < en ∧ ¬ en < b) by omega) with ⟨x2, y2⟩ | x2 | ⟨x2, y2⟩
            · have w2a : decide ((mid : Int) < (en : Int)) = true := decide_eq_true (by omega)
              have w2a' : decide (mid < en) = true := decide_eq_true (by omega)
              have w2b : decide ((en : Int) < (b : Int)) = true := decide_eq_true (by omega)
              have w2b' : decide (en < b) = true := decide_eq_true (by omega)
              have g := GR.out (P ++ A1) A2 B1 (B2 ++ S) i m en _ (by obtain ⟨la1, la2, lb1, lb2, lM1, LP, hN, hfull, lA, lB⟩ := HLN.out; obtain ⟨e1, e2, e3, e4, e5, hen⟩ := HAR.out; (try simp only [List.length_append]); omega) (by obtain ⟨la1, la2, lb1, lb2, lM1, LP, hN, hfull, lA, lB⟩ := HLN.out; obtain ⟨e1, e2, e3, e4, e5, hen⟩ := HAR.out; (try simp only [List.length_append]); omega) (by obtain ⟨la1, la2, lb1, lb2, lM1, LP, hN, hfull, lA, lB⟩ := HLN.out; obtain ⟨e1, e2, e3, e4, e5, hen⟩ := HAR.out; (try simp only [List.length_append]); omega) (by obtain ⟨la1, la2, lb1, lb2, lM1, LP, hN, hfull, lA, lB⟩ := HLN.out; obtain ⟨e1, e2, e3, e4, e5, hen⟩ := HAR.out; (try simp only [List.length_append]); omega) (by obtain ⟨la1, la2, lb1, lb2, lM1, LP, hN, hfull, lA, lB⟩ := HLN.out; obtain ⟨e1, e2, e3, e4, e5, hen⟩ := HAR.out; (try simp only [List.length_append]); omega) (by obtain ⟨la1, la2, lb1, lb2, lM1, LP, hN, hfull, lA, lB⟩ := HLN.out; obtain ⟨e1, e2, e3, e4, e5, hen⟩ := HAR.out; (try simp only [List.length_append]); omega) hdC hbC
              replace g := Lib.hid g
              go_wp2_with fail
              (with_reducible refine (g.out).mono ?_)
              rintro e w1 ⟨rfl, hg1, hb1, hd1⟩
              clear g
              have gr1 := igrown_trans hgr hg1
              have hb2 : blk w1 g = some (rowC bn (P ++ mrg lt A1 B1 ++ (A2 ++ (B2 ++ S))) ++ sp).toArray := by
                have z0 : B1 = [] := List.length_eq_zero_iff.1 (by obtain ⟨la1, la2, lb1, lb2, lM1, LP, hN, hfull, lA, lB⟩ := HLN.out; obtain ⟨e1, e2, e3, e4, e5, hen⟩ := HAR.out; (try simp only [List.length_append]); omega)
                have h9 := hb1
                rw [z0] at h9 ⊢
                simpa [mrg_nil_left, mrg_nil_right] using h9
              have g := HIH.out (P ++ mrg lt A1 B1) A2 B2 S mid en b _ (by obtain ⟨la1, la2, lb1, lb2, lM1, LP, hN, hfull, lA, lB⟩ := HLN.out; obtain ⟨e1, e2, e3, e4, e5, hen⟩ := HAR.out; (try simp only [List.length_append]); omega) (by obtain ⟨la1, la2, lb1, lb2, lM1, LP, hN, hfull, lA, lB⟩ := HLN.out; obtain ⟨e1, e2, e3, e4, e5, hen⟩ := HAR.out; (try simp only [List.length_append]); omega) (by obtain ⟨la1, la2, lb1, lb2, lM1, LP, hN, hfull, lA, lB⟩ := HLN.out; obtain ⟨e1, e2, e3, e4, e5, hen⟩ := HAR.out; (try simp only [List.length_append]); omega) (by obtain ⟨la1, la2, lb1, lb2, lM1, LP, hN, hfull, lA, lB⟩ := HLN.out; obtain ⟨e1, e2, e3, e4, e5, hen⟩ := HAR.out; (try simp only [List.length_append]); omega) dA2 dB2 sA2 sB2 (by obtain ⟨la1, la2, lb1, lb2, lM1, LP, hN, hfull, lA, lB⟩ := HLN.out; obtain ⟨e1, e2, e3, e4, e5, hen⟩ := HAR.out; (try simp only [List.length_append]); omega) (by obtain ⟨la1, la2, lb1, lb2, lM1, LP, hN, hfull, lA, lB⟩ := HLN.out; obtain ⟨e1, e2, e3, e4, e5, hen⟩ := HAR.out; (try simp only [List.length_append]); omega) (by obtain ⟨la1, la2, lb1, lb2, lM1, LP, hN, hfull, lA, lB⟩ := HLN.out; obtain ⟨e1, e2, e3, e4, e5, hen⟩ := HAR.out; (try simp only [List.length_append]); omega) hd1 (by have h9 := hb2; simp only [List.append_assoc] at h9 ⊢; exact h9)
              replace g := Lib.hid g
              go_wp2_with fail
              (with_reducible refine (g.out).mono ?_)
              rintro e w3 ⟨rfl, hg3, hb3, hd3⟩
              clear g
              have gr3 := igrown_trans gr1 hg3
              go_wp2
              go_end0
              refine ⟨rfl, gr3, ?_, hd3⟩
              have h9 := hb3
              rw [HF.out.1]
              simp only [List.append_assoc] at h9 ⊢
              exact h9
            · have w2a : decide ((mid : Int) < (en : Int)) = false := decide_eq_false (by omega)
              have w2a' : decide (mid < en) = false := decide_eq_false (by omega)
              have g := GR.out (P ++ A1) A2 B1 (B2 ++ S) i m en _ (by obtain ⟨la1, la2, lb1, lb2, lM1, LP, hN, hfull, lA, lB⟩ := HLN.out; obtain ⟨e1, e2, e3, e4, e5, hen⟩ := HAR.out; (try simp only [List.length_append]); omega) (by obtain ⟨la1, la2, lb1, lb2, lM1, LP, hN, hfull, lA, lB⟩ := HLN.out; obtain ⟨e1, e2, e3, e4, e5, hen⟩ := HAR.out; (try simp only [List.length_append]); omega) (by obtain ⟨la1, la2, lb1, lb2, lM1, LP, hN, hfull, lA, lB⟩ := HLN.out; obtain ⟨e1, e2, e3, e4, e5, hen⟩ := HAR.out; (try simp only [List.length_append]); omega) (by obtain ⟨la1, la2, lb1, lb2, lM1, LP, hN, hfull, lA, lB⟩ := HLN.out; obtain ⟨e1, e2, e3, e4, e5, hen⟩ := HAR.out; (try simp only [List.length_append]); omega) (by obtain ⟨la1, la2, lb1, lb2, lM1, LP, hN, hfull, lA, lB⟩ := HLN.out; obtain ⟨e1, e2, e3, e4, e5, hen⟩ := HAR.out; (try simp only [List.length_append]); omega) (by obtain ⟨la1, la2, lb1, lb2, lM1, LP, hN, hfull, lA, lB⟩ := HLN.out; obtain ⟨e1, e2, e3, e4, e5, hen⟩ := HAR.out; (try simp only [List.length_append]); omega) hdC hbC
              replace g := Lib.hid g
              go_wp2_with fail
              (with_reducible refine (g.out).mono ?_)
              rintro e w1 ⟨rfl, hg1, hb1, hd1⟩
              clear g
              have gr1 := igrown_trans hgr hg1
              have hb2 : blk w1 g = some (rowC bn (P ++ mrg lt A1 B1 ++ (A2 ++ (B2 ++ S))) ++ sp).toArray := by
                have z0 : B1 = [] := List.length_eq_zero_iff.1 (by obtain ⟨la1, la2, lb1, lb2, lM1, LP, hN, hfull, lA, lB⟩ := HLN.out; obtain ⟨e1, e2, e3, e4, e5, hen⟩ := HAR.out; (try simp only [List.length_append]); omega)
                have h9 := hb1
                rw [z0] at h9 ⊢
                simpa [mrg_nil_left, mrg_nil_right] using h9
              have hb3 : blk w1 g = some (rowC bn (P ++ mrg lt A1 B1 ++ mrg lt A2 B2 ++ S) ++ sp).toArray := by
                have z0 : A2 = [] := List.length_eq_zero_iff.1 (by obtain ⟨la1, la2, lb1, lb2, lM1, LP, hN, hfull, lA, lB⟩ := HLN.out; obtain ⟨e1, e2, e3, e4, e5, hen⟩ := HAR.out; (try simp only [List.length_append]); omega)
                have h9 := hb2
                rw [z0] at h9 ⊢
                simpa [mrg_nil_left, mrg_nil_right] using h9
              go_wp2
              go_end0
              refine ⟨rfl, gr1, ?_, hd1⟩
              have h9 := hb3
              rw [HF.out.1]
              simp only [List.append_assoc] at h9 ⊢
              exact h9
            · have w2a : decide ((mid : Int) < (en : Int)) = true := decide_eq_true (by omega)
              have w2a' : decide (mid < en) = true := decide_eq_true (by omega)
              have w2b : decide ((en : Int) < (b : Int)) = false := decide_eq_false (by omega)
              have w2b' : decide (en < b) = false := decide_eq_false (by omega)
              have g := GR.out (P ++ A1) A2 B1 (B2 ++ S) i m en _ (by obtain ⟨la1, la2, lb1, lb2, lM1, LP, hN, hfull, lA, lB⟩ := HLN.out; obtain ⟨e1, e2, e3, e4, e5, hen⟩ := HAR.out; (try simp only [List.length_append]); omega) (by obtain ⟨la1, la2, lb1, lb2, lM1, LP, hN, hfull, lA, lB⟩ := HLN.out; obtain ⟨e1, e2, e3, e4, e5, hen⟩ := HAR.out; (try simp only [List.length_append]); omega) (by obtain ⟨la1, la2, lb1, lb2, lM1, LP, hN, hfull, lA, lB⟩ := HLN.out; obtain ⟨e1, e2, e3, e4, e5, hen⟩ := HAR.out; (try simp only [List.length_append]); omega) (by obtain ⟨la1, la2, lb1, lb2, lM1, LP, hN, hfull, lA, lB⟩ := HLN.out; obtain ⟨e1, e2, e3, e4, e5, hen⟩ := HAR.out; (try simp only [List.length_append]); omega) (by obtain ⟨la1, la2, lb1, lb2, lM1, LP, hN, hfull, lA, lB⟩ := HLN.out; obtain ⟨e1, e2, e3, e4, e5, hen⟩ := HAR.out; (try simp only [List.length_append]); omega) (by obtain ⟨la1, la2, lb1, lb2, lM1, LP, hN, hfull, lA, lB⟩ := HLN.out; obtain ⟨e1, e2, e3, e4, e5, hen⟩ := HAR.out; (try simp only [List.length_append]); omega) hdC hbC
              replace g := Lib.hid g
              go_wp2_with fail
              (with_reducible refine (g.out).mono ?_)
              rintro e w1 ⟨rfl, hg1, hb1, hd1⟩
              clear g
              have gr1 := igrown_trans hgr hg1
              have hb2 : blk w1 g = some (rowC bn (P ++ mrg lt A1 B1 ++ (A2 ++ (B2 ++ S))) ++ sp).toArray := by
                have z0 : B1 = [] := List.length_eq_zero_iff.1 (by obtain ⟨la1, la2, lb1, lb2, lM1, LP, hN, hfull, lA, lB⟩ := HLN.out; obtain ⟨e1, e2, e3, e4, e5, hen⟩ := HAR.out; (try simp only [List.length_append]); omega)
                have h9 := hb1
                rw [z0] at h9 ⊢
                simpa [mrg_nil_left, mrg_nil_right] using h9
              have hb3 : blk w1 g = some (rowC bn (P ++ mrg lt A1 B1 ++ mrg lt A2 B2 ++ S) ++ sp).toArray := by
                have z0 : B2 = [] := List.length_eq_zero_iff.1 (by obtain ⟨la1, la2, lb1, lb2, lM1, LP, hN, hfull, lA, lB⟩ := HLN.out; obtain ⟨e1, e2, e3, e4, e5, hen⟩ := HAR.out; (try simp only [List.length_append]); omega)
                have h9 := hb2
                rw [z0] at h9 ⊢
                simpa [mrg_nil_left, mrg_nil_right] using h9
              go_wp2
              go_end0
              refine ⟨rfl, gr1, ?_, hd1⟩
              have h9 := hb3
              rw [HF.out.1]
              simp only [List.append_assoc] at h9 ⊢
              exact h9
        · have w0a : decide ((i : Int) < (m : Int)) = false := decide_eq_false (by omega)
          have w0a' : decide (i < m) = false := decide_eq_false (by omega)
          rcases (show (a < i ∧ i < mid) ∨ (¬ a < i) ∨ (a < i ∧ ¬ i < mid) by omega) with ⟨x1, y1⟩ | x1 | ⟨x1, y1⟩
          · have w1a : decide ((a : Int) < (i : Int)) = true := decide_eq_true (by omega)
            have w1a' : decide (a < i) = true := decide_eq_true (by omega)
            have w1b : decide ((i : Int) < (mid : Int)) = true := decide_eq_true (by omega)
            have w1b' : decide (i < mid) = true := decide_eq_true (by omega)
            rcases (show (mid < en ∧ en < b) ∨ (¬ mid < en) ∨ (mid < en ∧ ¬ en < b) by omega) with ⟨x2, y2⟩ | x2 | ⟨x2, y2⟩
            · have w2a : decide ((mid : Int) < (en : Int)) = true := decide_eq_true (by omega)
              have w2a' : decide (mid < en) = true := decide_eq_true (by omega)
              have w2b : decide ((en : Int) < (b : Int)) = true := decide_eq_true (by omega)
              have w2b' : decide (en < b) = true := decide_eq_true (by omega)
              have hb1 : blk wr g = some (rowC bn (P ++ A1 ++ B1 ++ A2 ++ (B2 ++ S)) ++ sp).toArray := by
                have z0 : A2 = [] := List.length_eq_zero_iff.1 (by obtain ⟨la1, la2, lb1, lb2, lM1, LP, hN, hfull, lA, lB⟩ := HLN.out; obtain ⟨e1, e2, e3, e4, e5, hen⟩ := HAR.out; (try simp only [List.length_append]); omega)
                have h9 := hbC
                rw [z0] at h9 ⊢
                simpa [mrg_nil_left, mrg_nil_right] using h9
              have g := HIH.out P A1 B1 (A2 ++ (B2 ++ S)) a i mid _ (by obtain ⟨la1, la2, lb1, lb2, lM1, LP, hN, hfull, lA, lB⟩ := HLN.out; obtain ⟨e1, e2, e3, e4, e5, hen⟩ := HAR.out; (try simp only [List.length_append]); omega) (by obtain ⟨la1, la2, lb1, lb2, lM1, LP, hN, hfull, lA, lB⟩ := HLN.out; obtain ⟨e1, e2, e3, e4, e5, hen⟩ := HAR.out; (try simp only [List.length_append]); omega) (by obtain ⟨la1, la2, lb1, lb2, lM1, LP, hN, hfull, lA, lB⟩ := HLN.out; obtain ⟨e1, e2, e3, e4, e5, hen⟩ := HAR.out; (try simp only [List.length_append]); omega) (by obtain ⟨la1, la2, lb1, lb2, lM1, LP, hN, hfull, lA, lB⟩ := HLN.out; obtain ⟨e1, e2, e3, e4, e5, hen⟩ := HAR.out; (try simp only [List.length_append]); omega) dA1 dB1 sA1 sB1 (by obtain ⟨la1, la2, lb1, lb2, lM1, LP, hN, hfull, lA, lB⟩ := HLN.out; obtain ⟨e1, e2, e3, e4, e5, hen⟩ := HAR.out; (try simp only [List.length_append]); omega) (by obtain ⟨la1, la2, lb1, lb2, lM1, LP, hN, hfull, lA, lB⟩ := HLN.out; obtain ⟨e1, e2, e3, e4, e5, hen⟩ := HAR.out; (try simp only [List.length_append]); omega) (by obtain ⟨la1, la2, lb1, lb2, lM1, LP, hN, hfull, lA, lB⟩ := HLN.out; obtain ⟨e1, e2, e3, e4, e5, hen⟩ := HAR.out; (try simp only [List.length_append]); omega) hdC (by have h9 := hb1; simp only [List.append_assoc] at h9 ⊢; exact h9)
              replace g := Lib.hid g
              go_wp2_with fail
              (with_reducible refine (g.out).mono ?_)
              rintro e w2 ⟨rfl, hg2, hb2, hd2⟩
              clear g
              have gr2 := igrown_trans hgr hg2
              have g := HIH.out (P ++ mrg lt A1 B1) A2 B2 S mid en b _ (by obtain ⟨la1, la2, lb1, lb2, lM1, LP, hN, hfull, lA, lB⟩ := HLN.out; obtain ⟨e1, e2, e3, e4, e5, hen⟩ := HAR.out; (try simp only [List.length_append]); omega) (by obtain ⟨la1, la2, lb1, lb2, lM1, LP, hN, hfull, lA, lB⟩ := HLN.out; obtain ⟨e1, e2, e3, e4, e5, hen⟩ := HAR.out; (try simp only [List.length_append]); omega) (by obtain ⟨la1, la2, lb1, lb2, lM1, LP, hN, hfull, lA, lB⟩ := HLN.out; obtain ⟨e1, e2, e3, e4, e5, hen⟩ := HAR.out; (try simp only [List.length_append]); omega) (by obtain ⟨la1, la2, lb1, lb2, lM1, LP, hN, hfull, lA, lB⟩ := HLN.out; obtain ⟨e1, e2, e3, e4, e5, hen⟩ := HAR.out; (try simp only [List.length_append]); omega) dA2 dB2 sA2 sB2 (by obtain ⟨la1, la2, lb1, lb2, lM1, LP, hN, hfull, lA, lB⟩ := HLN.out; obtain ⟨e1, e2, e3, e4, e5, hen⟩ := HAR.out; (try simp only [List.length_append]); omega) (by obtain ⟨la1, la2, lb1, lb2, lM1, LP, hN, hfull, lA, lB⟩ := HLN.out; obtain ⟨e1, e2, e3, e4, e5, hen⟩ := HAR.out; (try simp only [List.length_append]); omega) (by obtain ⟨la1, la2, lb1, lb2, lM1, LP, hN, hfull, lA, lB⟩ := HLN.out; obtain ⟨e1, e2, e3, e4, e5, hen⟩ := HAR.out; (try simp only [List.length_append]); omega) hd2 (by have h9 := hb2; simp only [List.append_assoc] at h9 ⊢; exact h9)
              replace g := Lib.hid g
              go_wp2_with fail
              (with_reducible refine (g.out).mono ?_)
              rintro e w3 ⟨rfl, hg3, hb3, hd3⟩
              clear g
              have gr3 := igrown_trans gr2 hg3
              go_wp2
              go_end0
              refine ⟨rfl, gr3, ?_, hd3⟩
              have h9 := hb3
              rw [HF.out.1]
              simp only [List.append_assoc] at h9 ⊢
              exact h9
            · have w2a : decide ((mid : Int) < (en : Int)) = false := decide_eq_false (by omega)
              have w2a' : decide (mid < en) = false := decide_eq_false (by omega)
              have hb1 : blk wr g = some (rowC bn (P ++ A1 ++ B1 ++ A2 ++ (B2 ++ S)) ++ sp).toArray := by
                have z0 : A2 = [] := List.length_eq_zero_iff.1 (by obtain ⟨la1, la2, lb1, lb2, lM1, LP, hN, hfull, lA, lB⟩ := HLN.out; obtain ⟨e1, e2, e3, e4, e5, hen⟩ := HAR.out; (try simp only [List.length_append]); omega)
                have h9 := hbC
                rw [z0] at h9 ⊢
                simpa [mrg_nil_left, mrg_nil_right] using h9
              have g := HIH.out P A1 B1 (A2 ++ (B2 ++ S)) a i mid _ (by obtain ⟨la1, la2, lb1, lb2, lM1, LP, hN, hfull, lA, lB⟩ := HLN.out; obtain ⟨e1, e2, e3, e4, e5, hen⟩ := HAR.out; (try simp only [List.length_append]); omega) (by obtain ⟨la1, la2, lb1, lb2, lM1, LP, hN, hfull, lA, lB⟩ := HLN.out; obtain ⟨e1, e2, e3, e4, e5, hen⟩ := HAR.out; (try simp only [List.length_append]); omega) (by obtain ⟨la1, la2, lb1, lb2, lM1, LP, hN, hfull, lA, lB⟩ := HLN.out; obtain ⟨e1, e2, e3, e4, e5, hen⟩ := HAR.out; (try simp only [List.length_append]); omega) (by obtain ⟨la1, la2, lb1, lb2, lM1, LP, hN, hfull, lA, lB⟩ := HLN.out; obtain ⟨e1, e2, e3, e4, e5, hen⟩ := HAR.out; (try simp only [List.length_append]); omega) dA1 dB1 sA1 sB1 (by obtain ⟨la1, la2, lb1, lb2, lM1, LP, hN, hfull, lA, lB⟩ := HLN.out; obtain ⟨e1, e2, e3, e4, e5, hen⟩ := HAR.out; (try simp only [List.length_append]); omega) (by obtain ⟨la1, la2, lb1, lb2, lM1, LP, hN, hfull, lA, lB⟩ := HLN.out; obtain ⟨e1, e2, e3, e4, e5, hen⟩ := HAR.out; (try simp only [List.length_append]); omega) (by obtain ⟨la1, la2, lb1, lb2, lM1, LP, hN, hfull, lA, lB⟩ := HLN.out; obtain ⟨e1, e2, e3, e4, e5, hen⟩ := HAR.out; (try simp only [List.length_append]); omega) hdC (by have h9 := hb1; simp only [List.append_assoc] at h9 ⊢; exact h9)
              replace g := Lib.hid g
              go_wp2_with fail
              (with_reducible refine (g.out).mono ?_)
              rintro e w2 ⟨rfl, hg2, hb2, hd2⟩
              clear g
              have gr2 := igrown_trans hgr hg2
              have hb3 : blk w2 g = some (rowC bn (P ++ mrg lt A1 B1 ++ mrg lt A2 B2 ++ S) ++ sp).toArray := by
                have z0 : A2 = [] := List.length_eq_zero_iff.1 (by obtain ⟨la1, la2, lb1, lb2, lM1, LP, hN, hfull, lA, lB⟩ := HLN.out; obtain ⟨e1, e2, e3, e4, e5, hen⟩ := HAR.out; (try simp only [List.length_append]); omega)
                have h9 := hb2
                rw [z0] at h9 ⊢
                simpa [mrg_nil_left, mrg_nil_right] using h9
              go_wp2
              go_end0
              refine ⟨rfl, gr2, ?_, hd2⟩
              have h9 := hb3
              rw [HF.out.1]
              simp only [List.append_assoc] at h9 ⊢
              exact h9
            · have w2a : decide ((mid : Int) < (en : Int)) = true := decide_eq_true (by omega)
              have w2a' : decide (mid < en) = true := decide_eq_true (by omega)
              have w2b : decide ((en : Int) < (b : Int)) = false := decide_eq_false (by omega)
              have w2b' : decide (en < b) = false := decide_eq_false (by omega)
              have hb1 : blk wr g = some (rowC bn (P ++ A1 ++ B1 ++ A2 ++ (B2 ++ S)) ++ sp).toArray := by
                have z0 : A2 = [] := List.length_eq_zero_iff.1 (by obtain ⟨la1, la2, lb1, lb2, lM1, LP, hN, hfull, lA, lB⟩ := HLN.out; obtain ⟨e1, e2, e3, e4, e5, hen⟩ := HAR.out; (try simp only [List.length_append]); omega)
                have h9 := hbC
                rw [z0] at h9 ⊢
                simpa [mrg_nil_left, mrg_nil_right] using h9
              have g := HIH.out P A1 B1 (A2 ++ (B2 ++ S)) a i mid _ (by obtain ⟨la1, la2, lb1, lb2, lM1, LP, hN, hfull, lA, lB⟩ := HLN.out; obtain ⟨e1, e2, e3, e4, e5, hen⟩ := HAR.out; (try simp only [List.length_append]); omega) (by obtain ⟨la1, la2, lb1, lb2, lM1, LP, hN, hfull, lA, lB⟩ := HLN.out; obtain ⟨e1, e2, e3, e4, e5, hen⟩ := HAR.out; (try simp only [List.length_append]); omega) (by obtain ⟨la1, la2, lb1, lb2, lM1, LP, hN, hfull, lA, lB⟩ := HLN.out; obtain ⟨e1, e2, e3, e4, e5, hen⟩ := HAR.out; (try simp only [List.length_append]); omega) (by obtain ⟨la1, la2, lb1, lb2, lM1, LP, hN, hfull, lA, lB⟩ := HLN.out; obtain ⟨e1, e2, e3, e4, e5, hen⟩ := HAR.out; (try simp only [List.length_append]); omega) dA1 dB1 sA1 sB1 (by obtain ⟨la1, la2, lb1, lb2, lM1, LP, hN, hfull, lA, lB⟩ := HLN.out; obtain ⟨e1, e2, e3, e4, e5, hen⟩ := HAR.out; (try simp only [List.length_append]); omega) (by obtain ⟨la1, la2, lb1, lb2, lM1, LP, hN, hfull, lA, lB⟩ := HLN.out; obtain ⟨e1, e2, e3, e4, e5, hen⟩ := HAR.out; (try simp only [List.length_append]); omega) (by obtain ⟨la1, la2, lb1, lb2, lM1, LP, hN, hfull, lA, lB⟩ := HLN.out; obtain ⟨e1, e2, e3, e4, e5, hen⟩ := HAR.out; (try simp only [List.length_append]); omega) hdC (by have h9 := hb1; simp only [List.append_assoc] at h9 ⊢; exact h9)
              replace g := Lib.hid g
              go_wp2_with fail
              (with_reducible refine (g.out).mono ?_)
              rintro e w2 ⟨rfl, hg2, hb2, hd2⟩
              clear g
              have gr2 := igrown_trans hgr hg2
              have hb3 : blk w2 g = some (rowC bn (P ++ mrg lt A1 B1 ++ mrg lt A2 B2 ++ S) ++ sp).toArray := by
                have z0 : B2 = [] := List.length_eq_zero_iff.1 (by obtain ⟨la1, la2, lb1, lb2, lM1, LP, hN, hfull, lA, lB⟩ := HLN.out; obtain ⟨e1, e2, e3, e4, e5, hen⟩ := HAR.out; (try simp only [List.length_append]); omega)
                have h9 := hb2
                rw [z0] at h9 ⊢
                simpa [mrg_nil_left, mrg_nil_right] using h9
              go_wp2
              go_end0
              refine ⟨rfl, gr2, ?_, hd2⟩
              have h9 := hb3
              rw [HF.out.1]
              simp only [List.append_assoc] at h9 ⊢
              exact h9
          · have w1a : decide ((a : Int) < (i : Int)) = false := decide_eq_false (by omega)
            have w1a' : decide (a < i) = false := decide_eq_false (by omega)
            rcases (show (mid < en ∧ en < b) ∨ (¬ mid < en) ∨ (mid < en ∧ ¬ en < b) by omega) with ⟨x2, y2⟩ | x2 | ⟨x2, y2⟩
            · have w2a : decide ((mid : Int) < (en : Int)) = true := decide_eq_true (by omega)
              have w2a' : decide (mid < en) = true := decide_eq_true (by omega)
              have w2b : decide ((en : Int) < (b : Int)) = true := decide_eq_true (by omega)
              have w2b' : decide (en < b) = true := decide_eq_true (by omega)
              have hb1 : blk wr g = some (rowC bn (P ++ A1 ++ B1 ++ A2 ++ (B2 ++ S)) ++ sp).toArray := by
                have z0 : A2 = [] := List.length_eq_zero_iff.1 (by obtain ⟨la1, la2, lb1, lb2, lM1, LP, hN, hfull, lA, lB⟩ := HLN.out; obtain ⟨e1, e2, e3, e4, e5, hen⟩ := HAR.out; (try simp only [List.length_append]); omega)
                have h9 := hbC
                rw [z0] at h9 ⊢
                simpa [mrg_nil_left, mrg_nil_right] using h9
              have hb2 : blk wr g = some (rowC bn (P ++ mrg lt A1 B1 ++ (A2 ++ (B2 ++ S))) ++ sp).toArray := by
                have z0 : A1 = [] := List.length_eq_zero_iff.1 (by obtain ⟨la1, la2, lb1, lb2, lM1, LP, hN, hfull, lA, lB⟩ := HLN.out; obtain ⟨e1, e2, e3, e4, e5, hen⟩ := HAR.out; (try simp only [List.length_append]); omega)
                have h9 := hb1
                rw [z0] at h9 ⊢
                simpa [mrg_nil_left, mrg_nil_right] using h9
              have g := HIH.out (P ++ mrg lt A1 B1) A2 B2 S mid en b _ (by obtain ⟨la1, la2, lb1, lb2, lM1, LP, hN, hfull, lA, lB⟩ := HLN.out; obtain ⟨e1, e2, e3, e4, e5, hen⟩ := HAR.out; (try simp only [List.length_append]); omega) (by obtain ⟨la1, la2, lb1, lb2, lM1, LP, hN, hfull, lA, lB⟩ := HLN.out; obtain ⟨e1, e2, e3, e4, e5, hen⟩ := HAR.out; (try simp only [List.length_append]); omega) (by obtain ⟨la1, la2, lb1, lb2, lM1, LP, hN, hfull, lA, lB⟩ := HLN.out; obtain ⟨e1, e2, e3, e4, e5, hen⟩ := HAR.out; (try simp only [List.length_append]); omega) (by obtain ⟨la1, la2, lb1, lb2, lM1, LP, hN, hfull, lA, lB⟩ := HLN.out; obtain ⟨e1, e2, e3, e4, e5, hen⟩ := HAR.out; (try simp only [List.length_append]); omega) dA2 dB2 sA2 sB2 (by obtain ⟨la1, la2, lb1, lb2, lM1, LP, hN, hfull, lA, lB⟩ := HLN.out; obtain ⟨e1, e2, e3, e4, e5, hen⟩ := HAR.out; (try simp only [List.length_append]); omega) (by obtain ⟨la1, la2, lb1, lb2, lM1, LP, hN, hfull, lA, lB⟩ := HLN.out; obtain ⟨e1, e2, e3, e4, e5, hen⟩ := HAR.out; (try simp only [List.length_append]); omega) (by obtain ⟨la1, la2, lb1, lb2, lM1, LP, hN, hfull, lA, lB⟩ := HLN.out; obtain ⟨e1, e2, e3, e4, e5, hen⟩ := HAR.out; (try simp only [List.length_append]); omega) hdC (by have h9 := hb2; simp only [List.append_assoc] at h9 ⊢; exact h9)
              replace g := Lib.hid g
              go_wp2_with fail
              (with_reducible refine (g.out).mono ?_)
              rintro e w3 ⟨rfl, hg3, hb3, hd3⟩
              clear g
              have gr3 := igrown_trans hgr hg3
              go_wp2
              go_end0
              refine ⟨rfl, gr3, ?_, hd3⟩
              have h9 := hb3
              rw [HF.out.1]
              simp only [List.append_assoc] at h9 ⊢
              exact h9
            · have w2a : decide ((mid : Int) < (en : Int)) = false := decide_eq_false (by omega)
              have w2a' : decide (mid < en) = false := decide_eq_false (by omega)
              have hb1 : blk wr g = some (rowC bn (P ++ A1 ++ B1 ++ A2 ++ (B2 ++ S)) ++ sp).toArray := by
                have z0 : A2 = [] := List.length_eq_zero_iff.1 (by obtain ⟨la1, la2, lb1, lb2, lM1, LP, hN, hfull, lA, lB⟩ := HLN.out; obtain ⟨e1, e2, e3, e4, e5, hen⟩ := HAR.out; (try simp only [List.length_append]); omega)
                have h9 := hbC
                rw [z0] at h9 ⊢
                simpa [mrg_nil_left, mrg_nil_right] using h9
              have hb2 : blk wr g = some (rowC bn (P ++ mrg lt A1 B1 ++ (A2 ++ (B2 ++ S))) ++ sp).toArray := by
                have z0 : A1 = [] := List.length_eq_zero_iff.1 (by obtain ⟨la1, la2, lb1, lb2, lM1, LP, hN, hfull, lA, lB⟩ := HLN.out; obtain ⟨e1, e2, e3, e4, e5, hen⟩ := HAR.out; (try simp only [List.length_append]); omega)
                have h9 := hb1
                rw [z0] at h9 ⊢
                simpa [mrg_nil_left, mrg_nil_right] using h9
              have hb3 : blk wr g = some (rowC bn (P ++ mrg lt A1 B1 ++ mrg lt A2 B2 ++ S) ++ sp).toArray := by
                have z0 : A2 = [] := List.length_eq_zero_iff.1 (by obtain ⟨la1, la2, lb1, lb2, lM1, LP, hN, hfull, lA, lB⟩ := HLN.out; obtain ⟨e1, e2, e3, e4, e5, hen⟩ := HAR.out; (try simp only [List.length_append]); omega)
                have h9 := hb2
                rw [z0] at h9 ⊢
                simpa [mrg_nil_left, mrg_nil_right] using h9
              go_wp2
              go_end0
              refine ⟨rfl, hgr, ?_, hdC⟩
              have h9 := hb3
              rw [HF.out.1]
              simp only [List.append_assoc] at h9 ⊢
              exact h9
            · have w2a : decide ((mid : Int) < (en : Int)) = true := decide_eq_true (by omega)
              have w2a' : decide (mid < en) = true := decide_eq_true (by omega)
              have w2b : decide ((en : Int) < (b : Int)) = false := decide_eq_false (by omega)
              have w2b' : decide (en < b) = false := decide_eq_false (by omega)
              have hb1 : blk wr g = some (rowC bn (P ++ A1 ++ B1 ++ A2 ++ (B2 ++ S)) ++ sp).toArray := by
                have z0 : A2 = [] := List.length_eq_zero_iff.1 (by obtain ⟨la1, la2, lb1, lb2, lM1, LP, hN, hfull, lA, lB⟩ := HLN.out; obtain ⟨e1, e2, e3, e4, e5, hen⟩ := HAR.out; (try simp only [List.length_append]); omega)
                have h9 := hbC
                rw [z0] at h9 ⊢
                simpa [mrg_nil_left, mrg_nil_right] using h9
              have hb2 : blk wr g = some (rowC bn (P ++ mrg lt A1 B1 ++ (A2 ++ (B2 ++ S))) ++ sp).toArray := by
                have z0 : A1 = [] := List.length_eq_zero_iff.1 (by obtain ⟨la1, la2, lb1, lb2, lM1, LP, hN, hfull, lA, lB⟩ := HLN.out; obtain ⟨e1, e2, e3, e4, e5, hen⟩ := HAR.out; (try simp only [List.length_append]); omega)
                have h9 := hb1
                rw [z0] at h9 ⊢
                simpa [mrg_nil_left, mrg_nil_right] using h9
              have hb3 : blk wr g = some (rowC bn (P ++ mrg lt A1 B1 ++ mrg lt A2 B2 ++ S) ++ sp).toArray := by
                have z0 : B2 = [] := List.length_eq_zero_iff.1 (by obtain ⟨la1, la2, lb1, lb2, lM1, LP, hN, hfull, lA, lB⟩ := HLN.out; obtain ⟨e1, e2, e3, e4, e5, hen⟩ := HAR.out; (try simp only [List.length_append]); omega)
                have h9 := hb2
                rw [z0] at h9 ⊢
                simpa [mrg_nil_left, mrg_nil_right] using h9
              go_wp2
              go_end0
              refine ⟨rfl, hgr, ?_, hdC⟩
              have h9 := hb3
              rw [HF.out.1]
              simp only [List.append_assoc] at h9 ⊢
              exact h9
          · have w1a : decide ((a : Int) < (i : Int)) = true := decide_eq_true (by omega)
            have w1a' : decide (a < i) = true := decide_eq_true (by omega)
            have w1b : decide ((i : Int) < (mid : Int)) = false := decide_eq_false (by omega)
            have w1b' : decide (i < mid) = false := decide_eq_false (by omega)
            rcases (show (mid < en ∧ en < b) ∨ (¬ mid < en) ∨ (mid < en ∧ ¬ en < b) by omega) with ⟨x2, y2⟩ | x2 | ⟨x2, y2⟩
            · have w2a : decide ((mid : Int) < (en : Int)) = true := decide_eq_true (by omega)
              have w2a' : decide (mid < en) = true := decide_eq_true (by omega)
              have w2b : decide ((en : Int) < (b : Int)) = true := decide_eq_true (by omega)
              have w2b' : decide (en < b) = true := decide_eq_true (by omega)
              have hb1 : blk wr g = some (rowC bn (P ++ A1 ++ B1 ++ A2 ++ (B2 ++ S)) ++ sp).toArray := by
                have z0 : A2 = [] := List.length_eq_zero_iff.1 (by obtain ⟨la1, la2, lb1, lb2, lM1, LP, hN, hfull, lA, lB⟩ := HLN.out; obtain ⟨e1, e2, e3, e4, e5, hen⟩ := HAR.out; (try simp only [List.length_append]); omega)
                have h9 := hbC
                rw [z0] at h9 ⊢
                simpa [mrg_nil_left, mrg_nil_right] using h9
              have hb2 : blk wr g = some (rowC bn (P ++ mrg lt A1 B1 ++ (A2 ++ (B2 ++ S))) ++ sp).toArray := by
                have z0 : B1 = [] := List.length_eq_zero_iff.1 (by obtain ⟨la1, la2, lb1, lb2, lM1, LP, hN, hfull, lA, lB⟩ := HLN.out; obtain ⟨e1, e2, e3, e4, e5, hen⟩ := HAR.out; (try simp only [List.length_append]); omega)
                have h9 := hb1
                rw [z0] at h9 ⊢
                simpa [mrg_nil_left, mrg_nil_right] using h9
              have g := HIH.out (P ++ mrg lt A1 B1) A2 B2 S mid en b _ (by obtain ⟨la1, la2, lb1, lb2, lM1, LP, hN, hfull, lA, lB⟩ := HLN.out; obtain ⟨e1, e2, e3, e4, e5, hen⟩ := HAR.out; (try simp only [List.length_append]); omega) (by obtain ⟨la1, la2, lb1, lb2, lM1, LP, hN, hfull, lA, lB⟩ := HLN.out; obtain ⟨e1, e2, e3, e4, e5, hen⟩ := HAR.out; (try simp only [List.length_append]); omega) (by obtain ⟨la1, la2, lb1, lb2, lM1, LP, hN, hfull, lA, lB⟩ := HLN.out; obtain ⟨e1, e2, e3, e4, e5, hen⟩ := HAR.out; (try simp only [List.length_append]); omega) (by obtain ⟨la1, la2, lb1, lb2, lM1, LP, hN, hfull, lA, lB⟩ := HLN.out; obtain ⟨e1, e2, e3, e4, e5, hen⟩ := HAR.out; (try simp only [List.length_append]); omega) dA2 dB2 sA2 sB2 (by obtain ⟨la1, la2, lb1, lb2, lM1, LP, hN, hfull, lA, lB⟩ := HLN.out; obtain ⟨e1, e2, e3, e4, e5, hen⟩ := HAR.out; (try simp only [List.length_append]); omega) (by obtain ⟨la1, la2, lb1, lb2, lM1, LP, hN, hfull, lA, lB⟩ := HLN.out; obtain ⟨e1, e2, e3, e4, e5, hen⟩ := HAR.out; (try simp only [List.length_append]); omega) (by obtain ⟨la1, la2, lb1, lb2, lM1, LP, hN, hfull, lA, lB⟩ := HLN.out; obtain ⟨e1, e2, e3, e4, e5, hen⟩ := HAR.out; (try simp only [List.length_append]); omega) hdC (by have h9 := hb2; simp only [List.append_assoc] at h9 ⊢; exact h9)
              replace g := Lib.hid g
              go_wp2_with fail
              (with_reducible refine (g.out).mono ?_)
              rintro e w3 ⟨rfl, hg3, hb3, hd3⟩
              clear g
              have gr3 := igrown_trans hgr hg3
              go_wp2
              go_end0
              refine ⟨rfl, gr3, ?_, hd3⟩
              have h9 := hb3
              rw [HF.out.1]
              simp only [List.append_assoc] at h9 ⊢
              exact h9
            · have w2a : decide ((mid : Int) < (en : Int)) = false := decide_eq_false (by omega)
              have w2a' : decide (mid < en) = false := decide_eq_false (by omega)
              have hb1 : blk wr g = some (rowC bn (P ++ A1 ++ B1 ++ A2 ++ (B2 ++ S)) ++ sp).toArray := by
                have z0 : A2 = [] := List.length_eq_zero_iff.1 (by obtain ⟨la1, la2, lb1, lb2, lM1, LP, hN, hfull, lA, lB⟩ := HLN.out; obtain ⟨e1, e2, e3, e4, e5, hen⟩ := HAR.out; (try simp only [List.length_append]); omega)
                have h9 := hbC
                rw [z0] at h9 ⊢
                simpa [mrg_nil_left, mrg_nil_right] using h9
              have hb2 : blk wr g = some (rowC bn (P ++ mrg lt A1 B1 ++ (A2 ++ (B2 ++ S))) ++ sp).toArray := by
                have z0 : B1 = [] := List.length_eq_zero_iff.1 (by obtain ⟨la1, la2, lb1, lb2, lM1, LP, hN, hfull, lA, lB⟩ := HLN.out; obtain ⟨e1, e2, e3, e4, e5, hen⟩ := HAR.out; (try simp only [List.length_append]); omega)
                have h9 := hb1
                rw [z0] at h9 ⊢
                simpa [mrg_nil_left, mrg_nil_right] using h9
              have hb3 : blk wr g = some (rowC bn (P ++ mrg lt A1 B1 ++ mrg lt A2 B2 ++ S) ++ sp).toArray := by
                have z0 : A2 = [] := List.length_eq_zero_iff.1 (by obtain ⟨la1, la2, lb1, lb2, lM1, LP, hN, hfull, lA, lB⟩ := HLN.out; obtain ⟨e1, e2, e3, e4, e5, hen⟩ := HAR.out; (try simp only [List.length_append]); omega)
                have h9 := hb2
                rw [z0] at h9 ⊢
                simpa [mrg_nil_left, mrg_nil_right] using h9
              go_wp2
              go_end0
              refine ⟨rfl, hgr, ?_, hdC⟩
              have h9 := hb3
              rw [HF.out.1]
              simp only [List.append_assoc] at h9 ⊢
              exact h9
            · have w2a : decide ((mid : Int) < (en : Int)) = true := decide_eq_true (by omega)
              have w2a' : decide (mid < en) = true := decide_eq_true (by omega)
              have w2b : decide ((en : Int) < (b : Int)) = false := decide_eq_false (by omega)
              have w2b' : decide (en < b) = false := decide_eq_false (by omega)
              have hb1 : blk wr g = some (rowC bn (P ++ A1 ++ B1 ++ A2 ++ (B2 ++ S)) ++ sp).toArray := by
                have z0 : A2 = [] := List.length_eq_zero_iff.1 (by obtain ⟨la1, la2, lb1, lb2, lM1, LP, hN, hfull, lA, lB⟩ := HLN.out; obtain ⟨e1, e2, e3, e4, e5, hen⟩ := HAR.out; (try simp only [List.length_append]); omega)
                have h9 := hbC
                rw [z0] at h9 ⊢
                simpa [mrg_nil_left, mrg_nil_right] using h9
              have hb2 : blk wr g = some (rowC bn (P ++ mrg lt A1 B1 ++ (A2 ++ (B2 ++ S))) ++ sp).toArray := by
                have z0 : B1 = [] := List.length_eq_zero_iff.1 (by obtain ⟨la1, la2, lb1, lb2, lM1, LP, hN, hfull, lA, lB⟩ := HLN.out; obtain ⟨e1, e2, e3, e4, e5, hen⟩ := HAR.out; (try simp only [List.length_append]); omega)
                have h9 := hb1
                rw [z0] at h9 ⊢
                simpa [mrg_nil_left, mrg_nil_right] using h9
              have hb3 : blk wr g = some (rowC bn (P ++ mrg lt A1 B1 ++ mrg lt A2 B2 ++ S) ++ sp).toArray := by
                have z0 : B2 = [] := List.length_eq_zero_iff.1 (by obtain ⟨la1, la2, lb1, lb2, lM1, LP, hN, hfull, lA, lB⟩ := HLN.out; obtain ⟨e1, e2, e3, e4, e5, hen⟩ := HAR.out; (try simp only [List.length_append]); omega)
                have h9 := hb2
                rw [z0] at h9 ⊢
                simpa [mrg_nil_left, mrg_nil_right] using h9
              go_wp2
              go_end0
              refine ⟨rfl, hgr, ?_, hdC⟩
              have h9 := hb3
              rw [HF.out.1]
              simp only [List.append_assoc] at h9 ⊢
              exact h9
        · have w0a : decide ((i : Int) < (m : Int)) = true := decide_eq_true (by omega)
          have w0a' : decide (i < m) = true := decide_eq_true (by omega)
          have w0b : decide ((m : Int) < (en : Int)) = false := decide_eq_false (by omega)
          have w0b' : decide (m < en) = false := decide_eq_false (by omega)
          rcases (show (a < i ∧ i < mid) ∨ (¬ a < i) ∨ (a < i ∧ ¬ i < mid) by omega) with ⟨x1, y1⟩ | x1 | ⟨x1, y1⟩
          · have w1a : decide ((a : Int) < (i : Int)) = true := decide_eq_true (by omega)
            have w1a' : decide (a < i) = true := decide_eq_true (by omega)
            have w1b : decide ((i : Int) < (mid : Int)) = true := decide_eq_true (by omega)
            have w1b' : decide (i < mid) = true := decide_eq_true (by omega)
            rcases (show (mid < en ∧ en < b) ∨ (¬ mid < en) ∨ (mid < en ∧ ¬ en < b) by omega) with ⟨x2, y2⟩ | x2 | ⟨x2, y2⟩
            · have w2a : decide ((mid : Int) < (en : Int)) = true := decide_eq_true (by omega)
              have w2a' : decide (mid < en) = true := decide_eq_true (by omega)
              have w2b : decide ((en : Int) < (b : Int)) = true := decide_eq_true (by omega)
              have w2b' : decide (en < b) = true := decide_eq_true (by omega)
              have hb1 : blk wr g = some (rowC bn (P ++ A1 ++ B1 ++ A2 ++ (B2 ++ S)) ++ sp).toArray := by
                have z0 : B1 = [] := List.length_eq_zero_iff.1 (by obtain ⟨la1, la2, lb1, lb2, lM1, LP, hN, hfull, lA, lB⟩ := HLN.out; obtain ⟨e1, e2, e3, e4, e5, hen⟩ := HAR.out; (try simp only [List.length_append]); omega)
                have h9 := hbC
                rw [z0] at h9 ⊢
                simpa [mrg_nil_left, mrg_nil_right] using h9
              have g := HIH.out P A1 B1 (A2 ++ (B2 ++ S)) a i mid _ (by obtain ⟨la1, la2, lb1, lb2, lM1, LP, hN, hfull, lA, lB⟩ := HLN.out; obtain ⟨e1, e2, e3, e4, e5, hen⟩ := HAR.out; (try simp only [List.length_append]); omega) (by obtain ⟨la1, la2, lb1, lb2, lM1, LP, hN, hfull, lA, lB⟩ := HLN.out; obtain ⟨e1, e2, e3, e4, e5, hen⟩ := HAR.out; (try simp only [List.length_append]); omega) (by obtain ⟨la1, la2, lb1, lb2, lM1, LP, hN, hfull, lA, lB⟩ := HLN.out; obtain ⟨e1, e2, e3, e4, e5, hen⟩ := HAR.out; (try simp only [List.length_append]); omega) (by obtain ⟨la1, la2, lb1, lb2, lM1, LP, hN, hfull, lA, lB⟩ := HLN.out; obtain ⟨e1, e2, e3, e4, e5, hen⟩ := HAR.out; (try simp only [List.length_append]); omega) dA1 dB1 sA1 sB1 (by obtain ⟨la1, la2, lb1, lb2, lM1, LP, hN, hfull, lA, lB⟩ := HLN.out; obtain ⟨e1, e2, e3, e4, e5, hen⟩ := HAR.out; (try simp only [List.length_append]); omega) (by obtain ⟨la1, la2, lb1, lb2, lM1, LP, hN, hfull, lA, lB⟩ := HLN.out; obtain ⟨e1, e2, e3, e4, e5, hen⟩ := HAR.out; (try simp only [List.length_append]); omega) (by obtain ⟨la1, la2, lb1, lb2, lM1, LP, hN, hfull, lA, lB⟩ := HLN.out; obtain ⟨e1, e2, e3, e4, e5, hen⟩ := HAR.out; (try simp only [List.length_append]); omega) hdC (by have h9 := hb1; simp only [List.append_assoc] at h9 ⊢; exact h9)
              replace g := Lib.hid g
              go_wp2_with fail
              (with_reducible refine (g.out).mono ?_)
              rintro e w2 ⟨rfl, hg2, hb2, hd2⟩
              clear g
              have gr2 := igrown_trans hgr hg2
              have g := HIH.out (P ++ mrg lt A1 B1) A2 B2 S mid en b _ (by obtain ⟨la1, la2, lb1, lb2, lM1, LP, hN, hfull, lA, lB⟩ := HLN.out; obtain ⟨e1, e2, e3, e4, e5, hen⟩ := HAR.out; (try simp only [List.length_append]); omega) (by obtain ⟨la1, la2, lb1, lb2, lM1, LP, hN, hfull, lA, lB⟩ := HLN.out; obtain ⟨e1, e2, e3, e4, e5, hen⟩ := HAR.out; (try simp only [List.length_append]); omega) (by obtain ⟨la1, la2, lb1, lb2, lM1, LP, hN, hfull, lA, lB⟩ := HLN.out; obtain ⟨e1, e2, e3, e4, e5, hen⟩ := HAR.out; (try simp only [List.length_append]); omega) (by obtain ⟨la1, la2, lb1, lb2, lM1, LP, hN, hfull, lA, lB⟩ := HLN.out; obtain ⟨e1, e2, e3, e4, e5, hen⟩ := HAR.out; (try simp only [List.length_append]); omega) dA2 dB2 sA2 sB2 (by obtain ⟨la1, la2, lb1, lb2, lM1, LP, hN, hfull, lA, lB⟩ := HLN.out; obtain ⟨e1, e2, e3, e4, e5, hen⟩ := HAR.out; (try simp only [List.length_append]); omega) (by obtain ⟨la1, la2, lb1, lb2, lM1, LP, hN, hfull, lA, lB⟩ := HLN.out; obtain ⟨e1, e2, e3, e4, e5, hen⟩ := HAR.out; (try simp only [List.length_append]); omega) (by obtain ⟨la1, la2, lb1, lb2, lM1, LP, hN, hfull, lA, lB⟩ := HLN.out; obtain ⟨e1, e2, e3, e4, e5, hen⟩ := HAR.out; (try simp only [List.length_append]); omega) hd2 (by have h9 := hb2; simp only [List.append_assoc] at h9 ⊢; exact h9)
              replace g := Lib.hid g
              go_wp2_with fail
              (with_reducible refine (g.out).mono ?_)
              rintro e w3 ⟨rfl, hg3, hb3, hd3⟩
              clear g
              have gr3 := igrown_trans gr2 hg3
              go_wp2
              go_end0
              refine ⟨rfl, gr3, ?_, hd3⟩
              have h9 := hb3
              rw [HF.out.1]
              simp only [List.append_assoc] at h9 ⊢
              exact h9
            · have w2a : decide ((mid : Int) < (en : Int)) = false := decide_eq_false (by omega)
              have w2a' : decide (mid < en) = false := decide_eq_false (by omega)
              have hb1 : blk wr g = some (rowC bn (P ++ A1 ++ B1 ++ A2 ++ (B2 ++ S)) ++ sp).toArray := by
                have z0 : B1 = [] := List.length_eq_zero_iff.1 (by obtain ⟨la1, la2, lb1, lb2, lM1, LP, hN, hfull, lA, lB⟩ := HLN.out; obtain ⟨e1, e2, e3, e4, e5, hen⟩ := HAR.out; (try simp only [List.length_append]); omega)
                have h9 := hbC
                rw [z0] at h9 ⊢
                simpa [mrg_nil_left, mrg_nil_right] using h9
              have g := HIH.out P A1 B1 (A2 ++ (B2 ++ S)) a i mid _ (by obtain ⟨la1, la2, lb1, lb2, lM1, LP, hN, hfull, lA, lB⟩ := HLN.out; obtain ⟨e1, e2, e3, e4, e5, hen⟩ := HAR.out; (try simp only [List.length_append]); omega) (by obtain ⟨la1, la2, lb1, lb2, lM1, LP, hN, hfull, lA, lB⟩ := HLN.out; obtain ⟨e1, e2, e3, e4, e5, hen⟩ := HAR.out; (try simp only [List.length_append]); omega) (by obtain ⟨la1, la2, lb1, lb2, lM1, LP, hN, hfull, lA, lB⟩ := HLN.out; obtain ⟨e1, e2, e3, e4, e5, hen⟩ := HAR.out; (try simp only [List.length_append]); omega) (by obtain ⟨la1, la2, lb1, lb2, lM1, LP, hN, hfull, lA, lB⟩ := HLN.out; obtain ⟨e1, e2, e3, e4, e5, hen⟩ := HAR.out; (try simp only [List.length_append]); omega) dA1 dB1 sA1 sB1 (by obtain ⟨la1, la2, lb1, lb2, lM1, LP, hN, hfull, lA, lB⟩ := HLN.out; obtain ⟨e1, e2, e3, e4, e5, hen⟩ := HAR.out; (try simp only [List.length_append]); omega) (by obtain ⟨la1, la2, lb1, lb2, lM1, LP, hN, hfull, lA, lB⟩ := HLN.out; obtain ⟨e1, e2, e3, e4, e5, hen⟩ := HAR.out; (try simp only [List.length_append]); omega) (by obtain ⟨la1, la2, lb1, lb2, lM1, LP, hN, hfull, lA, lB⟩ := HLN.out; obtain ⟨e1, e2, e3, e4, e5, hen⟩ := HAR.out; (try simp only [List.length_append]); omega) hdC (by have h9 := hb1; simp only [List.append_assoc] at h9 ⊢; exact h9)
              replace g := Lib.hid g
              go_wp2_with fail
              (with_reducible refine (g.out).mono ?_)
              rintro e w2 ⟨rfl, hg2, hb2, hd2⟩
              clear g
              have gr2 := igrown_trans hgr hg2
              have hb3 : blk w2 g = some (rowC bn (P ++ mrg lt A1 B1 ++ mrg lt A2 B2 ++ S) ++ sp).toArray := by
                have z0 : A2 = [] := List.length_eq_zero_iff.1 (by obtain ⟨la1, la2, lb1, lb2, lM1, LP, hN, hfull, lA, lB⟩ := HLN.out; obtain ⟨e1, e2, e3, e4, e5, hen⟩ := HAR.out; (try simp only [List.length_append]); omega)
                have h9 := hb2
                rw [z0] at h9 ⊢
                simpa [mrg_nil_left, mrg_nil_right] using h9
              go_wp2
              go_end0
              refine ⟨rfl, gr2, ?_, hd2⟩
              have h9 := hb3
              rw [HF.out.1]
              simp only [List.append_assoc] at h9 ⊢
              exact h9
            · have w2a : decide ((mid : Int) < (en : Int)) = true := decide_eq_true (by omega)
              have w2a' : decide (mid < en) = true := decide_eq_true (by omega)
              have w2b : decide ((en : Int) < (b : Int)) = false := decide_eq_false (by omega)
              have w2b' : decide (en < b) = false := decide_eq_false (by omega)
              have hb1 : blk wr g = some (rowC bn (P ++ A1 ++ B1 ++ A2 ++ (B2 ++ S)) ++ sp).toArray := by
                have z0 : B1 = [] := List.length_eq_zero_iff.1 (by obtain ⟨la1, la2, lb1, lb2, lM1, LP, hN, hfull, lA, lB⟩ := HLN.out; obtain ⟨e1, e2, e3, e4, e5, hen⟩ := HAR.out; (try simp only [List.length_append]); omega)
                have h9 := hbC
                rw [z0] at h9 ⊢
                simpa [mrg_nil_left, mrg_nil_right] using h9
              have g := HIH.out P A1 B1 (A2 ++ (B2 ++ S)) a i mid _ (by obtain ⟨la1, la2, lb1, lb2, lM1, LP, hN, hfull, lA, lB⟩ := HLN.out; obtain ⟨e1, e2, e3, e4, e5, hen⟩ := HAR.out; (try simp only [List.length_append]); omega) (by obtain ⟨la1, la2, lb1, lb2, lM1, LP, hN, hfull, lA, lB⟩ := HLN.out; obtain ⟨e1, e2, e3, e4, e5, hen⟩ := HAR.out; (try simp only [List.length_append]); omega) (by obtain ⟨la1, la2, lb1, lb2, lM1, LP, hN, hfull, lA, lB⟩ := HLN.out; obtain ⟨e1, e2, e3, e4, e5, hen⟩ := HAR.out; (try simp only [List.length_append]); omega) (by obtain ⟨la1, la2, lb1, lb2, lM1, LP, hN, hfull, lA, lB⟩ := HLN.out; obtain ⟨e1, e2, e3, e4, e5, hen⟩ := HAR.out; (try simp only [List.length_append]); omega) dA1 dB1 sA1 sB1 (by obtain ⟨la1, la2, lb1, lb2, lM1, LP, hN, hfull, lA, lB⟩ := HLN.out; obtain ⟨e1, e2, e3, e4, e5, hen⟩ := HAR.out; (try simp only [List.length_append]); omega) (by obtain ⟨la1, la2, lb1, lb2, lM1, LP, hN, hfull, lA, lB⟩ := HLN.out; obtain ⟨e1, e2, e3, e4, e5, hen⟩ := HAR.out; (try simp only [List.length_append]); omega) (by obtain ⟨la1, la2, lb1, lb2, lM1, LP, hN, hfull, lA, lB⟩ := HLN.out; obtain ⟨e1, e2, e3, e4, e5, hen⟩ := HAR.out; (try simp only [List.length_append]); omega) hdC (by have h9 := hb1; simp only [List.append_assoc] at h9 ⊢; exact h9)
              replace g := Lib.hid g
              go_wp2_with fail
              (with_reducible refine (g.out).mono ?_)
              rintro e w2 ⟨rfl, hg2, hb2, hd2⟩
              clear g
              have gr2 := igrown_trans hgr hg2
              have hb3 : blk w2 g = some (rowC bn (P ++ mrg lt A1 B1 ++ mrg lt A2 B2 ++ S) ++ sp).toArray := by
                have z0 : B2 = [] := List.length_eq_zero_iff.1 (by obtain ⟨la1, la2, lb1, lb2, lM1, LP, hN, hfull, lA, lB⟩ := HLN.out; obtain ⟨e1, e2, e3, e4, e5, hen⟩ := HAR.out; (try simp only [List.length_append]); omega)
                have h9 := hb2
                rw [z0] at h9 ⊢
                simpa [mrg_nil_left, mrg_nil_right] using h9
              go_wp2
              go_end0
              refine ⟨rfl, gr2, ?_, hd2⟩
              have h9 := hb3
              rw [HF.out.1]
              simp only [List.append_assoc] at h9 ⊢
              exact h9
          · have w1a : decide ((a : Int) < (i : Int)) = false := decide_eq_false (by omega)
            have w1a' : decide (a < i) = false := decide_eq_false (by omega)
            rcases (show (mid < en ∧ en < b) ∨ (¬ mid < en) ∨ (mid < en ∧ ¬ en < b) by omega) with ⟨x2, y2⟩ | x2 | ⟨x2, y2⟩
            · have w2a : decide ((mid : Int) < (en : Int)) = true := decide_eq_true (by omega)
              have w2a' : decide (mid < en) = true := decide_eq_true (by omega)
              have w2b : decide ((en : Int) < (b : Int)) = true := decide_eq_true (by omega)
              have w2b' : decide (en < b) = true := decide_eq_true (by omega)
              have hb1 : blk wr g = some (rowC bn (P ++ A1 ++ B1 ++ A2 ++ (B2 ++ S)) ++ sp).toArray := by
                have z0 : B1 = [] := List.length_eq_zero_iff.1 (by obtain ⟨la1, la2, lb1, lb2, lM1, LP, hN, hfull, lA, lB⟩ := HLN.out; obtain ⟨e1, e2, e3, e4, e5, hen⟩ := HAR.out; (try simp only [List.length_append]); omega)
                have h9 := hbC
                rw [z0] at h9 ⊢
                simpa [mrg_nil_left, mrg_nil_right] using h9
              have hb2 : blk wr g = some (rowC bn (P ++ mrg lt A1 B1 ++ (A2 ++ (B2 ++ S))) ++ sp).toArray := by
                have z0 : A1 = [] := List.length_eq_zero_iff.1 (by obtain ⟨la1, la2, lb1, lb2, lM1, LP, hN, hfull, lA, lB⟩ := HLN.out; obtain ⟨e1, e2, e3, e4, e5, hen⟩ := HAR.out; (try simp only [List.length_append]); omega)
                have h9 := hb1
                rw [z0] at h9 ⊢
                simpa [mrg_nil_left, mrg_nil_right] using h9
              have g := HIH.out (P ++ mrg lt A1 B1) A2 B2 S mid en b _ (by obtain ⟨la1, la2, lb1, lb2, lM1, LP, hN, hfull, lA, lB⟩ := HLN.out; obtain ⟨e1, e2, e3, e4, e5, hen⟩ := HAR.out; (try simp only [List.length_append]); omega) (by obtain ⟨la1, la2, lb1, lb2, lM1, LP, hN, hfull, lA, lB⟩ := HLN.out; obtain ⟨e1, e2, e3, e4, e5, hen⟩ := HAR.out; (try simp only [List.length_append]); omega) (by obtain ⟨la1, la2, lb1, lb2, lM1, LP, hN, hfull, lA, lB⟩ := HLN.out; obtain ⟨e1, e2, e3, e4, e5, hen⟩ := HAR.out; (try simp only [List.length_append]); omega) (by obtain ⟨la1, la2, lb1, lb2, lM1, LP, hN, hfull, lA, lB⟩ := HLN.out; obtain ⟨e1, e2, e3, e4, e5, hen⟩ := HAR.out; (try simp only [List.length_append]); omega) dA2 dB2 sA2 sB2 (by obtain ⟨la1, la2, lb1, lb2, lM1, LP, hN, hfull, lA, lB⟩ := HLN.out; obtain ⟨e1, e2, e3, e4, e5, hen⟩ := HAR.out; (try simp only [List.length_append]); omega) (by obtain ⟨la1, la2, lb1, lb2, lM1, LP, hN, hfull, lA, lB⟩ := HLN.out; obtain ⟨e1, e2, e3, e4, e5, hen⟩ := HAR.out; (try simp only [List.length_append]); omega) (by obtain ⟨la1, la2, lb1, lb2, lM1, LP, hN, hfull, lA, lB⟩ := HLN.out; obtain ⟨e1, e2, e3, e4, e5, hen⟩ := HAR.out; (try simp only [List.length_append]); omega) hdC (by have h9 := hb2; simp only [List.append_assoc] at h9 ⊢; exact h9)
              replace g := Lib.hid g
              go_wp2_with fail
              (with_reducible refine (g.out).mono ?_)
              rintro e w3 ⟨rfl, hg3, hb3, hd3⟩
              clear g
              have gr3 := igrown_trans hgr hg3
              go_wp2
              go_end0
              refine ⟨rfl, gr3, ?_, hd3⟩
              have h9 := hb3
              rw [HF.out.1]
              simp only [List.append_assoc] at h9 ⊢
              exact h9
            · have w2a : decide ((mid : Int) < (en : Int)) = false := decide_eq_false (by omega)
              have w2a' : decide (mid < en) = false := decide_eq_false (by omega)
              have hb1 : blk wr g = some (rowC bn (P ++ A1 ++ B1 ++ A2 ++ (B2 ++ S)) ++ sp).toArray := by
                have z0 : B1 = [] := List.length_eq_zero_iff.1 (by obtain ⟨la1, la2, lb1, lb2, lM1, LP, hN, hfull, lA, lB⟩ := HLN.out; obtain ⟨e1, e2, e3, e4, e5, hen⟩ := HAR.out; (try simp only [List.length_append]); omega)
                have h9 := hbC
                rw [z0] at h9 ⊢
                simpa [mrg_nil_left, mrg_nil_right] using h9
              have hb2 : blk wr g = some (rowC bn (P ++ mrg lt A1 B1 ++ (A2 ++ (B2 ++ S))) ++ sp).toArray := by
                have z0 : A1 = [] := List.length_eq_zero_iff.1 (by obtain ⟨la1, la2, lb1, lb2, lM1, LP, hN, hfull, lA, lB⟩ := HLN.out; obtain ⟨e1, e2, e3, e4, e5, hen⟩ := HAR.out; (try simp only [List.length_append]); omega)
                have h9 := hb1
                rw [z0] at h9 ⊢
                simpa [mrg_nil_left, mrg_nil_right] using h9
              have hb3 : blk wr g = some (rowC bn (P ++ mrg lt A1 B1 ++ mrg lt A2 B2 ++ S) ++ sp).toArray := by
                have z0 : A2 = [] := List.length_eq_zero_iff.1 (by obtain ⟨la1, la2, lb1, lb2, lM1, LP, hN, hfull, lA, lB⟩ := HLN.out; obtain ⟨e1, e2, e3, e4, e5, hen⟩ := HAR.out; (try simp only [List.length_append]); omega)
                have h9 := hb2
                rw [z0] at h9 ⊢
                simpa [mrg_nil_left, mrg_nil_right] using h9
              go_wp2
              go_end0
              refine ⟨rfl, hgr, ?_, hdC⟩
              have h9 := hb3
              rw [HF.out.1]
              simp only [List.append_assoc] at h9 ⊢
              exact h9
            · have w2a : decide ((mid : Int) < (en : Int)) = true := decide_eq_true (by omega)
              have w2a' : decide (mid < en) = true := decide_eq_true (by omega)
              have w2b : decide ((en : Int) < (b : Int)) = false := decide_eq_false (by omega)
              have w2b' : decide (en < b) = false := decide_eq_false (by omega)
              have hb1 : blk wr g = some (rowC bn (P ++ A1 ++ B1 ++ A2 ++ (B2 ++ S)) ++ sp).toArray := by
                have z0 : B1 = [] := List.length_eq_zero_iff.1 (by obtain ⟨la1, la2, lb1, lb2, lM1, LP, hN, hfull, lA, lB⟩ := HLN.out; obtain ⟨e1, e2, e3, e4, e5, hen⟩ := HAR.out; (try simp only [List.length_append]); omega)
                have h9 := hbC
                rw [z0] at h9 ⊢
                simpa [mrg_nil_left, mrg_nil_right] using h9
              have hb2 : blk wr g = some (rowC bn (P ++ mrg lt A1 B1 ++ (A2 ++ (B2 ++ S))) ++ sp).toArray := by
                have z0 : A1 = [] := List.length_eq_zero_iff.1 (by obtain ⟨la1, la2, lb1, lb2, lM1, LP, hN, hfull, lA, lB⟩ := HLN.out; obtain ⟨e1, e2, e3, e4, e5, hen⟩ := HAR.out; (try simp only [List.length_append]); omega)
                have h9 := hb1
                rw [z0] at h9 ⊢
                simpa [mrg_nil_left, mrg_nil_right] using h9
              have hb3 : blk wr g = some (rowC bn (P ++ mrg lt A1 B1 ++ mrg lt A2 B2 ++ S) ++ sp).toArray := by
                have z0 : B2 = [] := List.length_eq_zero_iff.1 (by obtain ⟨la1, la2, lb1, lb2, lM1, LP, hN, hfull, lA, lB⟩ := HLN.out; obtain ⟨e1, e2, e3, e4, e5, hen⟩ := HAR.out; (try simp only [List.length_append]); omega)
                have h9 := hb2
                rw [z0] at h9 ⊢
                simpa [mrg_nil_left, mrg_nil_right] using h9
              go_wp2
              go_end0
              refine ⟨rfl, hgr, ?_, hdC⟩
              have h9 := hb3
              rw [HF.out.1]
              simp only [List.append_assoc] at h9 ⊢
              exact h9
          · have w1a : decide ((a : Int) < (i : Int)) = true := decide_eq_true (by omega)
            have w1a' : decide (a < i) = true := decide_eq_true (by omega)
            have w1b : decide ((i : Int) < (mid : Int)) = false := decide_eq_false (by omega)
            have w1b' : decide (i < mid) = false := decide_eq_false (by omega)
            rcases (show (mid < en ∧ en < b) ∨ (¬ mid < en) ∨ (mid < en ∧ ¬ en < b) by omega) with ⟨x2, y2⟩ | x2 | ⟨x2, y2⟩
            · have w2a : decide ((mid : Int) < (en : Int)) = true := decide_eq_true (by omega)
              have w2a' : decide (mid < en) = true := decide_eq_true (by omega)
              have w2b : decide ((en : Int) < (b : Int)) = true := decide_eq_true (by omega)
              have w2b' : decide (en < b) = true := decide_eq_true (by omega)
              have hb1 : blk wr g = some (rowC bn (P ++ A1 ++ B1 ++ A2 ++ (B2 ++ S)) ++ sp).toArray := by
                have z0 : B1 = [] := List.length_eq_zero_iff.1 (by obtain ⟨la1, la2, lb1, lb2, lM1, LP, hN, hfull, lA, lB⟩ := HLN.out; obtain ⟨e1, e2, e3, e4, e5, hen⟩ := HAR.out; (try simp only [List.length_append]); omega)
                have h9 := hbC
                rw [z0] at h9 ⊢
                simpa [mrg_nil_left, mrg_nil_right] using h9
              have hb2 : blk wr g = some (rowC bn (P ++ mrg lt A1 B1 ++ (A2 ++ (B2 ++ S))) ++ sp).toArray := by
                have z0 : B1 = [] := List.length_eq_zero_iff.1 (by obtain ⟨la1, la2, lb1, lb2, lM1, LP, hN, hfull, lA, lB⟩ := HLN.out; obtain ⟨e1, e2, e3, e4, e5, hen⟩ := HAR.out; (try simp only [List.length_append]); omega)
                have h9 := hb1
                rw [z0] at h9 ⊢
                simpa [mrg_nil_left, mrg_nil_right] using h9
              have g := HIH.out (P ++ mrg lt A1 B1) A2 B2 S mid en b _ (by obtain ⟨la1, la2, lb1, lb2, lM1, LP, hN, hfull, lA, lB⟩ := HLN.out; obtain ⟨e1, e2, e3, e4, e5, hen⟩ := HAR.out; (try simp only [List.length_append]); omega) (by obtain ⟨la1, la2, lb1, lb2, lM1, LP, hN, hfull, lA, lB⟩ := HLN.out; obtain ⟨e1, e2, e3, e4, e5, hen⟩ := HAR.out; (try simp only [List.length_append]); omega) (by obtain ⟨la1, la2, lb1, lb2, lM1, LP, hN, hfull, lA, lB⟩ := HLN.out; obtain ⟨e1, e2, e3, e4, e5, hen⟩ := HAR.out; (try simp only [List.length_append]); omega) (by obtain ⟨la1, la2, lb1, lb2, lM1, LP, hN, hfull, lA, lB⟩ := HLN.out; obtain ⟨e1, e2, e3, e4, e5, hen⟩ := HAR.out; (try simp only [List.length_append]); omega) dA2 dB2 sA2 sB2 (by obtain ⟨la1, la2, lb1, lb2, lM1, LP, hN, hfull, lA, lB⟩ := HLN.out; obtain ⟨e1, e2, e3, e4, e5, hen⟩ := HAR.out; (try simp only [List.length_append]); omega) (by obtain ⟨la1, la2, lb1, lb2, lM1, LP, hN, hfull, lA, lB⟩ := HLN.out; obtain ⟨e1, e2, e3, e4, e5, hen⟩ := HAR.out; (try simp only [List.length_append]); omega) (by obtain ⟨la1, la2, lb1, lb2, lM1, LP, hN, hfull, lA, lB⟩ := HLN.out; obtain ⟨e1, e2, e3, e4, e5, hen⟩ := HAR.out; (try simp only [List.length_append]); omega) hdC (by have h9 := hb2; simp only [List.append_assoc] at h9 ⊢; exact h9)
              replace g := Lib.hid g
              go_wp2_with fail
              (with_reducible refine (g.out).mono ?_)
              rintro e w3 ⟨rfl, hg3, hb3, hd3⟩
              clear g
              have gr3 := igrown_trans hgr hg3
              go_wp2
              go_end0
              refine ⟨rfl, gr3, ?_, hd3⟩
              have h9 := hb3
              rw [HF.out.1]
              simp only [List.append_assoc] at h9 ⊢
              exact h9
            · have w2a : decide ((mid : Int) < (en : Int)) = false := decide_eq_false (by omega)
              have w2a' : decide (mid < en) = false := decide_eq_false (by omega)
              have hb1 : blk wr g = some (rowC bn (P ++ A1 ++ B1 ++ A2 ++ (B2 ++ S)) ++ sp).toArray := by
                have z0 : B1 = [] := List.length_eq_zero_iff.1 (by obtain ⟨la1, la2, lb1, lb2, lM1, LP, hN, hfull, lA, lB⟩ := HLN.out; obtain ⟨e1, e2, e3, e4, e5, hen⟩ := HAR.out; (try simp only [List.length_append]); omega)
                have h9 := hbC
                rw [z0] at h9 ⊢
                simpa [mrg_nil_left, mrg_nil_right] using h9
              have hb2 : blk wr g = some (rowC bn (P ++ mrg lt A1 B1 ++ (A2 ++ (B2 ++ S))) ++ sp).toArray := by
                have z0 : B1 = [] := List.length_eq_zero_iff.1 (by obtain ⟨la1, la2, lb1, lb2, lM1, LP, hN, hfull, lA, lB⟩ := HLN.out; obtain ⟨e1, e2, e3, e4, e5, hen⟩ := HAR.out; (try simp only [List.length_append]); omega)
                have h9 := hb1
                rw [z0] at h9 ⊢
                simpa [mrg_nil_left, mrg_nil_right] using h9
              have hb3 : blk wr g = some (rowC bn (P ++ mrg lt A1 B1 ++ mrg lt A2 B2 ++ S) ++ sp).toArray := by
                have z0 : A2 = [] := List.length_eq_zero_iff.1 (by obtain ⟨la1, la2, lb1, lb2, lM1, LP, hN, hfull, lA, lB⟩ := HLN.out; obtain ⟨e1, e2, e3, e4, e5, hen⟩ := HAR.out; (try simp only [List.length_append]); omega)
                have h9 := hb2
                rw [z0] at h9 ⊢
                simpa [mrg_nil_left, mrg_nil_right] using h9
              go_wp2
              go_end0
              refine ⟨rfl, hgr, ?_, hdC⟩
              have h9 := hb3
              rw [HF.out.1]
              simp only [List.append_assoc] at h9 ⊢
              exact h9
            · have w2a : decide ((mid : Int) < (en : Int)) = true := decide_eq_true (by omega)
              have w2a' : decide (mid < en) = true := decide_eq_true (by omega)
              have w2b : decide ((en : Int) < (b : Int)) = false := decide_eq_false (by omega)
              have w2b' : decide (en < b) = false := decide_eq_false (by omega)
              have hb1 : blk wr g = some (rowC bn (P ++ A1 ++ B1 ++ A2 ++ (B2 ++ S)) ++ sp).toArray := by
                have z0 : B1 = [] := List.length_eq_zero_iff.1 (by obtain ⟨la1, la2, lb1, lb2, lM1, LP, hN, hfull, lA, lB⟩ := HLN.out; obtain ⟨e1, e2, e3, e4, e5, hen⟩ := HAR.out; (try simp only [List.length_append]); omega)
                have h9 := hbC
                rw [z0] at h9 ⊢
                simpa [mrg_nil_left, mrg_nil_right] using h9
              have hb2 : blk wr g = some (rowC bn (P ++ mrg lt A1 B1 ++ (A2 ++ (B2 ++ S))) ++ sp).toArray := by
                have z0 : B1 = [] := List.length_eq_zero_iff.1 (by obtain ⟨la1, la2, lb1, lb2, lM1, LP, hN, hfull, lA, lB⟩ := HLN.out; obtain ⟨e1, e2, e3, e4, e5, hen⟩ := HAR.out; (try simp only [List.length_append]); omega)
                have h9 := hb1
                rw [z0] at h9 ⊢
                simpa [mrg_nil_left, mrg_nil_right] using h9
              have hb3 : blk wr g = some (rowC bn (P ++ mrg lt A1 B1 ++ mrg lt A2 B2 ++ S) ++ sp).toArray := by
                have z0 : B2 = [] := List.length_eq_zero_iff.1 (by obtain ⟨la1, la2, lb1, lb2, lM1, LP, hN, hfull, lA, lB⟩ := HLN.out; obtain ⟨e1, e2, e3, e4, e5, hen⟩ := HAR.out; (try simp only [List.length_append]); omega)
                have h9 := hb2
                rw [z0] at h9 ⊢
                simpa [mrg_nil_left, mrg_nil_right] using h9
              go_wp2
              go_end0
              refine ⟨rfl, hgr, ?_, hdC⟩
              have h9 := hb3
              rw [HF.out.1]
              simp only [List.append_assoc] at h9 ⊢
              exact h9
  · have HE2 := Lib.hid E2; have HE1 := Lib.hid E1; clear E2 E1
    go_upto_region 33 with fail
    go_loopw [20, 21] (fun vi vj wr => ∃ i j : Nat, vi = .int .i64 i ∧ vj = .int .i64 j ∧ lo ≤ i ∧ i ≤ j ∧ j ≤ hi ∧ w.grownBy wr (some g) ∧ Hid ((i = lo ∨ ∃ x y, A[i - 1 - a]? = some x ∧ B[p - (i - 1) - m]? = some y ∧ lt y x = false) ∧ (j = hi ∨ ∃ x y, A[j - a]? = some x ∧ B[p - j - m]? = some y ∧ lt y x = true) ∧ blk wr g = some (rowC bn L ++ sp).toArray ∧ Hd wr)) (fun vi vj _ => (intOf vj).toNat - (intOf vi).toNat)
    case atStart => exact ⟨lo, hi, by rw [HE1.out], by rw [HE2.out], Nat.le_refl _, k2, Nat.le_refl _, igrown_self w g, Lib.hid ⟨.inl rfl, .inl rfl, by rw [HL.out]; exact HBK.out, H0.out⟩⟩
    case round =>
      clear HBK H0
      obtain ⟨i, j, rfl, rfl, hmi, hij, hjb, hgr, HQ⟩ := hrel
      by_cases hlt' : i < j
      · have t5 : decide ((i : Int) < (j : Int)) = true := decide_eq_true (by omega)
        have t5' : decide (i < j) = true := decide_eq_true (by omega)
        obtain ⟨e1, e2, e3, e4, e5⟩ := HARI.out
        obtain ⟨_, _, _, _, _, f6, f7⟩ := HKEY.out
        obtain ⟨h, hh⟩ : ∃ h, h = (i + j) / 2 := ⟨_, rfl⟩
        have v1 : ((i : Int) + (j : Int)) / 2 = (h : Int) := by omega
        have v2 : (i + j) / 2 = h := hh.symm
        have hhi : i ≤ h := by omega
        have hhj : h < j := by omega
        obtain ⟨ph, hph⟩ : ∃ k, k = p - h := ⟨_, rfl⟩
        have v3 : IntKind.i64.wrap ((p : Int) - (h : Int)) = ph := (IntWalk.i64_in _ (by omega)).trans (by omega)
        have v4 : IntKind.i64.wrap (ph : Int) = ph := IntWalk.i64_in _ (by omega)
        have q1 : h - a < A.length := by have := HNA.out; omega
        have q2 : ph - m < B.length := by have := HNB.out; omega
        have q3 : m ≤ ph := by omega
        obtain ⟨x, hx⟩ : ∃ x, x = A[h - a] := ⟨_, rfl⟩
        obtain ⟨y, hy⟩ : ∃ y, y = B[ph - m] := ⟨_, rfl⟩
        have lP := HA.out
        have lA := HNA.out
        have hLx : L[h]? = some x := by
          rw [HL.out, hx, List.append_assoc, List.append_assoc, List.getElem?_append_right (by omega), List.getElem?_append_left (by omega)]
          rw [List.getElem?_eq_getElem (by omega)]
          congr 2
          omega
        have hLy : L[ph]? = some y := by
          rw [HL.out, hy, List.append_assoc, List.getElem?_append_right (by simp; omega), List.getElem?_append_left (by simp; omega)]
          rw [List.getElem?_eq_getElem (by simp; omega)]
          congr 2
          simp; omega
        have Ax : A[h - a]? = some x := by rw [hx]; exact List.getElem?_eq_getElem _
        have By : B[p - h - m]? = some y := by rw [← hph, hy]; exact List.getElem?_eq_getElem _
        have l1 : (h : Int) < (n : Int) := by omega
        have l2 : (ph : Int) < (n : Int) := by omega
        obtain ⟨d, hc⟩ : ∃ d, cm y x = d := ⟨_, rfl⟩
        have gc : ∀ W, Hd W → Calls Tryd.prog 56 #[.agg (bn y).toArray, .agg (bn x).toArray] W fun e w' => e = .returned (.int .i64 d) ∧ Below W.heap.size W w' := fun W h => by rw [← hc]; exact HI.out y x (HBD.out y (by rw [hy]; exact List.getElem_mem _)) (HAD.out x (by rw [hx]; exact List.getElem_mem _)) W h
        replace gc := Lib.hid gc
        have hbM := HQ.out.2.2.1
        have hd := HQ.out.2.2.2
        have hcl : lt y x = decide (d < 0) := by rw [hlt.out, hc]
        have HC := Lib.hid hcl; have HAX := Lib.hid Ax; have HBY := Lib.hid By
        clear hcl hc hx hy hh lP lA Ax By e1 e2 e3 e4 e5 f6 f7 hph q1 q2
        by_cases hc0 : d < 0
        · have tc : decide (d < 0) = true := decide_eq_true hc0
          go_wp2_with fail
          refine wp_region_in (by kernel_rfl) (by kernel_rfl) ?_
          intro W0 hE hN
          have q1 : blk W0 g = some (rowC bn L ++ sp).toArray := (by rw [hE.out]; exact hbM)
          have q2 : w.grownBy W0 (some g) := (by rw [hE.out]; exact hgr)
          have q3 : Hd W0 := (by rw [hE.out]; exact hd)
          clear hE
          have r0 := range_row bn_len q1 hLy
          have r1 := range_row bn_len q1 hLx
          have gl := blk_lt q1
          have gC : ∀ X : Class (Calm W0), _ := fun X => gc.out X.wd (hB.out _ _ q3 X.ok)
          have GC := Lib.hid gC
          clear gC
          refine wpQuiet_split 6 ?_
          simp only [List.take_succ_cons, List.take_zero, List.drop_succ_cons, List.drop_zero]
          repeat (go_big_quiet_step (fail))
          refine wpQuiet_nil ?_
          refine wpQuiet_load_range 81 (.tmp 163) g (ph * 9) (bn y) (fun W hW => by obtain ⟨x', rfl⟩ := hW; exact range_below gl r0 x'.ok) _ (by kernel_rfl) rfl (by kernel_rfl) Tryd.underlying81 rfl (by kernel_rfl) ?_
          conv => arg 6; simp [Act.put]
          refine wpQuiet_split 3 ?_
          simp only [List.take_succ_cons, List.take_zero, List.drop_succ_cons, List.drop_zero]
          repeat (go_big_quiet_step (fail))
          refine wpQuiet_nil ?_
          refine wpQuiet_load_range 81 (.tmp 167) g (h * 9) (bn x) (fun W hW => by obtain ⟨x', rfl⟩ := hW; exact range_below gl r1 x'.ok) _ (by kernel_rfl) rfl (by kernel_rfl) Tryd.underlying81 rfl (by kernel_rfl) ?_
          conv => arg 6; simp [Act.put]
          repeat (go_big_quiet_step ((go_at_call 56; (with_reducible refine Class.go _ (GC.out _)))))
          refine wpQuiet_nil ?_
          rintro _ ⟨x', rfl⟩
          have hbM2 := blk_below x'.ok q1
          have hgr2 := igrown_below q2 x'.ok
          have hd2 := hB.out _ _ q3 x'.ok
          obtain ⟨u, hu⟩ : ∃ u, u = x'.wd := ⟨_, rfl⟩
          rw [← hu] at hbM2 hgr2 hd2 ⊢
          clear hu x' r0 r1 gl q1 q2 q3 hN GC hbM hgr hd
          go_wp2
          go_roundw
          case rel => exact ⟨i, h, rfl, rfl, by omega, by omega, by omega, hgr2, Lib.hid ⟨HQ.out.1, .inr ⟨x, y, HAX.out, HBY.out, by rw [HC.out, tc]⟩, hbM2, hd2⟩⟩
          case measure => simp [intOf]; omega
        · have tc : decide (d < 0) = false := decide_eq_false hc0
          go_wp2_with fail
          refine wp_region_in (by kernel_rfl) (by kernel_rfl) ?_
          intro W0 hE hN
          have q1 : blk W0 g = some (rowC bn L ++ sp).toArray := (by rw [hE.out]; exact hbM)
          have q2 : w.grownBy W0 (some g) := (by rw [hE.out]; exact hgr)
          have q3 : Hd W0 := (by rw [hE.out]; exact hd)
          clear hE
          have r0 := range_row bn_len q1 hLy
          have r1 := range_row bn_len q1 hLx
          have gl := blk_lt q1
          have gC : ∀ X : Class (Calm W0), _ := fun X => gc.out X.wd (hB.out _ _ q3 X.ok)
          have GC := Lib.hid gC
          clear gC
          refine wpQuiet_split 6 ?_
          simp only [List.take_succ_cons, List.take_zero, List.drop_succ_cons, List.drop_zero]
          repeat (go_big_quiet_step (fail))
          refine wpQuiet_nil ?_
          refine wpQuiet_load_range 81 (.tmp 163) g (ph * 9) (bn y) (fun W hW => by obtain ⟨x', rfl⟩ := hW; exact range_below gl r0 x'.ok) _ (by kernel_rfl) rfl (by kernel_rfl) Tryd.underlying81 rfl (by kernel_rfl) ?_
          conv => arg 6; simp [Act.put]
          refine wpQuiet_split 3 ?_
          simp only [List.take_succ_cons, List.take_zero, List.drop_succ_cons, List.drop_zero]
          repeat (go_big_quiet_step (fail))
          refine wpQuiet_nil ?_
          refine wpQuiet_load_range 81 (.tmp 167) g (h * 9) (bn x) (fun W hW => by obtain ⟨x', rfl⟩ := hW; exact range_below gl r1 x'.ok) _ (by kernel_rfl) rfl (by kernel_rfl) Tryd.underlying81 rfl (by kernel_rfl) ?_
          conv => arg 6; simp [Act.put]
          repeat (go_big_quiet_step ((go_at_call 56; (with_reducible refine Class.go _ (GC.out _)))))
          refine wpQuiet_nil ?_
          rintro _ ⟨x', rfl⟩
          have hbM2 := blk_below x'.ok q1
          have hgr2 := igrown_below q2 x'.ok
          have hd2 := hB.out _ _ q3 x'.ok
          obtain ⟨u, hu⟩ : ∃ u, u = x'.wd := ⟨_, rfl⟩
          rw [← hu] at hbM2 hgr2 hd2 ⊢
          clear hu x' r0 r1 gl q1 q2 q3 hN GC hbM hgr hd
          go_wp2
          go_roundw
          case rel => exact ⟨h + 1, j, by go_num, rfl, by omega, by omega, hjb, hgr2, Lib.hid ⟨.inr ⟨x, y, HAX.out, HBY.out, by rw [HC.out, tc]⟩, HQ.out.2.1, hbM2, hd2⟩⟩
          case measure => simp [intOf]; omega
      · have hij' : i = j := by omega
        subst hij'
        have t5 : decide ((i : Int) < (i : Int)) = false := decide_eq_false (by omega)
        obtain ⟨e1, e2, e3, e4, e5⟩ := HARI.out
        obtain ⟨_, _, _, _, _, f6, f7⟩ := HKEY.out
        obtain ⟨en, hen⟩ : ∃ k, k = q - i := ⟨_, rfl⟩
        have v5 : IntKind.i64.wrap ((q : Int) - (i : Int)) = en := (IntWalk.i64_in _ (by omega)).trans (by omega)
        have v6 : IntKind.i64.wrap (en : Int) = en := IntWalk.i64_in _ (by omega)
        have lA := HNA.out
        have lB := HNB.out
        have g1 : m ≤ en := by omega
        have g2 : en ≤ b := by omega
        have g3 : i ≤ m := by omega
        have g4 : a ≤ i := by omega
        have g5 : mid + m = i + en := by omega
        have CUT := mrg_cut AS.out NN.out HAS.out HBS.out (k := i - a) (l := en - m) (by omega) (by omega) (fun hk hl => by
          rcases HQ.out.2.1 with h | ⟨x, y, ax, ay, hl'⟩
          · exfalso; omega
          · have ex : A[i - a] = x := by rw [List.getElem?_eq_getElem hk] at ax; exact Option.some.inj ax
            have e : p - i - m = en - m - 1 := by omega
            have ey : B[en - m - 1]'(by omega) = y := by rw [e, List.getElem?_eq_getElem (by omega)] at ay; exact Option.some.inj ay
            rw [ex, ey]; exact hl') (fun hk hl => by
          rcases HQ.out.1 with h | ⟨x, y, ax, ay, hl'⟩
          · exfalso; omega
          · have e : i - 1 - a = i - a - 1 := by omega
            have ex : A[i - a - 1]'(by omega) = x := by rw [e, List.getElem?_eq_getElem (by omega)] at ax; exact Option.some.inj ax
            have e' : p - (i - 1) - m = en - m := by omega
            have ey : B[en - m]'(by omega) = y := by rw [e', List.getElem?_eq_getElem (by omega)] at ay; exact Option.some.inj ay
            rw [ex, ey]; exact hl')
        have la1 : (A.take (i - a)).length = i - a := by rw [List.length_take]; omega
        have la2 : (A.drop (i - a)).length = m - i := by rw [List.length_drop]; omega
        have lb1 : (B.take (en - m)).length = en - m := by rw [List.length_take]; omega
        have lb2 : (B.drop (en - m)).length = b - en := by rw [List.length_drop]; omega
        have sA1 : Srt lt (A.take (i - a)) := HAS.out.sublist (List.take_sublist _ _)
        have sA2 : Srt lt (A.drop (i - a)) := HAS.out.sublist (List.drop_sublist _ _)
        have sB1 : Srt lt (B.take (en - m)) := HBS.out.sublist (List.take_sublist _ _)
        have sB2 : Srt lt (B.drop (en - m)) := HBS.out.sublist (List.drop_sublist _ _)
        have dA1 : ∀ x ∈ A.take (i - a), D x := fun x hx => HAD.out x (List.mem_of_mem_take hx)
        have dA2 : ∀ x ∈ A.drop (i - a), D x := fun x hx => HAD.out x (List.mem_of_mem_drop hx)
        have dB1 : ∀ x ∈ B.take (en - m), D x := fun x hx => HBD.out x (List.mem_of_mem_take hx)
        have dB2 : ∀ x ∈ B.drop (en - m), D x := fun x hx => HBD.out x (List.mem_of_mem_drop hx)
        have hAA : A = A.take (i - a) ++ A.drop (i - a) := (List.take_append_drop _ _).symm
        have hBB : B = B.take (en - m) ++ B.drop (en - m) := (List.take_append_drop _ _).symm
        obtain ⟨A1, hA1⟩ : ∃ l, l = A.take (i - a) := ⟨_, rfl⟩
        obtain ⟨A2, hA2'⟩ : ∃ l, l = A.drop (i - a) := ⟨_, rfl⟩
        obtain ⟨B1, hB1⟩ : ∃ l, l = B.take (en - m) := ⟨_, rfl⟩
        obtain ⟨B2, hB2'⟩ : ∃ l, l = B.drop (en - m) := ⟨_, rfl⟩
        rw [← hA1, ← hA2', ← hB1, ← hB2'] at CUT
        rw [← hA1] at la1 sA1 dA1
        rw [← hA2'] at la2 sA2 dA2
        rw [← hB1] at lb1 sB1 dB1
        rw [← hB2'] at lb2 sB2 dB2
        rw [← hA1, ← hA2'] at hAA
        rw [← hB1, ← hB2'] at hBB
        have lM1 : (mrg lt A1 B1).length = A1.length + B1.length := mrg_length _ _ _
        have hbC : blk wr g = some (rowC bn (P ++ A1 ++ A2 ++ B1 ++ (B2 ++ S)) ++ sp).toArray := by
          have h9 := HQ.out.2.2.1
          rw [HL.out, hAA, hBB] at h9
          simpa using h9
        have hdC := HQ.out.2.2.2
        have LP := HA.out
        have hN := HN.out
        have hfull : A.length + B.length = A1.length + A2.length + (B1.length + B2.length) := by rw [hAA, hBB]; simp
        have HF := Lib.hid (And.intro CUT (And.intro hAA hBB))
        have HLN := Lib.hid (And.intro la1 (And.intro la2 (And.intro lb1 (And.intro lb2 (And.intro lM1 (And.intro LP (And.intro hN (And.intro hfull (And.intro lA lB)))))))))
        have HAR := Lib.hid (And.intro e1 (And.intro e2 (And.intro e3 (And.intro e4 (And.intro e5 hen)))))
        clear CUT hAA hBB la1 la2 lb1 lb2 lM1 LP hN hfull lA lB e1 e2 e3 e4 e5 hen hA1 hA2' hB1 hB2' f6 f7
        rcases (show (i < m ∧ m < en) ∨ (¬ i < m) ∨ (i < m ∧ ¬ m < en) by omega) with ⟨x0, y0⟩ | x0 | ⟨x0, y0⟩
        · have w0a : decide ((i : Int) < (m : Int)) = true := decide_eq_true (by omega)
          have w0a' : decide (i < m) = true := decide_eq_true (by omega)
          have w0b : decide ((m : Int) < (en : Int)) = true := decide_eq_true (by omega)
          have w0b' : decide (m < en) = true := decide_eq_true (by omega)
          rcases (show (a < i ∧ i < mid) ∨ (¬ a < i) ∨ (a < i ∧ ¬ i < mid) by omega) with ⟨x1, y1⟩ | x1 | ⟨x1, y1⟩
          · have w1a : decide ((a : Int) < (i : Int)) = true := decide_eq_true (by omega)
            have w1a' : decide (a < i) = true := decide_eq_true (by omega)
            have w1b : decide ((i : Int) < (mid : Int)) = true := decide_eq_true (by omega)
            have w1b' : decide (i < mid) = true := decide_eq_true (by omega)
            rcases (show (mid < en ∧ en < b) ∨ (¬ mid < en) ∨ (mid < en ∧ ¬ en < b) by omega) with ⟨x2, y2⟩ | x2 | ⟨x2, y2⟩
            · have w2a : decide ((mid : Int) < (en : Int)) = true := decide_eq_true (by omega)
              have w2a' : decide (mid < en) = true := decide_eq_true (by omega)
              have w2b : decide ((en : Int) < (b : Int)) = true := decide_eq_true (by omega)
              have w2b' : decide (en < b) = true := decide_eq_true (by omega)
              have g := GR.out (P ++ A1) A2 B1 (B2 ++ S) i m en _ (by obtain ⟨la1, la2, lb1, lb2, lM1, LP, hN, hfull, lA, lB⟩ := HLN.out; obtain ⟨e1, e2, e3, e4, e5, hen⟩ := HAR.out; (try simp only [List.length_append]); omega) (by obtain ⟨la1, la2, lb1, lb2, lM1, LP, hN, hfull, lA, lB⟩ := HLN.out; obtain ⟨e1, e2, e3, e4, e5, hen⟩ := HAR.out; (try simp only [List.length_append]); omega) (by obtain ⟨la1, la2, lb1, lb2, lM1, LP, hN, hfull, lA, lB⟩ := HLN.out; obtain ⟨e1, e2, e3, e4, e5, hen⟩ := HAR.out; (try simp only [List.length_append]); omega) (by obtain ⟨la1, la2, lb1, lb2, lM1, LP, hN, hfull, lA, lB⟩ := HLN.out; obtain ⟨e1, e2, e3, e4, e5, hen⟩ := HAR.out; (try simp only [List.length_append]); omega) (by obtain ⟨la1, la2, lb1, lb2, lM1, LP, hN, hfull, lA, lB⟩ := HLN.out; obtain ⟨e1, e2, e3, e4, e5, hen⟩ := HAR.out; (try simp only [List.length_append]); omega) (by obtain ⟨la1, la2, lb1, lb2, lM1, LP, hN, hfull, lA, lB⟩ := HLN.out; obtain ⟨e1, e2, e3, e4, e5, hen⟩ := HAR.out; (try simp only [List.length_append]); omega) hdC hbC
              replace g := Lib.hid g
              go_wp2_with fail
              (with_reducible refine (g.out).mono ?_)
              rintro e w1 ⟨rfl, hg1, hb1, hd1⟩
              clear g
              have gr1 := igrown_trans hgr hg1
              have g := HIH.out P A1 B1 (A2 ++ (B2 ++ S)) a i mid _ (by obtain ⟨la1, la2, lb1, lb2, lM1, LP, hN, hfull, lA, lB⟩ := HLN.out; obtain ⟨e1, e2, e3, e4, e5, hen⟩ := HAR.out; (try simp only [List.length_append]); omega) (by obtain ⟨la1, la2, lb1, lb2, lM1, LP, hN, hfull, lA, lB⟩ := HLN.out; obtain ⟨e1, e2, e3, e4, e5, hen⟩ := HAR.out; (try simp only [List.length_append]); omega) (by obtain ⟨la1, la2, lb1, lb2, lM1, LP, hN, hfull, lA, lB⟩ := HLN.out; obtain ⟨e1, e2, e3, e4, e5, hen⟩ := HAR.out; (try simp only [List.length_append]); omega) (by obtain ⟨la1, la2, lb1, lb2, lM1, LP, hN, hfull, lA, lB⟩ := HLN.out; obtain ⟨e1, e2, e3, e4, e5, hen⟩ := HAR.out; (try simp only [List.length_append]); omega) dA1 dB1 sA1 sB1 (by obtain ⟨la1, la2, lb1, lb2, lM1, LP, hN, hfull, lA, lB⟩ := HLN.out; obtain ⟨e1, e2, e3, e4, e5, hen⟩ := HAR.out; (try simp only [List.length_append]); omega) (by obtain ⟨la1, la2, lb1, lb2, lM1, LP, hN, hfull, lA, lB⟩ := HLN.out; obtain ⟨e1, e2, e3, e4, e5, hen⟩ := HAR.out; (try simp only [List.length_append]); omega) (by obtain ⟨la1, la2, lb1, lb2, lM1, LP, hN, hfull, lA, lB⟩ := HLN.out; obtain ⟨e1, e2, e3, e4, e5, hen⟩ := HAR.out; (try simp only [List.length_append]); omega) hd1 (by have h9 := hb1; simp only [List.append_assoc] at h9 ⊢; exact h9)
              replace g := Lib.hid g
              go_wp2_with fail
              (with_reducible refine (g.out).mono ?_)
              rintro e w2 ⟨rfl, hg2, hb2, hd2⟩
              clear g
              have gr2 := igrown_trans gr1 hg2
              have g := HIH.out (P ++ mrg lt A1 B1) A2 B2 S mid en b _ (by obtain ⟨la1, la2, lb1, lb2, lM1, LP, hN, hfull, lA, lB⟩ := HLN.out; obtain ⟨e1, e2, e3, e4, e5, hen⟩ := HAR.out; (try simp only [List.length_append]); omega) (by obtain ⟨la1, la2, lb1, lb2, lM1, LP, hN, hfull, lA, lB⟩ := HLN.out; obtain ⟨e1, e2, e3, e4, e5, hen⟩ := HAR.out; (try simp only [List.length_append]); omega) (by obtain ⟨la1, la2, lb1, lb2, lM1, LP, hN, hfull, lA, lB⟩ := HLN.out; obtain ⟨e1, e2, e3, e4, e5, hen⟩ := HAR.out; (try simp only [List.length_append]); omega) (by obtain ⟨la1, la2, lb1, lb2, lM1, LP, hN, hfull, lA, lB⟩ := HLN.out; obtain ⟨e1, e2, e3, e4, e5, hen⟩ := HAR.out; (try simp only [List.length_append]); omega) dA2 dB2 sA2 sB2 (by obtain ⟨la1, la2, lb1, lb2, lM1, LP, hN, hfull, lA, lB⟩ := HLN.out; obtain ⟨e1, e2, e3, e4, e5, hen⟩ := HAR.out; (try simp only [List.length_append]); omega) (by obtain ⟨la1, la2, lb1, lb2, lM1, LP, hN, hfull, lA, lB⟩ := HLN.out; obtain ⟨e1, e2, e3, e4, e5, hen⟩ := HAR.out; (try simp only [List.length_append]); omega) (by obtain ⟨la1, la2, lb1, lb2, lM1, LP, hN, hfull, lA, lB⟩ := HLN.out; obtain ⟨e1, e2, e3, e4, e5, hen⟩ := HAR.out; (try simp only [List.length_append]); omega) hd2 (by have h9 := hb2; simp only [List.append_assoc] at h9 ⊢; exact h9)
              replace g := Lib.hid g
              go_wp2_with fail
              (with_reducible refine (g.out).mono ?_)
              rintro e w3 ⟨rfl, hg3, hb3, hd3⟩
              clear g
              have gr3 := igrown_trans gr2 hg3
              go_wp2
              go_end0
              refine ⟨rfl, gr3, ?_, hd3⟩
              have h9 := hb3
              rw [HF.out.1]
              simp only [List.append_assoc] at h9 ⊢
              exact h9
            · have w2a : decide ((mid : Int) < (en : Int)) = false := decide_eq_false (by omega)
              have w2a' : decide (mid < en) = false := decide_eq_false (by omega)
              have g := GR.out (P ++ A1) A2 B1 (B2 ++ S) i m en _ (by obtain ⟨la1, la2, lb1, lb2, lM1, LP, hN, hfull, lA, lB⟩ := HLN.out; obtain ⟨e1, e2, e3, e4, e5, hen⟩ := HAR.out; (try simp only [List.length_append]); omega) (by obtain ⟨la1, la2, lb1, lb2, lM1, LP, hN, hfull, lA, lB⟩ := HLN.out; obtain ⟨e1, e2, e3, e4, e5, hen⟩ := HAR.out; (try simp only [List.length_append]); omega) (by obtain ⟨la1, la2, lb1, lb2, lM1, LP, hN, hfull, lA, lB⟩ := HLN.out; obtain ⟨e1, e2, e3, e4, e5, hen⟩ := HAR.out; (try simp only [List.length_append]); omega) (by obtain ⟨la1, la2, lb1, lb2, lM1, LP, hN, hfull, lA, lB⟩ := HLN.out; obtain ⟨e1, e2, e3, e4, e5, hen⟩ := HAR.out; (try simp only [List.length_append]); omega) (by obtain ⟨la1, la2, lb1, lb2, lM1, LP, hN, hfull, lA, lB⟩ := HLN.out; obtain ⟨e1, e2, e3, e4, e5, hen⟩ := HAR.out; (try simp only [List.length_append]); omega) (by obtain ⟨la1, la2, lb1, lb2, lM1, LP, hN, hfull, lA, lB⟩ := HLN.out; obtain ⟨e1, e2, e3, e4, e5, hen⟩ := HAR.out; (try simp only [List.length_append]); omega) hdC hbC
              replace g := Lib.hid g
              go_wp2_with fail
              (with_reducible refine (g.out).mono ?_)
              rintro e w1 ⟨rfl, hg1, hb1, hd1⟩
              clear g
              have gr1 := igrown_trans hgr hg1
              have g := HIH.out P A1 B1 (A2 ++ (B2 ++ S)) a i mid _ (by obtain ⟨la1, la2, lb1, lb2, lM1, LP, hN, hfull, lA, lB⟩ := HLN.out; obtain ⟨e1, e2, e3, e4, e5, hen⟩ := HAR.out; (try simp only [List.length_append]); omega) (by obtain ⟨la1, la2, lb1, lb2, lM1, LP, hN, hfull, lA, lB⟩ := HLN.out; obtain ⟨e1, e2, e3, e4, e5, hen⟩ := HAR.out; (try simp only [List.length_append]); omega) (by obtain ⟨la1, la2, lb1, lb2, lM1, LP, hN, hfull, lA, lB⟩ := HLN.out; obtain ⟨e1, e2, e3, e4, e5, hen⟩ := HAR.out; (try simp only [List.length_append]); omega) (by obtain ⟨la1, la2, lb1, lb2, lM1, LP, hN, hfull, lA, lB⟩ := HLN.out; obtain ⟨e1, e2, e3, e4, e5, hen⟩ := HAR.out; (try simp only [List.length_append]); omega) dA1 dB1 sA1 sB1 (by obtain ⟨la1, la2, lb1, lb2, lM1, LP, hN, hfull, lA, lB⟩ := HLN.out; obtain ⟨e1, e2, e3, e4, e5, hen⟩ := HAR.out; (try simp only [List.length_append]); omega) (by obtain ⟨la1, la2, lb1, lb2, lM1, LP, hN, hfull, lA, lB⟩ := HLN.out; obtain ⟨e1, e2, e3, e4, e5, hen⟩ := HAR.out; (try simp only [List.length_append]); omega) (by obtain ⟨la1, la2, lb1, lb2, lM1, LP, hN, hfull, lA, lB⟩ := HLN.out; obtain ⟨e1, e2, e3, e4, e5, hen⟩ := HAR.out; (try simp only [List.length_append]); omega) hd1 (by have h9 := hb1; simp only [List.append_assoc] at h9 ⊢; exact h9)
              replace g := Lib.hid g
              go_wp2_with fail
              (with_reducible refine (g.out).mono ?_)
              rintro e w2 ⟨rfl, hg2, hb2, hd2⟩
              clear g
              have gr2 := igrown_trans gr1 hg2
              have hb3 : blk w2 g = some (rowC bn (P ++ mrg lt A1 B1 ++ mrg lt A2 B2 ++ S) ++ sp).toArray := by
                have z0 : A2 = [] := List.length_eq_zero_iff.1 (by obtain ⟨la1, la2, lb1, lb2, lM1, LP, hN, hfull, lA, lB⟩ := HLN.out; obtain ⟨e1, e2, e3, e4, e5, hen⟩ := HAR.out; (try simp only [List.length_append]); omega)
                have h9 := hb2
                rw [z0] at h9 ⊢
                simpa [mrg_nil_left, mrg_nil_right] using h9
              go_wp2
              go_end0
              refine ⟨rfl, gr2, ?_, hd2⟩
              have h9 := hb3
              rw [HF.out.1]
              simp only [List.append_assoc] at h9 ⊢
              exact h9
            · have w2a : decide ((mid : Int) < (en : Int)) = true := decide_eq_true (by omega)
              have w2a' : decide (mid < en) = true := decide_eq_true (by omega)
              have w2b : decide ((en : Int) < (b : Int)) = false := decide_eq_false (by omega)
              have w2b' : decide (en < b) = false := decide_eq_false (by omega)
              have g := GR.out (P ++ A1) A2 B1 (B2 ++ S) i m en _ (by obtain ⟨la1, la2, lb1, lb2, lM1, LP, hN, hfull, lA, lB⟩ := HLN.out; obtain ⟨e1, e2, e3, e4, e5, hen⟩ := HAR.out; (try simp only [List.length_append]); omega) (by obtain ⟨la1, la2, lb1, lb2, lM1, LP, hN, hfull, lA, lB⟩ := HLN.out; obtain ⟨e1, e2, e3, e4, e5, hen⟩ := HAR.out; (try simp only [List.length_append]); omega) (by obtain ⟨la1, la2, lb1, lb2, lM1, LP, hN, hfull, lA, lB⟩ := HLN.out; obtain ⟨e1, e2, e3, e4, e5, hen⟩ := HAR.out; (try simp only [List.length_append]); omega) (by obtain ⟨la1, la2, lb1, lb2, lM1, LP, hN, hfull, lA, lB⟩ := HLN.out; obtain ⟨e1, e2, e3, e4, e5, hen⟩ := HAR.out; (try simp only [List.length_append]); omega) (by obtain ⟨la1, la2, lb1, lb2, lM1, LP, hN, hfull, lA, lB⟩ := HLN.out; obtain ⟨e1, e2, e3, e4, e5, hen⟩ := HAR.out; (try simp only [List.length_append]); omega) (by obtain ⟨la1, la2, lb1, lb2, lM1, LP, hN, hfull, lA, lB⟩ := HLN.out; obtain ⟨e1, e2, e3, e4, e5, hen⟩ := HAR.out; (try simp only [List.length_append]); omega) hdC hbC
              replace g := Lib.hid g
              go_wp2_with fail
              (with_reducible refine (g.out).mono ?_)
              rintro e w1 ⟨rfl, hg1, hb1, hd1⟩
              clear g
              have gr1 := igrown_trans hgr hg1
              have g := HIH.out P A1 B1 (A2 ++ (B2 ++ S)) a i mid _ (by obtain ⟨la1, la2, lb1, lb2, lM1, LP, hN, hfull, lA, lB⟩ := HLN.out; obtain ⟨e1, e2, e3, e4, e5, hen⟩ := HAR.out; (try simp only [List.length_append]); omega) (by obtain ⟨la1, la2, lb1, lb2, lM1, LP, hN, hfull, lA, lB⟩ := HLN.out; obtain ⟨e1, e2, e3, e4, e5, hen⟩ := HAR.out; (try simp only [List.length_append]); omega) (by obtain ⟨la1, la2, lb1, lb2, lM1, LP, hN, hfull, lA, lB⟩ := HLN.out; obtain ⟨e1, e2, e3, e4, e5, hen⟩ := HAR.out; (try simp only [List.length_append]); omega) (by obtain ⟨la1, la2, lb1, lb2, lM1, LP, hN, hfull, lA, lB⟩ := HLN.out; obtain ⟨e1, e2, e3, e4, e5, hen⟩ := HAR.out; (try simp only [List.length_append]); omega) dA1 dB1 sA1 sB1 (by obtain ⟨la1, la2, lb1, lb2, lM1, LP, hN, hfull, lA, lB⟩ := HLN.out; obtain ⟨e1, e2, e3, e4, e5, hen⟩ := HAR.out; (try simp only [List.length_append]); omega) (by obtain ⟨la1, la2, lb1, lb2, lM1, LP, hN, hfull, lA, lB⟩ := HLN.out; obtain ⟨e1, e2, e3, e4, e5, hen⟩ := HAR.out; (try simp only [List.length_append]); omega) (by obtain ⟨la1, la2, lb1, lb2, lM1, LP, hN, hfull, lA, lB⟩ := HLN.out; obtain ⟨e1, e2, e3, e4, e5, hen⟩ := HAR.out; (try simp only [List.length_append]); omega) hd1 (by have h9 := hb1; simp only [List.append_assoc] at h9 ⊢; exact h9)
              replace g := Lib.hid g
              go_wp2_with fail
              (with_reducible refine (g.out).mono ?_)
              rintro e w2 ⟨rfl, hg2, hb2, hd2⟩
              clear g
              have gr2 := igrown_trans gr1 hg2
              have hb3 : blk w2 g = some (rowC bn (P ++ mrg lt A1 B1 ++ mrg lt A2 B2 ++ S) ++ sp).toArray := by
                have z0 : B2 = [] := List.length_eq_zero_iff.1 (by obtain ⟨la1, la2, lb1, lb2, lM1, LP, hN, hfull, lA, lB⟩ := HLN.out; obtain ⟨e1, e2, e3, e4, e5, hen⟩ := HAR.out; (try simp only [List.length_append]); omega)
                have h9 := hb2
                rw [z0] at h9 ⊢
                simpa [mrg_nil_left, mrg_nil_right] using h9
              go_wp2
              go_end0
              refine ⟨rfl, gr2, ?_, hd2⟩
              have h9 := hb3
              rw [HF.out.1]
              simp only [List.append_assoc] at h9 ⊢
              exact h9
          · have w1a : decide ((a : Int) < (i : Int)) = false := decide_eq_false (by omega)
            have w1a' : decide (a < i) = false := decide_eq_false (by omega)
            rcases (show (mid < en ∧ en < b) ∨ (¬ mid < en) ∨ (mid < en ∧ ¬ en < b) by omega) with ⟨x2, y2⟩ | x2 | ⟨x2, y2⟩
            · have w2a : decide ((mid : Int) < (en : Int)) = true := decide_eq_true (by omega)
              have w2a' : decide (mid < en) = true := decide_eq_true (by omega)
              have w2b : decide ((en : Int) < (b : Int)) = true := decide_eq_true (by omega)
              have w2b' : decide (en < b) = true := decide_eq_true (by omega)
              have g := GR.out (P ++ A1) A2 B1 (B2 ++ S) i m en _ (by obtain ⟨la1, la2, lb1, lb2, lM1, LP, hN, hfull, lA, lB⟩ := HLN.out; obtain ⟨e1, e2, e3, e4, e5, hen⟩ := HAR.out; (try simp only [List.length_append]); omega) (by obtain ⟨la1, la2, lb1, lb2, lM1, LP, hN, hfull, lA, lB⟩ := HLN.out; obtain ⟨e1, e2, e3, e4, e5, hen⟩ := HAR.out; (try simp only [List.length_append]); omega) (by obtain ⟨la1, la2, lb1, lb2, lM1, LP, hN, hfull, lA, lB⟩ := HLN.out; obtain ⟨e1, e2, e3, e4, e5, hen⟩ := HAR.out; (try simp only [List.length_append]); omega) (by obtain ⟨la1, la2, lb1, lb2, lM1, LP, hN, hfull, lA, lB⟩ := HLN.out; obtain ⟨e1, e2, e3, e4, e5, hen⟩ := HAR.out; (try simp only [List.length_append]); omega) (by obtain ⟨la1, la2, lb1, lb2, lM1, LP, hN, hfull, lA, lB⟩ := HLN.out; obtain ⟨e1, e2, e3, e4, e5, hen⟩ := HAR.out; (try simp only [List.length_append]); omega) (by obtain ⟨la1, la2, lb1, lb2, lM1, LP, hN, hfull, lA, lB⟩ := HLN.out; obtain ⟨e1, e2, e3, e4, e5, hen⟩ := HAR.out; (try simp only [List.length_append]); omega) hdC hbC
              replace g := Lib.hid g
              go_wp2_with fail
              (with_reducible refine (g.out).mono ?_)
              rintro e w1 ⟨rfl, hg1, hb1, hd1⟩
              clear g
              have gr1 := igrown_trans hgr hg1
              have hb2 : blk w1 g = some (rowC bn (P ++ mrg lt A1 B1 ++ (A2 ++ (B2 ++ S))) ++ sp).toArray := by
                have z0 : A1 = [] := List.length_eq_zero_iff.1 (by obtain ⟨la1, la2, lb1, lb2, lM1, LP, hN, hfull, lA, lB⟩ := HLN.out; obtain ⟨e1, e2, e3, e4, e5, hen⟩ := HAR.out; (try simp only [List.length_append]); omega)
                have h9 := hb1
                rw [z0] at h9 ⊢
                simpa [mrg_nil_left, mrg_nil_right] using h9
              have g := HIH.out (P ++ mrg lt A1 B1) A2 B2 S mid en b _ (by obtain ⟨la1, la2, lb1, lb2, lM1, LP, hN, hfull, lA, lB⟩ := HLN.out; obtain ⟨e1, e2, e3, e4, e5, hen⟩ := HAR.out; (try simp only [List.length_append]); omega) (by obtain ⟨la1, la2, lb1, lb2, lM1, LP, hN, hfull, lA, lB⟩ := HLN.out; obtain ⟨e1, e2, e3, e4, e5, hen⟩ := HAR.out; (try simp only [List.length_append]); omega) (by obtain ⟨la1, la2, lb1, lb2, lM1, LP, hN, hfull, lA, lB⟩ := HLN.out; obtain ⟨e1, e2, e3, e4, e5, hen⟩ := HAR.out; (try simp only [List.length_append]); omega) (by obtain ⟨la1, la2, lb1, lb2, lM1, LP, hN, hfull, lA, lB⟩ := HLN.out; obtain ⟨e1, e2, e3, e4, e5, hen⟩ := HAR.out; (try simp only [List.length_append]); omega) dA2 dB2 sA2 sB2 (by obtain ⟨la1, la2, lb1, lb2, lM1, LP, hN, hfull, lA, lB⟩ := HLN.out; obtain ⟨e1, e2, e3, e4, e5, hen⟩ := HAR.out; (try simp only [List.length_append]); omega) (by obtain ⟨la1, la2, lb1, lb2, lM1, LP, hN, hfull, lA, lB⟩ := HLN.out; obtain ⟨e1, e2, e3, e4, e5, hen⟩ := HAR.out; (try simp only [List.length_append]); omega) (by obtain ⟨la1, la2, lb1, lb2, lM1, LP, hN, hfull, lA, lB⟩ := HLN.out; obtain ⟨e1, e2, e3, e4, e5, hen⟩ := HAR.out; (try simp only [List.length_append]); omega) hd1 (by have h9 := hb2; simp only [List.append_assoc] at h9 ⊢; exact h9)
              replace g := Lib.hid g
              go_wp2_with fail
              (with_reducible refine (g.out).mono ?_)
              rintro e w3 ⟨rfl, hg3, hb3, hd3⟩
              clear g
              have gr3 := igrown_trans gr1 hg3
              go_wp2
              go_end0
              refine ⟨rfl, gr3, ?_, hd3⟩
              have h9 := hb3
              rw [HF.out.1]
              simp only [List.append_assoc] at h9 ⊢
              exact h9
            · have w2a : decide ((mid : Int) < (en : Int)) = false := decide_eq_false (by omega)
              have w2a' : decide (mid < en) = false := decide_eq_false (by omega)
              have g := GR.out (P ++ A1) A2 B1 (B2 ++ S) i m en _ (by obtain ⟨la1, la2, lb1, lb2, lM1, LP, hN, hfull, lA, lB⟩ := HLN.out; obtain ⟨e1, e2, e3, e4, e5, hen⟩ := HAR.out; (try simp only [List.length_append]); omega) (by obtain ⟨la1, la2, lb1, lb2, lM1, LP, hN, hfull, lA, lB⟩ := HLN.out; obtain ⟨e1, e2, e3, e4, e5, hen⟩ := HAR.out; (try simp only [List.length_append]); omega) (by obtain ⟨la1, la2, lb1, lb2, lM1, LP, hN, hfull, lA, lB⟩ := HLN.out; obtain ⟨e1, e2, e3, e4, e5, hen⟩ := HAR.out; (try simp only [List.length_append]); omega) (by obtain ⟨la1, la2, lb1, lb2, lM1, LP, hN, hfull, lA, lB⟩ := HLN.out; obtain ⟨e1, e2, e3, e4, e5, hen⟩ := HAR.out; (try simp only [List.length_append]); omega) (by obtain ⟨la1, la2, lb1, lb2, lM1, LP, hN, hfull, lA, lB⟩ := HLN.out; obtain ⟨e1, e2, e3, e4, e5, hen⟩ := HAR.out; (try simp only [List.length_append]); omega) (by obtain ⟨la1, la2, lb1, lb2, lM1, LP, hN, hfull, lA, lB⟩ := HLN.out; obtain ⟨e1, e2, e3, e4, e5, hen⟩ := HAR.out; (try simp only [List.length_append]); omega) hdC hbC
              replace g := Lib.hid g
              go_wp2_with fail
              (with_reducible refine (g.out).mono ?_)
              rintro e w1 ⟨rfl, hg1, hb1, hd1⟩
              clear g
              have gr1 := igrown_trans hgr hg1
              have hb2 : blk w1 g = some (rowC bn (P ++ mrg lt A1 B1 ++ (A2 ++ (B2 ++ S))) ++ sp).toArray := by
                have z0 : A1 = [] := List.length_eq_zero_iff.1 (by obtain ⟨la1, la2, lb1, lb2, lM1, LP, hN, hfull, lA, lB⟩ := HLN.out; obtain ⟨e1, e2, e3, e4, e5, hen⟩ := HAR.out; (try simp only [List.length_append]); omega)
                have h9 := hb1
                rw [z0] at h9 ⊢
                simpa [mrg_nil_left, mrg_nil_right] using h9
              have hb3 : blk w1 g = some (rowC bn (P ++ mrg lt A1 B1 ++ mrg lt A2 B2 ++ S) ++ sp).toArray := by
                have z0 : A2 = [] := List.length_eq_zero_iff.1 (by obtain ⟨la1, la2, lb1, lb2, lM1, LP, hN, hfull, lA, lB⟩ := HLN.out; obtain ⟨e1, e2, e3, e4, e5, hen⟩ := HAR.out; (try simp only [List.length_append]); omega)
                have h9 := hb2
                rw [z0] at h9 ⊢
                simpa [mrg_nil_left, mrg_nil_right] using h9
              go_wp2
              go_end0
              refine ⟨rfl, gr1, ?_, hd1⟩
              have h9 := hb3
              rw [HF.out.1]
              simp only [List.append_assoc] at h9 ⊢
              exact h9
            · have w2a : decide ((mid : Int) < (en : Int)) = true := decide_eq_true (by omega)
              have w2a' : decide (mid < en) = true := decide_eq_true (by omega)
              have w2b : decide ((en : Int) < (b : Int)) = false := decide_eq_false (by omega)
              have w2b' : decide (en < b) = false := decide_eq_false (by omega)
              have g := GR.out (P ++ A1) A2 B1 (B2 ++ S) i m en _ (by obtain ⟨la1, la2, lb1, lb2, lM1, LP, hN, hfull, lA, lB⟩ := HLN.out; obtain ⟨e1, e2, e3, e4, e5, hen⟩ := HAR.out; (try simp only [List.length_append]); omega) (by obtain ⟨la1, la2, lb1, lb2, lM1, LP, hN, hfull, lA, lB⟩ := HLN.out; obtain ⟨e1, e2, e3, e4, e5, hen⟩ := HAR.out; (try simp only [List.length_append]); omega) (by obtain ⟨la1, la2, lb1, lb2, lM1, LP, hN, hfull, lA, lB⟩ := HLN.out; obtain ⟨e1, e2, e3, e4, e5, hen⟩ := HAR.out; (try simp only [List.length_append]); omega) (by obtain ⟨la1, la2, lb1, lb2, lM1, LP, hN, hfull, lA, lB⟩ := HLN.out; obtain ⟨e1, e2, e3, e4, e5, hen⟩ := HAR.out; (try simp only [List.length_append]); omega) (by obtain ⟨la1, la2, lb1, lb2, lM1, LP, hN, hfull, lA, lB⟩ := HLN.out; obtain ⟨e1, e2, e3, e4, e5, hen⟩ := HAR.out; (try simp only [List.length_append]); omega) (by obtain ⟨la1, la2, lb1, lb2, lM1, LP, hN, hfull, lA, lB⟩ := HLN.out; obtain ⟨e1, e2, e3, e4, e5, hen⟩ := HAR.out; (try simp only [List.length_append]); omega) hdC hbC
              replace g := Lib.hid g
              go_wp2_with fail
              (with_reducible refine (g.out).mono ?_)
              rintro e w1 ⟨rfl, hg1, hb1, hd1⟩
              clear g
              have gr1 := igrown_trans hgr hg1
              have hb2 : blk w1 g = some (rowC bn (P ++ mrg lt A1 B1 ++ (A2 ++ (B2 ++ S))) ++ sp).toArray := by
                have z0 : A1 = [] := List.length_eq_zero_iff.1 (by obtain ⟨la1, la2, lb1, lb2, lM1, LP, hN, hfull, lA, lB⟩ := HLN.out; obtain ⟨e1, e2, e3, e4, e5, hen⟩ := HAR.out; (try simp only [List.length_append]); omega)
                have h9 := hb1
                rw [z0] at h9 ⊢
                simpa [mrg_nil_left, mrg_nil_right] using h9
              have hb3 : blk w1 g = some (rowC bn (P ++ mrg lt A1 B1 ++ mrg lt A2 B2 ++ S) ++ sp).toArray := by
                have z0 : B2 = [] := List.length_eq_zero_iff.1 (by obtain ⟨la1, la2, lb1, lb2, lM1, LP, hN, hfull, lA, lB⟩ := HLN.out; obtain ⟨e1, e2, e3, e4, e5, hen⟩ := HAR.out; (try simp only [List.length_append]); omega)
                have h9 := hb2
                rw [z0] at h9 ⊢
                simpa [mrg_nil_left, mrg_nil_right] using h9
              go_wp2
              go_end0
              refine ⟨rfl, gr1, ?_, hd1⟩
              have h9 := hb3
              rw [HF.out.1]
              simp only [List.append_assoc] at h9 ⊢
              exact h9
          · have w1a : decide ((a : Int) < (i : Int)) = true := decide_eq_true (by omega)
            have w1a' : decide (a < i) = true := decide_eq_true (by omega)
            have w1b : decide ((i : Int) < (mid : Int)) = false := decide_eq_false (by omega)
            have w1b' : decide (i < mid) = false := decide_eq_false (by omega)
            rcases (show (mid < en ∧ en < b) ∨ (¬ mid < en) ∨ (mid < en ∧ ¬ en < b) by omega) with ⟨x2, y2⟩ | x2 | ⟨x2, y2⟩
            · have w2a : decide ((mid : Int) < (en : Int)) = true := decide_eq_true (by omega)
              have w2a' : decide (mid < en) = true := decide_eq_true (by omega)
              have w2b : decide ((en : Int) < (b : Int)) = true := decide_eq_true (by omega)
              have w2b' : decide (en < b) = true := decide_eq_true (by omega)
              have g := GR.out (P ++ A1) A2 B1 (B2 ++ S) i m en _ (by obtain ⟨la1, la2, lb1, lb2, lM1, LP, hN, hfull, lA, lB⟩ := HLN.out; obtain ⟨e1, e2, e3, e4, e5, hen⟩ := HAR.out; (try simp only [List.length_append]); omega) (by obtain ⟨la1, la2, lb1, lb2, lM1, LP, hN, hfull, lA, lB⟩ := HLN.out; obtain ⟨e1, e2, e3, e4, e5, hen⟩ := HAR.out; (try simp only [List.length_append]); omega) (by obtain ⟨la1, la2, lb1, lb2, lM1, LP, hN, hfull, lA, lB⟩ := HLN.out; obtain ⟨e1, e2, e3, e4, e5, hen⟩ := HAR.out; (try simp only [List.length_append]); omega) (by obtain ⟨la1, la2, lb1, lb2, lM1, LP, hN, hfull, lA, lB⟩ := HLN.out; obtain ⟨e1, e2, e3, e4, e5, hen⟩ := HAR.out; (try simp only [List.length_append]); omega) (by obtain ⟨la1, la2, lb1, lb2, lM1, LP, hN, hfull, lA, lB⟩ := HLN.out; obtain ⟨e1, e2, e3, e4, e5, hen⟩ := HAR.out; (try simp only [List.length_append]); omega) (by obtain ⟨la1, la2, lb1, lb2, lM1, LP, hN, hfull, lA, lB⟩ := HLN.out; obtain ⟨e1, e2, e3, e4, e5, hen⟩ := HAR.out; (try simp only [List.length_append]); omega) hdC hbC
              replace g := Lib.hid g
              go_wp2_with fail
              (with_reducible refine (g.out).mono ?_)
              rintro e w1 ⟨rfl, hg1, hb1, hd1⟩
              clear g
              have gr1 := igrown_trans hgr hg1
              have hb2 : blk w1 g = some (rowC bn (P ++ mrg lt A1 B1 ++ (A2 ++ (B2 ++ S))) ++ sp).toArray := by
                have z0 : B1 = [] := List.length_eq_zero_iff.1 (by obtain ⟨la1, la2, lb1, lb2, lM1, LP, hN, hfull, lA, lB⟩ := HLN.out; obtain ⟨e1, e2, e3, e4, e5, hen⟩ := HAR.out; (try simp only [List.length_append]); omega)
                have h9 := hb1
                rw [z0] at h9 ⊢
                simpa [mrg_nil_left, mrg_nil_right] using h9
              have g := HIH.out (P ++ mrg lt A1 B1) A2 B2 S mid en b _ (by obtain ⟨la1, la2, lb1, lb2, lM1, LP, hN, hfull, lA, lB⟩ := HLN.out; obtain ⟨e1, e2, e3, e4, e5, hen⟩ := HAR.out; (try simp only [List.length_append]); omega) (by obtain ⟨la1, la2, lb1, lb2, lM1, LP, hN, hfull, lA, lB⟩ := HLN.out; obtain ⟨e1, e2, e3, e4, e5, hen⟩ := HAR.out; (try simp only [List.length_append]); omega) (by obtain ⟨la1, la2, lb1, lb2, lM1, LP, hN, hfull, lA, lB⟩ := HLN.out; obtain ⟨e1, e2, e3, e4, e5, hen⟩ := HAR.out; (try simp only [List.length_append]); omega) (by obtain ⟨la1, la2, lb1, lb2, lM1, LP, hN, hfull, lA, lB⟩ := HLN.out; obtain ⟨e1, e2, e3, e4, e5, hen⟩ := HAR.out; (try simp only [List.length_append]); omega) dA2 dB2 sA2 sB2 (by obtain ⟨la1, la2, lb1, lb2, lM1, LP, hN, hfull, lA, lB⟩ := HLN.out; obtain ⟨e1, e2, e3, e4, e5, hen⟩ := HAR.out; (try simp only [List.length_append]); omega) (by obtain ⟨la1, la2, lb1, lb2, lM1, LP, hN, hfull, lA, lB⟩ := HLN.out; obtain ⟨e1, e2, e3, e4, e5, hen⟩ := HAR.out; (try simp only [List.length_append]); omega) (by obtain ⟨la1, la2, lb1, lb2, lM1, LP, hN, hfull, lA, lB⟩ := HLN.out; obtain ⟨e1, e2, e3, e4, e5, hen⟩ := HAR.out; (try simp only [List.length_append]); omega) hd1 (by have h9 := hb2; simp only [List.append_assoc] at h9 ⊢; exact h9)
              replace g := Lib.hid g
              go_wp2_with fail
              (with_reducible refine (g.out).mono ?_)
              rintro e w3 ⟨rfl, hg3, hb3, hd3⟩
              clear g
              have gr3 := igrown_trans gr1 hg3
              go_wp2
              go_end0
              refine ⟨rfl, gr3, ?_, hd3⟩
              have h9 := hb3
              rw [HF.out.1]
              simp only [List.append_assoc] at h9 ⊢
              exact h9
            · have w2a : decide ((mid : Int) < (en : Int)) = false := decide_eq_false (by omega)
              have w2a' : decide (mid < en) = false := decide_eq_false (by omega)
              have g := GR.out (P ++ A1) A2 B1 (B2 ++ S) i m en _ (by obtain ⟨la1, la2, lb1, lb2, lM1, LP, hN, hfull, lA, lB⟩ := HLN.out; obtain ⟨e1, e2, e3, e4, e5, hen⟩ := HAR.out; (try simp only [List.length_append]); omega) (by obtain ⟨la1, la2, lb1, lb2, lM1, LP, hN, hfull, lA, lB⟩ := HLN.out; obtain ⟨e1, e2, e3, e4, e5, hen⟩ := HAR.out; (try simp only [List.length_append]); omega) (by obtain ⟨la1, la2, lb1, lb2, lM1, LP, hN, hfull, lA, lB⟩ := HLN.out; obtain ⟨e1, e2, e3, e4, e5, hen⟩ := HAR.out; (try simp only [List.length_append]); omega) (by obtain ⟨la1, la2, lb1, lb2, lM1, LP, hN, hfull, lA, lB⟩ := HLN.out; obtain ⟨e1, e2, e3, e4, e5, hen⟩ := HAR.out; (try simp only [List.length_append]); omega) (by obtain ⟨la1, la2, lb1, lb2, lM1, LP, hN, hfull, lA, lB⟩ := HLN.out; obtain ⟨e1, e2, e3, e4, e5, hen⟩ := HAR.out; (try simp only [List.length_append]); omega) (by obtain ⟨la1, la2, lb1, lb2, lM1, LP, hN, hfull, lA, lB⟩ := HLN.out; obtain ⟨e1, e2, e3, e4, e5, hen⟩ := HAR.out; (try simp only [List.length_append]); omega) hdC hbC
              replace g := Lib.hid g
              go_wp2_with fail
              (with_reducible refine (g.out).mono ?_)
              rintro e w1 ⟨rfl, hg1, hb1, hd1⟩
              clear g
              have gr1 := igrown_trans hgr hg1
              have hb2 : blk w1 g = some (rowC bn (P ++ mrg lt A1 B1 ++ (A2 ++ (B2 ++ S))) ++ sp).toArray := by
                have z0 : B1 = [] := List.length_eq_zero_iff.1 (by obtain ⟨la1, la2, lb1, lb2, lM1, LP, hN, hfull, lA, lB⟩ := HLN.out; obtain ⟨e1, e2, e3, e4, e5, hen⟩ := HAR.out; (try simp only [List.length_append]); omega)
                have h9 := hb1
                rw [z0] at h9 ⊢
                simpa [mrg_nil_left, mrg_nil_right] using h9
              have hb3 : blk w1 g = some (rowC bn (P ++ mrg lt A1 B1 ++ mrg lt A2 B2 ++ S) ++ sp).toArray := by
                have z0 : A2 = [] := List.length_eq_zero_iff.1 (by obtain ⟨la1, la2, lb1, lb2, lM1, LP, hN, hfull, lA, lB⟩ := HLN.out; obtain ⟨e1, e2, e3, e4, e5, hen⟩ := HAR.out; (try simp only [List.length_append]); omega)
                have h9 := hb2
                rw [z0] at h9 ⊢
                simpa [mrg_nil_left, mrg_nil_right] using h9
              go_wp2
              go_end0
              refine ⟨rfl, gr1, ?_, hd1⟩
              have h9 := hb3
              rw [HF.out.1]
              simp only [List.append_assoc] at h9 ⊢
              exact h9
            · have w2a : decide ((mid : Int) < (en : Int)) = true := decide_eq_true (by omega)
              have w2a' : decide (mid < en) = true := decide_eq_true (by omega)
              have w2b : decide ((en : Int) < (b : Int)) = false := decide_eq_false (by omega)
              have w2b' : decide (en < b) = false := decide_eq_false (by omega)
              have g := GR.out (P ++ A1) A2 B1 (B2 ++ S) i m en _ (by obtain ⟨la1, la2, lb1, lb2, lM1, LP, hN, hfull, lA, lB⟩ := HLN.out; obtain ⟨e1, e2, e3, e4, e5, hen⟩ := HAR.out; (try simp only [List.length_append]); omega) (by obtain ⟨la1, la2, lb1, lb2, lM1, LP, hN, hfull, lA, lB⟩ := HLN.out; obtain ⟨e1, e2, e3, e4, e5, hen⟩ := HAR.out; (try simp only [List.length_append]); omega) (by obtain ⟨la1, la2, lb1, lb2, lM1, LP, hN, hfull, lA, lB⟩ := HLN.out; obtain ⟨e1, e2, e3, e4, e5, hen⟩ := HAR.out; (try simp only [List.length_append]); omega) (by obtain ⟨la1, la2, lb1, lb2, lM1, LP, hN, hfull, lA, lB⟩ := HLN.out; obtain ⟨e1, e2, e3, e4, e5, hen⟩ := HAR.out; (try simp only [List.length_append]); omega) (by obtain ⟨la1, la2, lb1, lb2, lM1, LP, hN, hfull, lA, lB⟩ := HLN.out; obtain ⟨e1, e2, e3, e4, e5, hen⟩ := HAR.out; (try simp only [List.length_append]); omega) (by obtain ⟨la1, la2, lb1, lb2, lM1, LP, hN, hfull, lA, lB⟩ := HLN.out; obtain ⟨e1, e2, e3, e4, e5, hen⟩ := HAR.out; (try simp only [List.length_append]); omega) hdC hbC
              replace g := Lib.hid g
              go_wp2_with fail
              (with_reducible refine (g.out).mono ?_)
              rintro e w1 ⟨rfl, hg1, hb1, hd1⟩
              clear g
              have gr1 := igrown_trans hgr hg1
              have hb2 : blk w1 g = some (rowC bn (P ++ mrg lt A1 B1 ++ (A2 ++ (B2 ++ S))) ++ sp).toArray := by
                have z0 : B1 = [] := List.length_eq_zero_iff.1 (by obtain ⟨la1, la2, lb1, lb2, lM1, LP, hN, hfull, lA, lB⟩ := HLN.out; obtain ⟨e1, e2, e3, e4, e5, hen⟩ := HAR.out; (try simp only [List.length_append]); omega)
                have h9 := hb1
                rw [z0] at h9 ⊢
                simpa [mrg_nil_left, mrg_nil_right] using h9
              have hb3 : blk w1 g = some (rowC bn (P ++ mrg lt A1 B1 ++ mrg lt A2 B2 ++ S) ++ sp).toArray := by
                have z0 : B2 = [] := List.length_eq_zero_iff.1 (by obtain ⟨la1, la2, lb1, lb2, lM1, LP, hN, hfull, lA, lB⟩ := HLN.out; obtain ⟨e1, e2, e3, e4, e5, hen⟩ := HAR.out; (try simp only [List.length_append]); omega)
                have h9 := hb2
                rw [z0] at h9 ⊢
                simpa [mrg_nil_left, mrg_nil_right] using h9
              go_wp2
              go_end0
              refine ⟨rfl, gr1, ?_, hd1⟩
              have h9 := hb3
              rw [HF.out.1]
              simp only [List.append_assoc] at h9 ⊢
              exact h9
        · have w0a : decide ((i : Int) < (m : Int)) = false := decide_eq_false (by omega)
          have w0a' : decide (i < m) = false := decide_eq_false (by omega)
          rcases (show (a < i ∧ i < mid) ∨ (¬ a < i) ∨ (a < i ∧ ¬ i < mid) by omega) with ⟨x1, y1⟩ | x1 | ⟨x1, y1⟩
          · have w1a : decide ((a : Int) < (i : Int)) = true := decide_eq_true (by omega)
            have w1a' : decide (a < i) = true := decide_eq_true (by omega)
            have w1b : decide ((i : Int) < (mid : Int)) = true := decide_eq_true (by omega)
            have w1b' : decide (i < mid) = true := decide_eq_true (by omega)
            rcases (show (mid < en ∧ en < b) ∨ (¬ mid < en) ∨ (mid < en ∧ ¬ en < b) by omega) with ⟨x2, y2⟩ | x2 | ⟨x2, y2⟩
            · have w2a : decide ((mid : Int) < (en : Int)) = true := decide_eq_true (by omega)
              have w2a' : decide (mid < en) = true := decide_eq_true (by omega)
              have w2b : decide ((en : Int) < (b : Int)) = true := decide_eq_true (by omega)
              have w2b' : decide (en < b) = true := decide_eq_true (by omega)
              have hb1 : blk wr g = some (rowC bn (P ++ A1 ++ B1 ++ A2 ++ (B2 ++ S)) ++ sp).toArray := by
                have z0 : A2 = [] := List.length_eq_zero_iff.1 (by obtain ⟨la1, la2, lb1, lb2, lM1, LP, hN, hfull, lA, lB⟩ := HLN.out; obtain ⟨e1, e2, e3, e4, e5, hen⟩ := HAR.out; (try simp only [List.length_append]); omega)
                have h9 := hbC
                rw [z0] at h9 ⊢
                simpa [mrg_nil_left, mrg_nil_right] using h9
              have g := HIH.out P A1 B1 (A2 ++ (B2 ++ S)) a i mid _ (by obtain ⟨la1, la2, lb1, lb2, lM1, LP, hN, hfull, lA, lB⟩ := HLN.out; obtain ⟨e1, e2, e3, e4, e5, hen⟩ := HAR.out; (try simp only [List.length_append]); omega) (by obtain ⟨la1, la2, lb1, lb2, lM1, LP, hN, hfull, lA, lB⟩ := HLN.out; obtain ⟨e1, e2, e3, e4, e5, hen⟩ := HAR.out; (try simp only [List.length_append]); omega) (by obtain ⟨la1, la2, lb1, lb2, lM1, LP, hN, hfull, lA, lB⟩ := HLN.out; obtain ⟨e1, e2, e3, e4, e5, hen⟩ := HAR.out; (try simp only [List.length_append]); omega) (by obtain ⟨la1, la2, lb1, lb2, lM1, LP, hN, hfull, lA, lB⟩ := HLN.out; obtain ⟨e1, e2, e3, e4, e5, hen⟩ := HAR.out; (try simp only [List.length_append]); omega) dA1 dB1 sA1 sB1 (by obtain ⟨la1, la2, lb1, lb2, lM1, LP, hN, hfull, lA, lB⟩ := HLN.out; obtain ⟨e1, e2, e3, e4, e5, hen⟩ := HAR.out; (try simp only [List.length_append]); omega) (by obtain ⟨la1, la2, lb1, lb2, lM1, LP, hN, hfull, lA, lB⟩ := HLN.out; obtain ⟨e1, e2, e3, e4, e5, hen⟩ := HAR.out; (try simp only [List.length_append]); omega) (by obtain ⟨la1, la2, lb1, lb2, lM1, LP, hN, hfull, lA, lB⟩ := HLN.out; obtain ⟨e1, e2, e3, e4, e5, hen⟩ := HAR.out; (try simp only [List.length_append]); omega) hdC (by have h9 := hb1; simp only [List.append_assoc] at h9 ⊢; exact h9)
              replace g := Lib.hid g
              go_wp2_with fail
              (with_reducible refine (g.out).mono ?_)
              rintro e w2 ⟨rfl, hg2, hb2, hd2⟩
              clear g
              have gr2 := igrown_trans hgr hg2
              have g := HIH.out (P ++ mrg lt A1 B1) A2 B2 S mid en b _ (by obtain ⟨la1, la2, lb1, lb2, lM1, LP, hN, hfull, lA, lB⟩ := HLN.out; obtain ⟨e1, e2, e3, e4, e5, hen⟩ := HAR.out; (try simp only [List.length_append]); omega) (by obtain ⟨la1, la2, lb1, lb2, lM1, LP, hN, hfull, lA, lB⟩ := HLN.out; obtain ⟨e1, e2, e3, e4, e5, hen⟩ := HAR.out; (try simp only [List.length_append]); omega) (by obtain ⟨la1, la2, lb1, lb2, lM1, LP, hN, hfull, lA, lB⟩ := HLN.out; obtain ⟨e1, e2, e3, e4, e5, hen⟩ := HAR.out; (try simp only [List.length_append]); omega) (by obtain ⟨la1, la2, lb1, lb2, lM1, LP, hN, hfull, lA, lB⟩ := HLN.out; obtain ⟨e1, e2, e3, e4, e5, hen⟩ := HAR.out; (try simp only [List.length_append]); omega) dA2 dB2 sA2 sB2 (by obtain ⟨la1, la2, lb1, lb2, lM1, LP, hN, hfull, lA, lB⟩ := HLN.out; obtain ⟨e1, e2, e3, e4, e5, hen⟩ := HAR.out; (try simp only [List.length_append]); omega) (by obtain ⟨la1, la2, lb1, lb2, lM1, LP, hN, hfull, lA, lB⟩ := HLN.out; obtain ⟨e1, e2, e3, e4, e5, hen⟩ := HAR.out; (try simp only [List.length_append]); omega) (by obtain ⟨la1, la2, lb1, lb2, lM1, LP, hN, hfull, lA, lB⟩ := HLN.out; obtain ⟨e1, e2, e3, e4, e5, hen⟩ := HAR.out; (try simp only [List.length_append]); omega) hd2 (by have h9 := hb2; simp only [List.append_assoc] at h9 ⊢; exact h9)
              replace g := Lib.hid g
              go_wp2_with fail
              (with_reducible refine (g.out).mono ?_)
              rintro e w3 ⟨rfl, hg3, hb3, hd3⟩
              clear g
              have gr3 := igrown_trans gr2 hg3
              go_wp2
              go_end0
              refine ⟨rfl, gr3, ?_, hd3⟩
              have h9 := hb3
              rw [HF.out.1]
              simp only [List.append_assoc] at h9 ⊢
              exact h9
            · have w2a : decide ((mid : Int) < (en : Int)) = false := decide_eq_false (by omega)
              have w2a' : decide (mid < en) = false := decide_eq_false (by omega)
              have hb1 : blk wr g = some (rowC bn (P ++ A1 ++ B1 ++ A2 ++ (B2 ++ S)) ++ sp).toArray := by
                have z0 : A2 = [] := List.length_eq_zero_iff.1 (by obtain ⟨la1, la2, lb1, lb2, lM1, LP, hN, hfull, lA, lB⟩ := HLN.out; obtain ⟨e1, e2, e3, e4, e5, hen⟩ := HAR.out; (try simp only [List.length_append]); omega)
                have h9 := hbC
                rw [z0] at h9 ⊢
                simpa [mrg_nil_left, mrg_nil_right] using h9
              have g := HIH.out P A1 B1 (A2 ++ (B2 ++ S)) a i mid _ (by obtain ⟨la1, la2, lb1, lb2, lM1, LP, hN, hfull, lA, lB⟩ := HLN.out; obtain ⟨e1, e2, e3, e4, e5, hen⟩ := HAR.out; (try simp only [List.length_append]); omega) (by obtain ⟨la1, la2, lb1, lb2, lM1, LP, hN, hfull, lA, lB⟩ := HLN.out; obtain ⟨e1, e2, e3, e4, e5, hen⟩ := HAR.out; (try simp only [List.length_append]); omega) (by obtain ⟨la1, la2, lb1, lb2, lM1, LP, hN, hfull, lA, lB⟩ := HLN.out; obtain ⟨e1, e2, e3, e4, e5, hen⟩ := HAR.out; (try simp only [List.length_append]); omega) (by obtain ⟨la1, la2, lb1, lb2, lM1, LP, hN, hfull, lA, lB⟩ := HLN.out; obtain ⟨e1, e2, e3, e4, e5, hen⟩ := HAR.out; (try simp only [List.length_append]); omega) dA1 dB1 sA1 sB1 (by obtain ⟨la1, la2, lb1, lb2, lM1, LP, hN, hfull, lA, lB⟩ := HLN.out; obtain ⟨e1, e2, e3, e4, e5, hen⟩ := HAR.out; (try simp only [List.length_append]); omega) (by obtain ⟨la1, la2, lb1, lb2, lM1, LP, hN, hfull, lA, lB⟩ := HLN.out; obtain ⟨e1, e2, e3, e4, e5, hen⟩ := HAR.out; (try simp only [List.length_append]); omega) (by obtain ⟨la1, la2, lb1, lb2, lM1, LP, hN, hfull, lA, lB⟩ := HLN.out; obtain ⟨e1, e2, e3, e4, e5, hen⟩ := HAR.out; (try simp only [List.length_append]); omega) hdC (by have h9 := hb1; simp only [List.append_assoc] at h9 ⊢; exact h9)
              replace g := Lib.hid g
              go_wp2_with fail
              (with_reducible refine (g.out).mono ?_)
              rintro e w2 ⟨rfl, hg2, hb2, hd2⟩
              clear g
              have gr2 := igrown_trans hgr hg2
              have hb3 : blk w2 g = some (rowC bn (P ++ mrg lt A1 B1 ++ mrg lt A2 B2 ++ S) ++ sp).toArray := by
                have z0 : A2 = [] := List.length_eq_zero_iff.1 (by obtain ⟨la1, la2, lb1, lb2, lM1, LP, hN, hfull, lA, lB⟩ := HLN.out; obtain ⟨e1, e2, e3, e4, e5, hen⟩ := HAR.out; (try simp only [List.length_append]); omega)
                have h9 := hb2
                rw [z0] at h9 ⊢
                simpa [mrg_nil_left, mrg_nil_right] using h9
              go_wp2
              go_end0
              refine ⟨rfl, gr2, ?_, hd2⟩
              have h9 := hb3
              rw [HF.out.1]
              simp only [List.append_assoc] at h9 ⊢
              exact h9
            · have w2a : decide ((mid : Int) < (en : Int)) = true := decide_eq_true (by omega)
              have w2a' : decide (mid < en) = true := decide_eq_true (by omega)
              have w2b : decide ((en : Int) < (b : Int)) = false := decide_eq_false (by omega)
              have w2b' : decide (en < b) = false := decide_eq_false (by omega)
              have hb1 : blk wr g = some (rowC bn (P ++ A1 ++ B1 ++ A2 ++ (B2 ++ S)) ++ sp).toArray := by
                have z0 : A2 = [] := List.length_eq_zero_iff.1 (by obtain ⟨la1, la2, lb1, lb2, lM1, LP, hN, hfull, lA, lB⟩ := HLN.out; obtain ⟨e1, e2, e3, e4, e5, hen⟩ := HAR.out; (try simp only [List.length_append]); omega)
                have h9 := hbC
                rw [z0] at h9 ⊢
                simpa [mrg_nil_left, mrg_nil_right] using h9
              have g := HIH.out P A1 B1 (A2 ++ (B2 ++ S)) a i mid _ (by obtain ⟨la1, la2, lb1, lb2, lM1, LP, hN, hfull, lA, lB⟩ := HLN.out; obtain ⟨e1, e2, e3, e4, e5, hen⟩ := HAR.out; (try simp only [List.length_append]); omega) (by obtain ⟨la1, la2, lb1, lb2, lM1, LP, hN, hfull, lA, lB⟩ := HLN.out; obtain ⟨e1, e2, e3, e4, e5, hen⟩ := HAR.out; (try simp only [List.length_append]); omega) (by obtain ⟨la1, la2, lb1, lb2, lM1, LP, hN, hfull, lA, lB⟩ := HLN.out; obtain ⟨e1, e2, e3, e4, e5, hen⟩ := HAR.out; (try simp only [List.length_append]); omega) (by obtain ⟨la1, la2, lb1, lb2, lM1, LP, hN, hfull, lA, lB⟩ := HLN.out; obtain ⟨e1, e2, e3, e4, e5, hen⟩ := HAR.out; (try simp only [List.length_append]); omega) dA1 dB1 sA1 sB1 (by obtain ⟨la1, la2, lb1, lb2, lM1, LP, hN, hfull, lA, lB⟩ := HLN.out; obtain ⟨e1, e2, e3, e4, e5, hen⟩ := HAR.out; (try simp only [List.length_append]); omega) (by obtain ⟨la1, la2, lb1, lb2, lM1, LP, hN, hfull, lA, lB⟩ := HLN.out; obtain ⟨e1, e2, e3, e4, e5, hen⟩ := HAR.out; (try simp only [List.length_append]); omega) (by obtain ⟨la1, la2, lb1, lb2, lM1, LP, hN, hfull, lA, lB⟩ := HLN.out; obtain ⟨e1, e2, e3, e4, e5, hen⟩ := HAR.out; (try simp only [List.length_append]); omega) hdC (by have h9 := hb1; simp only [List.append_assoc] at h9 ⊢; exact h9)
              replace g := Lib.hid g
              go_wp2_with fail
              (with_reducible refine (g.out).mono ?_)
              rintro e w2 ⟨rfl, hg2, hb2, hd2⟩
              clear g
              have gr2 := igrown_trans hgr hg2
              have hb3 : blk w2 g = some (rowC bn (P ++ mrg lt A1 B1 ++ mrg lt A2 B2 ++ S) ++ sp).toArray := by
                have z0 : B2 = [] := List.length_eq_zero_iff.1 (by obtain ⟨la1, la2, lb1, lb2, lM1, LP, hN, hfull, lA, lB⟩ := HLN.out; obtain ⟨e1, e2, e3, e4, e5, hen⟩ := HAR.out; (try simp only [List.length_append]); omega)
                have h9 := hb2
                rw [z0] at h9 ⊢
                simpa [mrg_nil_left, mrg_nil_right] using h9
              go_wp2
              go_end0
              refine ⟨rfl, gr2, ?_, hd2⟩
              have h9 := hb3
              rw [HF.out.1]
              simp only [List.append_assoc] at h9 ⊢
              exact h9
          · have w1a : decide ((a : Int) < (i : Int)) = false := decide_eq_false (by omega)
            have w1a' : decide (a < i) = false := decide_eq_false (by omega)
            rcases (show (mid < en ∧ en < b) ∨ (¬ mid < en) ∨ (mid < en ∧ ¬ en < b) by omega) with ⟨x2, y2⟩ | x2 | ⟨x2, y2⟩
            · have w2a : decide ((mid : Int) < (en : Int)) = true := decide_eq_true (by omega)
              have w2a' : decide (mid < en) = true := decide_eq_true (by omega)
              have w2b : decide ((en : Int) < (b : Int)) = true := decide_eq_true (by omega)
              have w2b' : decide (en < b) = true := decide_eq_true (by omega)
              have hb1 : blk wr g = some (rowC bn (P ++ A1 ++ B1 ++ A2 ++ (B2 ++ S)) ++ sp).toArray := by
                have z0 : A2 = [] := List.length_eq_zero_iff.1 (by obtain ⟨la1, la2, lb1, lb2, lM1, LP, hN, hfull, lA, lB⟩ := HLN.out; obtain ⟨e1, e2, e3, e4, e5, hen⟩ := HAR.out; (try simp only [List.length_append]); omega)
                have h9 := hbC
                rw [z0] at h9 ⊢
                simpa [mrg_nil_left, mrg_nil_right] using h9
              have hb2 : blk wr g = some (rowC bn (P ++ mrg lt A1 B1 ++ (A2 ++ (B2 ++ S))) ++ sp).toArray := by
                have z0 : A1 = [] := List.length_eq_zero_iff.1 (by obtain ⟨la1, la2, lb1, lb2, lM1, LP, hN, hfull, lA, lB⟩ := HLN.out; obtain ⟨e1, e2, e3, e4, e5, hen⟩ := HAR.out; (try simp only [List.length_append]); omega)
                have h9 := hb1
                rw [z0] at h9 ⊢
                simpa [mrg_nil_left, mrg_nil_right] using h9
              have g := HIH.out (P ++ mrg lt A1 B1) A2 B2 S mid en b _ (by obtain ⟨la1, la2, lb1, lb2, lM1, LP, hN, hfull, lA, lB⟩ := HLN.out; obtain ⟨e1, e2, e3, e4, e5, hen⟩ := HAR.out; (try simp only [List.length_append]); omega) (by obtain ⟨la1, la2, lb1, lb2, lM1, LP, hN, hfull, lA, lB⟩ := HLN.out; obtain ⟨e1, e2, e3, e4, e5, hen⟩ := HAR.out; (try simp only [List.length_append]); omega) (by obtain ⟨la1, la2, lb1, lb2, lM1, LP, hN, hfull, lA, lB⟩ := HLN.out; obtain ⟨e1, e2, e3, e4, e5, hen⟩ := HAR.out; (try simp only [List.length_append]); omega) (by obtain ⟨la1, la2, lb1, lb2, lM1, LP, hN, hfull, lA, lB⟩ := HLN.out; obtain ⟨e1, e2, e3, e4, e5, hen⟩ := HAR.out; (try simp only [List.length_append]); omega) dA2 dB2 sA2 sB2 (by obtain ⟨la1, la2, lb1, lb2, lM1, LP, hN, hfull, lA, lB⟩ := HLN.out; obtain ⟨e1, e2, e3, e4, e5, hen⟩ := HAR.out; (try simp only [List.length_append]); omega) (by obtain ⟨la1, la2, lb1, lb2, lM1, LP, hN, hfull, lA, lB⟩ := HLN.out; obtain ⟨e1, e2, e3, e4, e5, hen⟩ := HAR.out; (try simp only [List.length_append]); omega) (by obtain ⟨la1, la2, lb1, lb2, lM1, LP, hN, hfull, lA, lB⟩ := HLN.out; obtain ⟨e1, e2, e3, e4, e5, hen⟩ := HAR.out; (try simp only [List.length_append]); omega) hdC (by have h9 := hb2; simp only [List.append_assoc] at h9 ⊢; exact h9)
              replace g := Lib.hid g
              go_wp2_with fail
              (with_reducible refine (g.out).mono ?_)
              rintro e w3 ⟨rfl, hg3, hb3, hd3⟩
              clear g
              have gr3 := igrown_trans hgr hg3
              go_wp2
              go_end0
              refine ⟨rfl, gr3, ?_, hd3⟩
              have h9 := hb3
              rw [HF.out.1]
              simp only [List.append_assoc] at h9 ⊢
              exact h9
            · have w2a : decide ((mid : Int) < (en : Int)) = false := decide_eq_false (by omega)
              have w2a' : decide (mid < en) = false := decide_eq_false (by omega)
              have hb1 : blk wr g = some (rowC bn (P ++ A1 ++ B1 ++ A2 ++ (B2 ++ S)) ++ sp).toArray := by
                have z0 : A2 = [] := List.length_eq_zero_iff.1 (by obtain ⟨la1, la2, lb1, lb2, lM1, LP, hN, hfull, lA, lB⟩ := HLN.out; obtain ⟨e1, e2, e3, e4, e5, hen⟩ := HAR.out; (try simp only [List.length_append]); omega)
                have h9 := hbC
                rw [z0] at h9 ⊢
                simpa [mrg_nil_left, mrg_nil_right] using h9
              have hb2 : blk wr g = some (rowC bn (P ++ mrg lt A1 B1 ++ (A2 ++ (B2 ++ S))) ++ sp).toArray := by
                have z0 : A1 = [] := List.length_eq_zero_iff.1 (by obtain ⟨la1, la2, lb1, lb2, lM1, LP, hN, hfull, lA, lB⟩ := HLN.out; obtain ⟨e1, e2, e3, e4, e5, hen⟩ := HAR.out; (try simp only [List.length_append]); omega)
                have h9 := hb1
                rw [z0] at h9 ⊢
                simpa [mrg_nil_left, mrg_nil_right] using h9
              have hb3 : blk wr g = some (rowC bn (P ++ mrg lt A1 B1 ++ mrg lt A2 B2 ++ S) ++ sp).toArray := by
                have z0 : A2 = [] := List.length_eq_zero_iff.1 (by obtain ⟨la1, la2, lb1, lb2, lM1, LP, hN, hfull, lA, lB⟩ := HLN.out; obtain ⟨e1, e2, e3, e4, e5, hen⟩ := HAR.out; (try simp only [List.length_append]); omega)
                have h9 := hb2
                rw [z0] at h9 ⊢
                simpa [mrg_nil_left, mrg_nil_right] using h9
              go_wp2
              go_end0
              refine ⟨rfl, hgr, ?_, hdC⟩
              have h9 := hb3
              rw [HF.out.1]
              simp only [List.append_assoc] at h9 ⊢
              exact h9
            · have w2a : decide ((mid : Int) < (en : Int)) = true := decide_eq_true (by omega)
              have w2a' : decide (mid < en) = true := decide_eq_true (by omega)
              have w2b : decide ((en : Int) < (b : Int)) = false := decide_eq_false (by omega)
              have w2b' : decide (en < b) = false := decide_eq_false (by omega)
              have hb1 : blk wr g = some (rowC bn (P ++ A1 ++ B1 ++ A2 ++ (B2 ++ S)) ++ sp).toArray := by
                have z0 : A2 = [] := List.length_eq_zero_iff.1 (by obtain ⟨la1, la2, lb1, lb2, lM1, LP, hN, hfull, lA, lB⟩ := HLN.out; obtain ⟨e1, e2, e3, e4, e5, hen⟩ := HAR.out; (try simp only [List.length_append]); omega)
                have h9 := hbC
                rw [z0] at h9 ⊢
                simpa [mrg_nil_left, mrg_nil_right] using h9
              have hb2 : blk wr g = some (rowC bn (P ++ mrg lt A1 B1 ++ (A2 ++ (B2 ++ S))) ++ sp).toArray := by
                have z0 : A1 = [] := List.length_eq_zero_iff.1 (by obtain ⟨la1, la2, lb1, lb2, lM1, LP, hN, hfull, lA, lB⟩ := HLN.out; obtain ⟨e1, e2, e3, e4, e5, hen⟩ := HAR.out; (try simp only [List.length_append]); omega)
                have h9 := hb1
                rw [z0] at h9 ⊢
                simpa [mrg_nil_left, mrg_nil_right] using h9
              have hb3 : blk wr g = some (rowC bn (P ++ mrg lt A1 B1 ++ mrg lt A2 B2 ++ S) ++ sp).toArray := by
                have z0 : B2 = [] := List.length_eq_zero_iff.1 (by obtain ⟨la1, la2, lb1, lb2, lM1, LP, hN, hfull, lA, lB⟩ := HLN.out; obtain ⟨e1, e2, e3, e4, e5, hen⟩ := HAR.out; (try simp only [List.length_append]); omega)
                have h9 := hb2
                rw [z0] at h9 ⊢
                simpa [mrg_nil_left, mrg_nil_right] using h9
              go_wp2
              go_end0
              refine ⟨rfl, hgr, ?_, hdC⟩
              have h9 := hb3
              rw [HF.out.1]
              simp only [List.append_assoc] at h9 ⊢
              exact h9
          · have w1a : decide ((a : Int) < (i : Int)) = true := decide_eq_true (by omega)
            have w1a' : decide (a < i) = true := decide_eq_true (by omega)
            have w1b : decide ((i : Int) < (mid : Int)) = false := decide_eq_false (by omega)
            have w1b' : decide (i < mid) = false := decide_eq_false (by omega)
            rcases (show (mid < en ∧ en < b) ∨ (¬ mid < en) ∨ (mid < en ∧ ¬ en < b) by omega) with ⟨x2, y2⟩ | x2 | ⟨x2, y2⟩
            · have w2a : decide ((mid : Int) < (en : Int)) = true := decide_eq_true (by omega)
              have w2a' : decide (mid < en) = true := decide_eq_true (by omega)
              have w2b : decide ((en : Int) < (b : Int)) = true := decide_eq_true (by omega)
              have w2b' : decide (en < b) = true := decide_eq_true (by omega)
              have hb1 : blk wr g = some (rowC bn (P ++ A1 ++ B1 ++ A2 ++ (B2 ++ S)) ++ sp).toArray := by
                have z0 : A2 = [] := List.length_eq_zero_iff.1 (by obtain ⟨la1, la2, lb1, lb2, lM1, LP, hN, hfull, lA, lB⟩ := HLN.out; obtain ⟨e1, e2, e3, e4, e5, hen⟩ := HAR.out; (try simp only [List.length_append]); omega)
                have h9 := hbC
                rw [z0] at h9 ⊢
                simpa [mrg_nil_left, mrg_nil_right] using h9
              have hb2 : blk wr g = some (rowC bn (P ++ mrg lt A1 B1 ++ (A2 ++ (B2 ++ S))) ++ sp).toArray := by
                have z0 : B1 = [] := List.length_eq_zero_iff.1 (by obtain ⟨la1, la2, lb1, lb2, lM1, LP, hN, hfull, lA, lB⟩ := HLN.out; obtain ⟨e1, e2, e3, e4, e5, hen⟩ := HAR.out; (try simp only [List.length_append]); omega)
                have h9 := hb1
                rw [z0] at h9 ⊢
                simpa [mrg_nil_left, mrg_nil_right] using h9
              have g := HIH.out (P ++ mrg lt A1 B1) A2 B2 S mid en b _ (by obtain ⟨la1, la2, lb1, lb2, lM1, LP, hN, hfull, lA, lB⟩ := HLN.out; obtain ⟨e1, e2, e3, e4, e5, hen⟩ := HAR.out; (try simp only [List.length_append]); omega) (by obtain ⟨la1, la2, lb1, lb2, lM1, LP, hN, hfull, lA, lB⟩ := HLN.out; obtain ⟨e1, e2, e3, e4, e5, hen⟩ := HAR.out; (try simp only [List.length_append]); omega) (by obtain ⟨la1, la2, lb1, lb2, lM1, LP, hN, hfull, lA, lB⟩ := HLN.out; obtain ⟨e1, e2, e3, e4, e5, hen⟩ := HAR.out; (try simp only [List.length_append]); omega) (by obtain ⟨la1, la2, lb1, lb2, lM1, LP, hN, hfull, lA, lB⟩ := HLN.out; obtain ⟨e1, e2, e3, e4, e5, hen⟩ := HAR.out; (try simp only [List.length_append]); omega) dA2 dB2 sA2 sB2 (by obtain ⟨la1, la2, lb1, lb2, lM1, LP, hN, hfull, lA, lB⟩ := HLN.out; obtain ⟨e1, e2, e3, e4, e5, hen⟩ := HAR.out; (try simp only [List.length_append]); omega) (by obtain ⟨la1, la2, lb1, lb2, lM1, LP, hN, hfull, lA, lB⟩ := HLN.out; obtain ⟨e1, e2, e3, e4, e5, hen⟩ := HAR.out; (try simp only [List.length_append]); omega) (by obtain ⟨la1, la2, lb1, lb2, lM1, LP, hN, hfull, lA, lB⟩ := HLN.out; obtain ⟨e1, e2, e3, e4, e5, hen⟩ := HAR.out; (try simp only [List.length_append]); omega) hdC (by have h9 := hb2; simp only [List.append_assoc] at h9 ⊢; exact h9)
              replace g := Lib.hid g
              go_wp2_with fail
              (with_reducible refine (g.out).mono ?_)
              rintro e w3 ⟨rfl, hg3, hb3, hd3⟩
              clear g
              have gr3 := igrown_trans hgr hg3
              go_wp2
              go_end0
              refine ⟨rfl, gr3, ?_, hd3⟩
              have h9 := hb3
              rw [HF.out.1]
              simp only [List.append_assoc] at h9 ⊢
              exact h9
            · have w2a : decide ((mid : Int) < (en : Int)) = false := decide_eq_false (by omega)
              have w2a' : decide (mid < en) = false := decide_eq_false (by omega)
              have hb1 : blk wr g = some (rowC bn (P ++ A1 ++ B1 ++ A2 ++ (B2 ++ S)) ++ sp).toArray := by
                have z0 : A2 = [] := List.length_eq_zero_iff.1 (by obtain ⟨la1, la2, lb1, lb2, lM1, LP, hN, hfull, lA, lB⟩ := HLN.out; obtain ⟨e1, e2, e3, e4, e5, hen⟩ := HAR.out; (try simp only [List.length_append]); omega)
                have h9 := hbC
                rw [z0] at h9 ⊢
                simpa [mrg_nil_left, mrg_nil_right] using h9
              have hb2 : blk wr g = some (rowC bn (P ++ mrg lt A1 B1 ++ (A2 ++ (B2 ++ S))) ++ sp).toArray := by
                have z0 : B1 = [] := List.length_eq_zero_iff.1 (by obtain ⟨la1, la2, lb1, lb2, lM1, LP, hN, hfull, lA, lB⟩ := HLN.out; obtain ⟨e1, e2, e3, e4, e5, hen⟩ := HAR.out; (try simp only [List.length_append]); omega)
                have h9 := hb1
                rw [z0] at h9 ⊢
                simpa [mrg_nil_left, mrg_nil_right] using h9
              have hb3 : blk wr g = some (rowC bn (P ++ mrg lt A1 B1 ++ mrg lt A2 B2 ++ S) ++ sp).toArray := by
                have z0 : A2 = [] := List.length_eq_zero_iff.1 (by obtain ⟨la1, la2, lb1, lb2, lM1, LP, hN, hfull, lA, lB⟩ := HLN.out; obtain ⟨e1, e2, e3, e4, e5, hen⟩ := HAR.out; (try simp only [List.length_append]); omega)
                have h9 := hb2
                rw [z0] at h9 ⊢
                simpa [mrg_nil_left, mrg_nil_right] using h9
              go_wp2
              go_end0
              refine ⟨rfl, hgr, ?_, hdC⟩
              have h9 := hb3
              rw [HF.out.1]
              simp only [List.append_assoc] at h9 ⊢
              exact h9
            · have w2a : decide ((mid : Int) < (en : Int)) = true := decide_eq_true (by omega)
              have w2a' : decide (mid < en) = true := decide_eq_true (by omega)
              have w2b : decide ((en : Int) < (b : Int)) = false := decide_eq_false (by omega)
              have w2b' : decide (en < b) = false := decide_eq_false (by omega)
              have hb1 : blk wr g = some (rowC bn (P ++ A1 ++ B1 ++ A2 ++ (B2 ++ S)) ++ sp).toArray := by
                have z0 : A2 = [] := List.length_eq_zero_iff.1 (by obtain ⟨la1, la2, lb1, lb2, lM1, LP, hN, hfull, lA, lB⟩ := HLN.out; obtain ⟨e1, e2, e3, e4, e5, hen⟩ := HAR.out; (try simp only [List.length_append]); omega)
                have h9 := hbC
                rw [z0] at h9 ⊢
                simpa [mrg_nil_left, mrg_nil_right] using h9
              have hb2 : blk wr g = some (rowC bn (P ++ mrg lt A1 B1 ++ (A2 ++ (B2 ++ S))) ++ sp).toArray := by
                have z0 : B1 = [] := List.length_eq_zero_iff.1 (by obtain ⟨la1, la2, lb1, lb2, lM1, LP, hN, hfull, lA, lB⟩ := HLN.out; obtain ⟨e1, e2, e3, e4, e5, hen⟩ := HAR.out; (try simp only [List.length_append]); omega)
                have h9 := hb1
                rw [z0] at h9 ⊢
                simpa [mrg_nil_left, mrg_nil_right] using h9
              have hb3 : blk wr g = some (rowC bn (P ++ mrg lt A1 B1 ++ mrg lt A2 B2 ++ S) ++ sp).toArray := by
                have z0 : B2 = [] := List.length_eq_zero_iff.1 (by obtain ⟨la1, la2, lb1, lb2, lM1, LP, hN, hfull, lA, lB⟩ := HLN.out; obtain ⟨e1, e2, e3, e4, e5, hen⟩ := HAR.out; (try simp only [List.length_append]); omega)
                have h9 := hb2
                rw [z0] at h9 ⊢
                simpa [mrg_nil_left, mrg_nil_right] using h9
              go_wp2
              go_end0
              refine ⟨rfl, hgr, ?_, hdC⟩
              have h9 := hb3
              rw [HF.out.1]
              simp only [List.append_assoc] at h9 ⊢
              exact h9
        · have w0a : decide ((i : Int) < (m : Int)) = true := decide_eq_true (by omega)
          have w0a' : decide (i < m) = true := decide_eq_true (by omega)
          have w0b : decide ((m : Int) < (en : Int)) = false := decide_eq_false (by omega)
          have w0b' : decide (m < en) = false := decide_eq_false (by omega)
          rcases (show (a < i ∧ i < mid) ∨ (¬ a < i) ∨ (a < i ∧ ¬ i < mid) by omega) with ⟨x1, y1⟩ | x1 | ⟨x1, y1⟩
          · have w1a : decide ((a : Int) < (i : Int)) = true := decide_eq_true (by omega)
            have w1a' : decide (a < i) = true := decide_eq_true (by omega)
            have w1b : decide ((i : Int) < (mid : Int)) = true := decide_eq_true (by omega)
            have w1b' : decide (i < mid) = true := decide_eq_true (by omega)
            rcases (show (mid < en ∧ en < b) ∨ (¬ mid < en) ∨ (mid < en ∧ ¬ en < b) by omega) with ⟨x2, y2⟩ | x2 | ⟨x2, y2⟩
            · have w2a : decide ((mid : Int) < (en : Int)) = true := decide_eq_true (by omega)
              have w2a' : decide (mid < en) = true := decide_eq_true (by omega)
              have w2b : decide ((en : Int) < (b : Int)) = true := decide_eq_true (by omega)
              have w2b' : decide (en < b) = true := decide_eq_true (by omega)
              have hb1 : blk wr g = some (rowC bn (P ++ A1 ++ B1 ++ A2 ++ (B2 ++ S)) ++ sp).toArray := by
                have z0 : B1 = [] := List.length_eq_zero_iff.1 (by obtain ⟨la1, la2, lb1, lb2, lM1, LP, hN, hfull, lA, lB⟩ := HLN.out; obtain ⟨e1, e2, e3, e4, e5, hen⟩ := HAR.out; (try simp only [List.length_append]); omega)
                have h9 := hbC
                rw [z0] at h9 ⊢
                simpa [mrg_nil_left, mrg_nil_right] using h9
              have g := HIH.out P A1 B1 (A2 ++ (B2 ++ S)) a i mid _ (by obtain ⟨la1, la2, lb1, lb2, lM1, LP, hN, hfull, lA, lB⟩ := HLN.out; obtain ⟨e1, e2, e3, e4, e5, hen⟩ := HAR.out; (try simp only [List.length_append]); omega) (by obtain ⟨la1, la2, lb1, lb2, lM1, LP, hN, hfull, lA, lB⟩ := HLN.out; obtain ⟨e1, e2, e3, e4, e5, hen⟩ := HAR.out; (try simp only [List.length_append]); omega) (by obtain ⟨la1, la2, lb1, lb2, lM1, LP, hN, hfull, lA, lB⟩ := HLN.out; obtain ⟨e1, e2, e3, e4, e5, hen⟩ := HAR.out; (try simp only [List.length_append]); omega) (by obtain ⟨la1, la2, lb1, lb2, lM1, LP, hN, hfull, lA, lB⟩ := HLN.out; obtain ⟨e1, e2, e3, e4, e5, hen⟩ := HAR.out; (try simp only [List.length_append]); omega) dA1 dB1 sA1 sB1 (by obtain ⟨la1, la2, lb1, lb2, lM1, LP, hN, hfull, lA, lB⟩ := HLN.out; obtain ⟨e1, e2, e3, e4, e5, hen⟩ := HAR.out; (try simp only [List.length_append]); omega) (by obtain ⟨la1, la2, lb1, lb2, lM1, LP, hN, hfull, lA, lB⟩ := HLN.out; obtain ⟨e1, e2, e3, e4, e5, hen⟩ := HAR.out; (try simp only [List.length_append]); omega) (by obtain ⟨la1, la2, lb1, lb2, lM1, LP, hN, hfull, lA, lB⟩ := HLN.out; obtain ⟨e1, e2, e3, e4, e5, hen⟩ := HAR.out; (try simp only [List.length_append]); omega) hdC (by have h9 := hb1; simp only [List.append_assoc] at h9 ⊢; exact h9)
              replace g := Lib.hid g
              go_wp2_with fail
              (with_reducible refine (g.out).mono ?_)
              rintro e w2 ⟨rfl, hg2, hb2, hd2⟩
              clear g
              have gr2 := igrown_trans hgr hg2
              have g := HIH.out (P ++ mrg lt A1 B1) A2 B2 S mid en b _ (by obtain ⟨la1, la2, lb1, lb2, lM1, LP, hN, hfull, lA, lB⟩ := HLN.out; obtain ⟨e1, e2, e3, e4, e5, hen⟩ := HAR.out; (try simp only [List.length_append]); omega) (by obtain ⟨la1, la2, lb1, lb2, lM1, LP, hN, hfull, lA, lB⟩ := HLN.out; obtain ⟨e1, e2, e3, e4, e5, hen⟩ := HAR.out; (try simp only [List.length_append]); omega) (by obtain ⟨la1, la2, lb1, lb2, lM1, LP, hN, hfull, lA, lB⟩ := HLN.out; obtain ⟨e1, e2, e3, e4, e5, hen⟩ := HAR.out; (try simp only [List.length_append]); omega) (by obtain ⟨la1, la2, lb1, lb2, lM1, LP, hN, hfull, lA, lB⟩ := HLN.out; obtain ⟨e1, e2, e3, e4, e5, hen⟩ := HAR.out; (try simp only [List.length_append]); omega) dA2 dB2 sA2 sB2 (by obtain ⟨la1, la2, lb1, lb2, lM1, LP, hN, hfull, lA, lB⟩ := HLN.out; obtain ⟨e1, e2, e3, e4, e5, hen⟩ := HAR.out; (try simp only [List.length_append]); omega) (by obtain ⟨la1, la2, lb1, lb2, lM1, LP, hN, hfull, lA, lB⟩ := HLN.out; obtain ⟨e1, e2, e3, e4, e5, hen⟩ := HAR.out; (try simp only [List.length_append]); omega) (by obtain ⟨la1, la2, lb1, lb2, lM1, LP, hN, hfull, lA, lB⟩ := HLN.out; obtain ⟨e1, e2, e3, e4, e5, hen⟩ := HAR.out; (try simp only [List.length_append]); omega) hd2 (by have h9 := hb2; simp only [List.append_assoc] at h9 ⊢; exact h9)
              replace g := Lib.hid g
              go_wp2_with fail
              (with_reducible refine (g.out).mono ?_)
              rintro e w3 ⟨rfl, hg3, hb3, hd3⟩
              clear g
              have gr3 := igrown_trans gr2 hg3
              go_wp2
              go_end0
              refine ⟨rfl, gr3, ?_, hd3⟩
              have h9 := hb3
              rw [HF.out.1]
              simp only [List.append_assoc] at h9 ⊢
              exact h9
            · have w2a : decide ((mid : Int) < (en : Int)) = false := decide_eq_false (by omega)
              have w2a' : decide (mid < en) = false := decide_eq_false (by omega)
              have hb1 : blk wr g = some (rowC bn (P ++ A1 ++ B1 ++ A2 ++ (B2 ++ S)) ++ sp).toArray := by
                have z0 : B1 = [] := List.length_eq_zero_iff.1 (by obtain ⟨la1, la2, lb1, lb2, lM1, LP, hN, hfull, lA, lB⟩ := HLN.out; obtain ⟨e1, e2, e3, e4, e5, hen⟩ := HAR.out; (try simp only [List.length_append]); omega)
                have h9 := hbC
                rw [z0] at h9 ⊢
                simpa [mrg_nil_left, mrg_nil_right] using h9
              have g := HIH.out P A1 B1 (A2 ++ (B2 ++ S)) a i mid _ (by obtain ⟨la1, la2, lb1, lb2, lM1, LP, hN, hfull, lA, lB⟩ := HLN.out; obtain ⟨e1, e2, e3, e4, e5, hen⟩ := HAR.out; (try simp only [List.length_append]); omega) (by obtain ⟨la1, la2, lb1, lb2, lM1, LP, hN, hfull, lA, lB⟩ := HLN.out; obtain ⟨e1, e2, e3, e4, e5, hen⟩ := HAR.out; (try simp only [List.length_append]); omega) (by obtain ⟨la1, la2, lb1, lb2, lM1, LP, hN, hfull, lA, lB⟩ := HLN.out; obtain ⟨e1, e2, e3, e4, e5, hen⟩ := HAR.out; (try simp only [List.length_append]); omega) (by obtain ⟨la1, la2, lb1, lb2, lM1, LP, hN, hfull, lA, lB⟩ := HLN.out; obtain ⟨e1, e2, e3, e4, e5, hen⟩ := HAR.out; (try simp only [List.length_append]); omega) dA1 dB1 sA1 sB1 (by obtain ⟨la1, la2, lb1, lb2, lM1, LP, hN, hfull, lA, lB⟩ := HLN.out; obtain ⟨e1, e2, e3, e4, e5, hen⟩ := HAR.out; (try simp only [List.length_append]); omega) (by obtain ⟨la1, la2, lb1, lb2, lM1, LP, hN, hfull, lA, lB⟩ := HLN.out; obtain ⟨e1, e2, e3, e4, e5, hen⟩ := HAR.out; (try simp only [List.length_append]); omega) (by obtain ⟨la1, la2, lb1, lb2, lM1, LP, hN, hfull, lA, lB⟩ := HLN.out; obtain ⟨e1, e2, e3, e4, e5, hen⟩ := HAR.out; (try simp only [List.length_append]); omega) hdC (by have h9 := hb1; simp only [List.append_assoc] at h9 ⊢; exact h9)
              replace g := Lib.hid g
              go_wp2_with fail
              (with_reducible refine (g.out).mono ?_)
              rintro e w2 ⟨rfl, hg2, hb2, hd2⟩
              clear g
              have gr2 := igrown_trans hgr hg2
              have hb3 : blk w2 g = some (rowC bn (P ++ mrg lt A1 B1 ++ mrg lt A2 B2 ++ S) ++ sp).toArray := by
                have z0 : A2 = [] := List.length_eq_zero_iff.1 (by obtain ⟨la1, la2, lb1, lb2, lM1, LP, hN, hfull, lA, lB⟩ := HLN.out; obtain ⟨e1, e2, e3, e4, e5, hen⟩ := HAR.out; (try simp only [List.length_append]); omega)
                have h9 := hb2
                rw [z0] at h9 ⊢
                simpa [mrg_nil_left, mrg_nil_right] using h9
              go_wp2
              go_end0
              refine ⟨rfl, gr2, ?_, hd2⟩
              have h9 := hb3
              rw [HF.out.1]
              simp only [List.append_assoc] at h9 ⊢
              exact h9
            · have w2a : decide ((mid : Int) < (en : Int)) = true := decide_eq_true (by omega)
              have w2a' : decide (mid < en) = true := decide_eq_true (by omega)
              have w2b : decide ((en : Int) < (b : Int)) = false := decide_eq_false (by omega)
              have w2b' : decide (en < b) = false := decide_eq_false (by omega)
              have hb1 : blk wr g = some (rowC bn (P ++ A1 ++ B1 ++ A2 ++ (B2 ++ S)) ++ sp).toArray := by
                have z0 : B1 = [] := List.length_eq_zero_iff.1 (by obtain ⟨la1, la2, lb1, lb2, lM1, LP, hN, hfull, lA, lB⟩ := HLN.out; obtain ⟨e1, e2, e3, e4, e5, hen⟩ := HAR.out; (try simp only [List.length_append]); omega)
                have h9 := hbC
                rw [z0] at h9 ⊢
                simpa [mrg_nil_left, mrg_nil_right] using h9
              have g := HIH.out P A1 B1 (A2 ++ (B2 ++ S)) a i mid _ (by obtain ⟨la1, la2, lb1, lb2, lM1, LP, hN, hfull, lA, lB⟩ := HLN.out; obtain ⟨e1, e2, e3, e4, e5, hen⟩ := HAR.out; (try simp only [List.length_append]); omega) (by obtain ⟨la1, la2, lb1, lb2, lM1, LP, hN, hfull, lA, lB⟩ := HLN.out; obtain ⟨e1, e2, e3, e4, e5, hen⟩ := HAR.out; (try simp only [List.length_append]); omega) (by obtain ⟨la1, la2, lb1, lb2, lM1, LP, hN, hfull, lA, lB⟩ := HLN.out; obtain ⟨e1, e2, e3, e4, e5, hen⟩ := HAR.out; (try simp only [List.length_append]); omega) (by obtain ⟨la1, la2, lb1, lb2, lM1, LP, hN, hfull, lA, lB⟩ := HLN.out; obtain ⟨e1, e2, e3, e4, e5, hen⟩ := HAR.out; (try simp only [List.length_append]); omega) dA1 dB1 sA1 sB1 (by obtain ⟨la1, la2, lb1, lb2, lM1, LP, hN, hfull, lA, lB⟩ := HLN.out; obtain ⟨e1, e2, e3, e4, e5, hen⟩ := HAR.out; (try simp only [List.length_append]); omega) (by obtain ⟨la1, la2, lb1, lb2, lM1, LP, hN, hfull, lA, lB⟩ := HLN.out; obtain ⟨e1, e2, e3, e4, e5, hen⟩ := HAR.out; (try simp only [List.length_append]); omega) (by obtain ⟨la1, la2, lb1, lb2, lM1, LP, hN, hfull, lA, lB⟩ := HLN.out; obtain ⟨e1, e2, e3, e4, e5, hen⟩ := HAR.out; (try simp only [List.length_append]); omega) hdC (by have h9 := hb1; simp only [List.append_assoc] at h9 ⊢; exact h9)
              replace g := Lib.hid g
              go_wp2_with fail
              (with_reducible refine (g.out).mono ?_)
              rintro e w2 ⟨rfl, hg2, hb2, hd2⟩
              clear g
              have gr2 := igrown_trans hgr hg2
              have hb3 : blk w2 g = some (rowC bn (P ++ mrg lt A1 B1 ++ mrg lt A2 B2 ++ S) ++ sp).toArray := by
                have z0 : B2 = [] := List.length_eq_zero_iff.1 (by obtain ⟨la1, la2, lb1, lb2, lM1, LP, hN, hfull, lA, lB⟩ := HLN.out; obtain ⟨e1, e2, e3, e4, e5, hen⟩ := HAR.out; (try simp only [List.length_append]); omega)
                have h9 := hb2
                rw [z0] at h9 ⊢
                simpa [mrg_nil_left, mrg_nil_right] using h9
              go_wp2
              go_end0
              refine ⟨rfl, gr2, ?_, hd2⟩
              have h9 := hb3
              rw [HF.out.1]
              simp only [List.append_assoc] at h9 ⊢
              exact h9
          · have w1a : decide ((a : Int) < (i : Int)) = false := decide_eq_false (by omega)
            have w1a' : decide (a < i) = false := decide_eq_false (by omega)
            rcases (show (mid < en ∧ en < b) ∨ (¬ mid < en) ∨ (mid < en ∧ ¬ en < b) by omega) with ⟨x2, y2⟩ | x2 | ⟨x2, y2⟩
            · have w2a : decide ((mid : Int) < (en : Int)) = true := decide_eq_true (by omega)
              have w2a' : decide (mid < en) = true := decide_eq_true (by omega)
              have w2b : decide ((en : Int) < (b : Int)) = true := decide_eq_true (by omega)
              have w2b' : decide (en < b) = true := decide_eq_true (by omega)
              have hb1 : blk wr g = some (rowC bn (P ++ A1 ++ B1 ++ A2 ++ (B2 ++ S)) ++ sp).toArray := by
                have z0 : B1 = [] := List.length_eq_zero_iff.1 (by obtain ⟨la1, la2, lb1, lb2, lM1, LP, hN, hfull, lA, lB⟩ := HLN.out; obtain ⟨e1, e2, e3, e4, e5, hen⟩ := HAR.out; (try simp only [List.length_append]); omega)
                have h9 := hbC
                rw [z0] at h9 ⊢
                simpa [mrg_nil_left, mrg_nil_right] using h9
              have hb2 : blk wr g = some (rowC bn (P ++ mrg lt A1 B1 ++ (A2 ++ (B2 ++ S))) ++ sp).toArray := by
                have z0 : A1 = [] := List.length_eq_zero_iff.1 (by obtain ⟨la1, la2, lb1, lb2, lM1, LP, hN, hfull, lA, lB⟩ := HLN.out; obtain ⟨e1, e2, e3, e4, e5, hen⟩ := HAR.out; (try simp only [List.length_append]); omega)
                have h9 := hb1
                rw [z0] at h9 ⊢
                simpa [mrg_nil_left, mrg_nil_right] using h9
              have g := HIH.out (P ++ mrg lt A1 B1) A2 B2 S mid en b _ (by obtain ⟨la1, la2, lb1, lb2, lM1, LP, hN, hfull, lA, lB⟩ := HLN.out; obtain ⟨e1, e2, e3, e4, e5, hen⟩ := HAR.out; (try simp only [List.length_append]); omega) (by obtain ⟨la1, la2, lb1, lb2, lM1, LP, hN, hfull, lA, lB⟩ := HLN.out; obtain ⟨e1, e2, e3, e4, e5, hen⟩ := HAR.out; (try simp only [List.length_append]); omega) (by obtain ⟨la1, la2, lb1, lb2, lM1, LP, hN, hfull, lA, lB⟩ := HLN.out; obtain ⟨e1, e2, e3, e4, e5, hen⟩ := HAR.out; (try simp only [List.length_append]); omega) (by obtain ⟨la1, la2, lb1, lb2, lM1, LP, hN, hfull, lA, lB⟩ := HLN.out; obtain ⟨e1, e2, e3, e4, e5, hen⟩ := HAR.out; (try simp only [List.length_append]); omega) dA2 dB2 sA2 sB2 (by obtain ⟨la1, la2, lb1, lb2, lM1, LP, hN, hfull, lA, lB⟩ := HLN.out; obtain ⟨e1, e2, e3, e4, e5, hen⟩ := HAR.out; (try simp only [List.length_append]); omega) (by obtain ⟨la1, la2, lb1, lb2, lM1, LP, hN, hfull, lA, lB⟩ := HLN.out; obtain ⟨e1, e2, e3, e4, e5, hen⟩ := HAR.out; (try simp only [List.length_append]); omega) (by obtain ⟨la1, la2, lb1, lb2, lM1, LP, hN, hfull, lA, lB⟩ := HLN.out; obtain ⟨e1, e2, e3, e4, e5, hen⟩ := HAR.out; (try simp only [List.length_append]); omega) hdC (by have h9 := hb2; simp only [List.append_assoc] at h9 ⊢; exact h9)
              replace g := Lib.hid g
              go_wp2_with fail
              (with_reducible refine (g.out).mono ?_)
              rintro e w3 ⟨rfl, hg3, hb3, hd3⟩
              clear g
              have gr3 := igrown_trans hgr hg3
              go_wp2
              go_end0
              refine ⟨rfl, gr3, ?_, hd3⟩
              have h9 := hb3
              rw [HF.out.1]
              simp only [List.append_assoc] at h9 ⊢
              exact h9
            · have w2a : decide ((mid : Int) < (en : Int)) = false := decide_eq_false (by omega)
              have w2a' : decide (mid < en) = false := decide_eq_false (by omega)
              have hb1 : blk wr g = some (rowC bn (P ++ A1 ++ B1 ++ A2 ++ (B2 ++ S)) ++ sp).toArray := by
                have z0 : B1 = [] := List.length_eq_zero_iff.1 (by obtain ⟨la1, la2, lb1, lb2, lM1, LP, hN, hfull, lA, lB⟩ := HLN.out; obtain ⟨e1, e2, e3, e4, e5, hen⟩ := HAR.out; (try simp only [List.length_append]); omega)
                have h9 := hbC
                rw [z0] at h9 ⊢
                simpa [mrg_nil_left, mrg_nil_right] using h9
              have hb2 : blk wr g = some (rowC bn (P ++ mrg lt A1 B1 ++ (A2 ++ (B2 ++ S))) ++ sp).toArray := by
                have z0 : A1 = [] := List.length_eq_zero_iff.1 (by obtain ⟨la1, la2, lb1, lb2, lM1, LP, hN, hfull, lA, lB⟩ := HLN.out; obtain ⟨e1, e2, e3, e4, e5, hen⟩ := HAR.out; (try simp only [List.length_append]); omega)
                have h9 := hb1
                rw [z0] at h9 ⊢
                simpa [mrg_nil_left, mrg_nil_right] using h9
              have hb3 : blk wr g = some (rowC bn (P ++ mrg lt A1 B1 ++ mrg lt A2 B2 ++ S) ++ sp).toArray := by
                have z0 : A2 = [] := List.length_eq_zero_iff.1 (by obtain ⟨la1, la2, lb1, lb2, lM1, LP, hN, hfull, lA, lB⟩ := HLN.out; obtain ⟨e1, e2, e3, e4, e5, hen⟩ := HAR.out; (try simp only [List.length_append]); omega)
                have h9 := hb2
                rw [z0] at h9 ⊢
                simpa [mrg_nil_left, mrg_nil_right] using h9
              go_wp2
              go_end0
              refine ⟨rfl, hgr, ?_, hdC⟩
              have h9 := hb3
              rw [HF.out.1]
              simp only [List.append_assoc] at h9 ⊢
              exact h9
            · have w2a : decide ((mid : Int) < (en : Int)) = true := decide_eq_true (by omega)
              have w2a' : decide (mid < en) = true := decide_eq_true (by omega)
              have w2b : decide ((en : Int) < (b : Int)) = false := decide_eq_false (by omega)
              have w2b' : decide (en < b) = false := decide_eq_false (by omega)
              have hb1 : blk wr g = some (rowC bn (P ++ A1 ++ B1 ++ A2 ++ (B2 ++ S)) ++ sp).toArray := by
                have z0 : B1 = [] := List.length_eq_zero_iff.1 (by obtain ⟨la1, la2, lb1, lb2, lM1, LP, hN, hfull, lA, lB⟩ := HLN.out; obtain ⟨e1, e2, e3, e4, e5, hen⟩ := HAR.out; (try simp only [List.length_append]); omega)
                have h9 := hbC
                rw [z0] at h9 ⊢
                simpa [mrg_nil_left, mrg_nil_right] using h9
              have hb2 : blk wr g = some (rowC bn (P ++ mrg lt A1 B1 ++ (A2 ++ (B2 ++ S))) ++ sp).toArray := by
                have z0 : A1 = [] := List.length_eq_zero_iff.1 (by obtain ⟨la1, la2, lb1, lb2, lM1, LP, hN, hfull, lA, lB⟩ := HLN.out; obtain ⟨e1, e2, e3, e4, e5, hen⟩ := HAR.out; (try simp only [List.length_append]); omega)
                have h9 := hb1
                rw [z0] at h9 ⊢
                simpa [mrg_nil_left, mrg_nil_right] using h9
              have hb3 : blk wr g = some (rowC bn (P ++ mrg lt A1 B1 ++ mrg lt A2 B2 ++ S) ++ sp).toArray := by
                have z0 : B2 = [] := List.length_eq_zero_iff.1 (by obtain ⟨la1, la2, lb1, lb2, lM1, LP, hN, hfull, lA, lB⟩ := HLN.out; obtain ⟨e1, e2, e3, e4, e5, hen⟩ := HAR.out; (try simp only [List.length_append]); omega)
                have h9 := hb2
                rw [z0] at h9 ⊢
                simpa [mrg_nil_left, mrg_nil_right] using h9
              go_wp2
              go_end0
              refine ⟨rfl, hgr, ?_, hdC⟩
              have h9 := hb3
              rw [HF.out.1]
              simp only [List.append_assoc] at h9 ⊢
              exact h9
          · have w1a : decide ((a : Int) < (i : Int)) = true := decide_eq_true (by omega)
            have w1a' : decide (a < i) = true := decide_eq_true (by omega)
            have w1b : decide ((i : Int) < (mid : Int)) = false := decide_eq_false (by omega)
            have w1b' : decide (i < mid) = false := decide_eq_false (by omega)
            rcases (show (mid < en ∧ en < b) ∨ (¬ mid < en) ∨ (mid < en ∧ ¬ en < b) by omega) with ⟨x2, y2⟩ | x2 | ⟨x2, y2⟩
            · have w2a : decide ((mid : Int) < (en : Int)) = true := decide_eq_true (by omega)
              have w2a' : decide (mid < en) = true := decide_eq_true (by omega)
              have w2b : decide ((en : Int) < (b : Int)) = true := decide_eq_true (by omega)
              have w2b' : decide (en < b) = true := decide_eq_true (by omega)
              have hb1 : blk wr g = some (rowC bn (P ++ A1 ++ B1 ++ A2 ++ (B2 ++ S)) ++ sp).toArray := by
                have z0 : B1 = [] := List.length_eq_zero_iff.1 (by obtain ⟨la1, la2, lb1, lb2, lM1, LP, hN, hfull, lA, lB⟩ := HLN.out; obtain ⟨e1, e2, e3, e4, e5, hen⟩ := HAR.out; (try simp only [List.length_append]); omega)
                have h9 := hbC
                rw [z0] at h9 ⊢
                simpa [mrg_nil_left, mrg_nil_right] using h9
              have hb2 : blk wr g = some (rowC bn (P ++ mrg lt A1 B1 ++ (A2 ++ (B2 ++ S))) ++ sp).toArray := by
                have z0 : B1 = [] := List.length_eq_zero_iff.1 (by obtain ⟨la1, la2, lb1, lb2, lM1, LP, hN, hfull, lA, lB⟩ := HLN.out; obtain ⟨e1, e2, e3, e4, e5, hen⟩ := HAR.out; (try simp only [List.length_append]); omega)
                have h9 := hb1
                rw [z0] at h9 ⊢
                simpa [mrg_nil_left, mrg_nil_right] using h9
              have g := HIH.out (P ++ mrg lt A1 B1) A2 B2 S mid en b _ (by obtain ⟨la1, la2, lb1, lb2, lM1, LP, hN, hfull, lA, lB⟩ := HLN.out; obtain ⟨e1, e2, e3, e4, e5, hen⟩ := HAR.out; (try simp only [List.length_append]); omega) (by obtain ⟨la1, la2, lb1, lb2, lM1, LP, hN, hfull, lA, lB⟩ := HLN.out; obtain ⟨e1, e2, e3, e4, e5, hen⟩ := HAR.out; (try simp only [List.length_append]); omega) (by obtain ⟨la1, la2, lb1, lb2, lM1, LP, hN, hfull, lA, lB⟩ := HLN.out; obtain ⟨e1, e2, e3, e4, e5, hen⟩ := HAR.out; (try simp only [List.length_append]); omega) (by obtain ⟨la1, la2, lb1, lb2, lM1, LP, hN, hfull, lA, lB⟩ := HLN.out; obtain ⟨e1, e2, e3, e4, e5, hen⟩ := HAR.out; (try simp only [List.length_append]); omega) dA2 dB2 sA2 sB2 (by obtain ⟨la1, la2, lb1, lb2, lM1, LP, hN, hfull, lA, lB⟩ := HLN.out; obtain ⟨e1, e2, e3, e4, e5, hen⟩ := HAR.out; (try simp only [List.length_append]); omega) (by obtain ⟨la1, la2, lb1, lb2, lM1, LP, hN, hfull, lA, lB⟩ := HLN.out; obtain ⟨e1, e2, e3, e4, e5, hen⟩ := HAR.out; (try simp only [List.length_append]); omega) (by obtain ⟨la1, la2, lb1, lb2, lM1, LP, hN, hfull, lA, lB⟩ := HLN.out; obtain ⟨e1, e2, e3, e4, e5, hen⟩ := HAR.out; (try simp only [List.length_append]); omega) hdC (by have h9 := hb2; simp only [List.append_assoc] at h9 ⊢; exact h9)
              replace g := Lib.hid g
              go_wp2_with fail
              (with_reducible refine (g.out).mono ?_)
              rintro e w3 ⟨rfl, hg3, hb3, hd3⟩
              clear g
              have gr3 := igrown_trans hgr hg3
              go_wp2
              go_end0
              refine ⟨rfl, gr3, ?_, hd3⟩
              have h9 := hb3
              rw [HF.out.1]
              simp only [List.append_assoc] at h9 ⊢
              exact h9
            · have w2a : decide ((mid : Int) < (en : Int)) = false := decide_eq_false (by omega)
              have w2a' : decide (mid < en) = false := decide_eq_false (by omega)
              have hb1 : blk wr g = some (rowC bn (P ++ A1 ++ B1 ++ A2 ++ (B2 ++ S)) ++ sp).toArray := by
                have z0 : B1 = [] := List.length_eq_zero_iff.1 (by obtain ⟨la1, la2, lb1, lb2, lM1, LP, hN, hfull, lA, lB⟩ := HLN.out; obtain ⟨e1, e2, e3, e4, e5, hen⟩ := HAR.out; (try simp only [List.length_append]); omega)
                have h9 := hbC
                rw [z0] at h9 ⊢
                simpa [mrg_nil_left, mrg_nil_right] using h9
              have hb2 : blk wr g = some (rowC bn (P ++ mrg lt A1 B1 ++ (A2 ++ (B2 ++ S))) ++ sp).toArray := by
                have z0 : B1 = [] := List.length_eq_zero_iff.1 (by obtain ⟨la1, la2, lb1, lb2, lM1, LP, hN, hfull, lA, lB⟩ := HLN.out; obtain ⟨e1, e2, e3, e4, e5, hen⟩ := HAR.out; (try simp only [List.length_append]); omega)
                have h9 := hb1
                rw [z0] at h9 ⊢
                simpa [mrg_nil_left, mrg_nil_right] using h9
              have hb3 : blk wr g = some (rowC bn (P ++ mrg lt A1 B1 ++ mrg lt A2 B2 ++ S) ++ sp).toArray := by
                have z0 : A2 = [] := List.length_eq_zero_iff.1 (by obtain ⟨la1, la2, lb1, lb2, lM1, LP, hN, hfull, lA, lB⟩ := HLN.out; obtain ⟨e1, e2, e3, e4, e5, hen⟩ := HAR.out; (try simp only [List.length_append]); omega)
                have h9 := hb2
                rw [z0] at h9 ⊢
                simpa [mrg_nil_left, mrg_nil_right] using h9
              go_wp2
              go_end0
              refine ⟨rfl, hgr, ?_, hdC⟩
              have h9 := hb3
              rw [HF.out.1]
              simp only [List.append_assoc] at h9 ⊢
              exact h9
            · have w2a : decide ((mid : Int) < (en : Int)) = true := decide_eq_true (by omega)
              have w2a' : decide (mid < en) = true := decide_eq_true (by omega)
              have w2b : decide ((en : Int) < (b : Int)) = false := decide_eq_false (by omega)
              have w2b' : decide (en < b) = false := decide_eq_false (by omega)
              have hb1 : blk wr g = some (rowC bn (P ++ A1 ++ B1 ++ A2 ++ (B2 ++ S)) ++ sp).toArray := by
                have z0 : B1 = [] := List.length_eq_zero_iff.1 (by obtain ⟨la1, la2, lb1, lb2, lM1, LP, hN, hfull, lA, lB⟩ := HLN.out; obtain ⟨e1, e2, e3, e4, e5, hen⟩ := HAR.out; (try simp only [List.length_append]); omega)
                have h9 := hbC
                rw [z0] at h9 ⊢
                simpa [mrg_nil_left, mrg_nil_right] using h9
              have hb2 : blk wr g = some (rowC bn (P ++ mrg lt A1 B1 ++ (A2 ++ (B2 ++ S))) ++ sp).toArray := by
                have z0 : B1 = [] := List.length_eq_zero_iff.1 (by obtain ⟨la1, la2, lb1, lb2, lM1, LP, hN, hfull, lA, lB⟩ := HLN.out; obtain ⟨e1, e2, e3, e4, e5, hen⟩ := HAR.out; (try simp only [List.length_append]); omega)
                have h9 := hb1
                rw [z0] at h9 ⊢
                simpa [mrg_nil_left, mrg_nil_right] using h9
              have hb3 : blk wr g = some (rowC bn (P ++ mrg lt A1 B1 ++ mrg lt A2 B2 ++ S) ++ sp).toArray := by
                have z0 : B2 = [] := List.length_eq_zero_iff.1 (by obtain ⟨la1, la2, lb1, lb2, lM1, LP, hN, hfull, lA, lB⟩ := HLN.out; obtain ⟨e1, e2, e3, e4, e5, hen⟩ := HAR.out; (try simp only [List.length_append]); omega)
                have h9 := hb2
                rw [z0] at h9 ⊢
                simpa [mrg_nil_left, mrg_nil_right] using h9
              go_wp2
              go_end0
              refine ⟨rfl, hgr, ?_, hdC⟩
              have h9 := hb3
              rw [HF.out.1]
              simp only [List.append_assoc] at h9 ⊢
              exact h9
end Go.Proofs.YtahopnlibmiafaaDoor
