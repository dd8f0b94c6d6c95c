/- Parts of a proof, printed by a program of mine out of my texts: StLst, StRExp. -/
import Derived.Test.YtahopnlibmiafaaDoorMCh
import Derived.Test.YtahopnlibmiafaaDoorMU
import Derived.Test.YtahopnlibmiafaaDoorMX
set_option linter.unusedSimpArgs false
set_option linter.unusedVariables false
namespace Go.Proofs.YtahopnlibmiafaaDoor
open Go.RowKit
theorem insR_at {α : Type} {lt : α → α → Bool} (asym : ∀ a b, lt a b = true → lt b a = false) (nn : ∀ a b c, lt a b = false → lt b c = false → lt a c = false) {x : α} {s : List α}
    (tot : ∀ z ∈ s, lt z x = false → lt x z = true) (hs : Srt lt s) {k : Nat} (hk : k ≤ s.length) (h1 : ∀ j (h : j < s.length), j < k → lt s[j] x = true) (h2 : ∀ h : k < s.length, lt s[k] x = false) :
    insR lt x s = s.take k ++ x :: s.drop k := by
  have h := insR_mid lt x (s.take k) (s.drop k) ?_ ?_
  · rwa [List.take_append_drop] at h
  · intro z hz
    obtain ⟨i, hi, rfl⟩ := List.getElem_of_mem hz
    rw [List.length_drop] at hi
    rw [List.getElem_drop]
    have hkl : k < s.length := by omega
    have t := tot s[k] (List.getElem_mem hkl) (h2 hkl)
    by_cases hi0 : i = 0
    · subst hi0; exact t
    · have hp := List.pairwise_iff_getElem.1 hs k (k + i) hkl (by omega) (by omega)
      cases hc : lt x s[k + i] with
      | true => rfl
      | false => rw [nn _ _ _ hc hp] at t; cases t
  · intro z hz
    obtain ⟨i, hi, rfl⟩ := List.getElem_of_mem (List.mem_of_getLast? hz)
    rw [List.length_take] at hi
    rw [List.getElem_take]
    exact asym _ _ (h1 i (by omega) (by omega))
theorem stv_ne {l : List Itm} (h : StV l) {i j : Nat} (hj : j < l.length) (hij : i < j) : bid (l[i]'(by omega)).b ≠ bid l[j].b := by
  have h0 := h.2 j hj
  rw [fltS_at hj] at h0
  intro e
  refine itF_id h0 ?_
  rw [← e]
  exact List.mem_map.2 ⟨l[i]'(by omega), List.mem_take_iff_getElem.2 ⟨i, by omega, rfl⟩, rfl⟩
theorem ltF_tot {M : List Itm} (hv : StV M) {i k : Nat} (hi : i < M.length) (hk : k < M.length) (hne : i ≠ k) (h : ltF M i k = false) : ltF M k i = true := by
  cases hl : ltF M k i with
  | true => rfl
  | false =>
    exfalso
    unfold ltF at h hl
    rw [bnAt_nat M i hi, bnAt_nat M k hk] at h hl
    have h3 := (less_lawsO M[i].b.no M[i].b.sq M[i].b.of M[i].b.pr M[i].b.bo M[i].b.li M[k].b.no M[k].b.sq M[k].b.of M[k].b.pr M[k].b.bo M[k].b.li 0 0 0 0 0 0).2.2 h hl
    have e : bid M[i].b = bid M[k].b := by unfold bid; rw [h3.1, h3.2.1, h3.2.2]
    rcases Nat.lt_trichotomy i k with h | h | h
    · exact stv_ne hv hk h e
    · exact hne h
    · exact stv_ne hv hi h e.symm
theorem chL_lt {wanted : Itm → Bool} {l : List Itm} {j : Nat} {x : Int} (hx : x ∈ chL wanted (fun i _ => (i : Int)) l j) : ∃ i : Nat, x = i ∧ i < j ∧ i < l.length := by
  unfold chL at hx
  obtain ⟨i, hr, h⟩ := List.mem_filterMap.1 hx
  by_cases hi : i < l.length
  · rw [List.getElem?_eq_getElem hi] at h
    simp only [Option.bind_some] at h
    split at h
    · exact ⟨i, (Option.some.inj h).symm, List.mem_range.1 hr, hi⟩
    · cases h
  · rw [List.getElem?_eq_none (by omega)] at h
    simp at h
def partF (M : List Itm) (p now : Int) (j : Nat) : List Int := isort (ltF M) (chL (wantF p now) (fun i _ => (i : Int)) M j)
theorem partF_len (M : List Itm) (p now : Int) (j : Nat) : (partF M p now j).length ≤ j := by unfold partF; rw [isort_length]; exact chL_len _ _ _ _
theorem partF_at {M : List Itm} {p now : Int} {j : Nat} {x : Int} (hx : x ∈ partF M p now j) : ∃ i : Nat, x = i ∧ i < j ∧ i < M.length := by
  unfold partF at hx
  exact chL_lt ((isort_perm _ _).mem_iff.1 hx)
theorem partF_no {M : List Itm} {p now : Int} {j : Nat} (h : j < M.length) (hw : wantF p now M[j] = false) : partF M p now (j + 1) = partF M p now j := by unfold partF; rw [chL_no h hw]
theorem partF_yes {M : List Itm} (hv : StV M) {p now : Int} {j : Nat} (hj : j < M.length) (hw : wantF p now M[j] = true) {s : List Int} (hs : s = partF M p now j) {k : Nat} (hk : k ≤ s.length)
    (h1 : ∀ i (h : i < s.length), i < k → ltF M s[i] j = true) (h2 : ∀ h : k < s.length, ltF M s[k] j = false) : partF M p now (j + 1) = s.take k ++ (j : Int) :: s.drop k := by
  have h9 : chL (wantF p now) (fun i _ => (i : Int)) M (j + 1) = chL (wantF p now) (fun i _ => (i : Int)) M j ++ [(j : Int)] := chL_yes hj hw
  have e : partF M p now (j + 1) = insR (ltF M) (j : Int) s := by
    rw [hs]
    show isort (ltF M) (chL (wantF p now) (fun i _ => (i : Int)) M (j + 1)) = _
    rw [h9]
    exact isort_snoc _ _ _
  rw [e]
  refine insR_at (lt := ltF M) (fun a b h => ltB_asymO _ _ h) (fun a b c h1 h2 => ltB_nnO _ _ _ h1 h2) ?_ ?_ hk h1 h2
  · intro z hz hzl
    obtain ⟨i, rfl, hij, hi⟩ := partF_at (hs ▸ hz)
    exact ltF_tot hv hi hj (by omega) hzl
  · rw [hs]; exact isort_srt (ltF M) (fun a b h => ltB_asymO _ _ h) (fun a b c h1 h2 => ltB_nnO _ _ _ h1 h2) _
end Go.Proofs.YtahopnlibmiafaaDoor
namespace Go.Proofs.YtahopnlibmiafaaDoor
open Go.RowKit
theorem rexp_any (x : Itm) (now : Int) (hda : x.b.da.size ≤ maxLen) (w : World) : ∃ z : Int, Calls Tryd.prog 64 #[.agg (bn x.b).toArray, .int .i64 now] w fun e w' => e = .returned (.tuple #[.bool (overI x now), .int .i64 z]) ∧ Below w.heap.size w w' :=
  ⟨_, refExpired_any x.b.no x.b.sq x.b.of x.b.de x.b.pr x.b.bo x.b.li x.b.to now x.b.da hda w⟩
set_option maxRecDepth 100000 in
set_option maxHeartbeats 3200000 in
theorem rexpired_any (a : Option Addr) (cap : Nat) (l : List Itm) (now : Int) (hd : ∀ x ∈ l, x.b.da.size ≤ maxLen) (hl : l.length ≤ 100000) (w : World) (hrow : SRow itm 13 w a cap l) :
    Calls Tryd.prog 23 #[.slice a l.length cap, .int .i64 now] w fun e w' => RetK (expiredS l now) w e w' := by
  have g1 := rCheck_any a cap l hd w hrow
  have hun : undef = Value.tuple #[] := rfl
  obtain ⟨c2, hc2⟩ : ∃ c : Int, ((chkS l).2 : Int) = c := ⟨_, rfl⟩
  rw [hc2] at g1
  clear hc2
  unfold expiredS
  by_cases hf : (chkS l).1 = 0
  · have ha : askS l now = if now < 0 ∨ 1099511627776 < now then 2 else 0 := by unfold askS; rw [if_neg (fun h => h hf)]
    rw [hf] at g1
    replace g1 := Lib.hid g1
    have q0 : ((0 : Int) != 0) = false := rfl
    by_cases h1 : now < 0
    · rw [if_pos (.inl h1)] at ha
      rw [ha, if_pos (by decide)]
      have t1 : decide (now < 0) = true := decide_eq_true h1
      clear ha hf hd hrow h1 hl
      go_enter Tryd.func23, Tryd.ntmps23
      go_wp2_with (go_at_call 29; (with_reducible refine (g1.out).mono ?_); rintro e w2 ⟨rfl, h2⟩)
      go_ret2
      exact RetK.err _ h2
    · have t1 : decide (now < 0) = false := decide_eq_false h1
      by_cases h2 : 1099511627776 < now
      · rw [if_pos (.inr h2)] at ha
        rw [ha, if_pos (by decide)]
        have t2 : decide (1099511627776 < now) = true := decide_eq_true h2
        clear ha hf hd hrow h1 h2 hl
        go_enter Tryd.func23, Tryd.ntmps23
        go_wp2_with (go_at_call 29; (with_reducible refine (g1.out).mono ?_); rintro e w2 ⟨rfl, h2⟩)
        go_ret2
        exact RetK.err _ h2
      · rw [if_neg (by omega)] at ha
        rw [ha, if_neg (by simp)]
        have t2 : decide (1099511627776 < now) = false := decide_eq_false h2
        obtain ⟨L, hL⟩ : ∃ L, L = l.filter (overI · now) := ⟨_, rfl⟩
        have HFL : Hid ((l.filter (overI · now)).map (bid ·.b) = chL (overI · now) (fun _ x => bid x.b) l l.length) := Lib.hid (by rw [chL_filter _ _ _ (Nat.le_refl _), List.take_length])
        rw [HFL.out]
        obtain ⟨i0, hi, hz0, hz1, hz2⟩ := info_parts infoID
        have Hi := Lib.hid hi; have Hz0 := Lib.hid hz0; have Hz1 := Lib.hid hz1; have Hz2 := Lib.hid hz2
        have HR := Lib.hid hrow; have HD := Lib.hid hd
        have hcap := hrow.1
        have hmax := hrow.2.1
        unfold maxLen at hmax
        clear hi hz0 hz1 hz2 hrow hd ha hf h1 h2 hL HFL
        go_enter Tryd.func23, Tryd.ntmps23
        go_wp2_with (go_at_call 29; (with_reducible refine (g1.out).mono ?_); rintro e w2 ⟨rfl, hB2⟩)
        have s2 := hB2.size
        go_loopw [8, 9] (fun o i wr => ∃ j : Nat, i = .int .i64 j ∧ j ≤ l.length ∧ Below w.heap.size w wr ∧ Hid (wr.ownsRow w.heap.size 26 3 o (chL (overI · now) (fun _ x => bid x.b) l j).length (rowC idL (chL (overI · now) (fun _ x => bid x.b) l j)))) (fun _ i _ => l.length - (intOf i).toNat)
        case atStart => exact ⟨0, rfl, Nat.zero_le _, hB2, Lib.hid (by rw [chL_zero]; simpa [rowC] using World.ownsRow_nil w2 _ _ _)⟩
        case round =>
          clear hB2 s2 g1
          obtain ⟨j, rfl, hj, hBw, hown⟩ := hrel
          by_cases hlt : j < l.length
          · have hltz : (j : Int) < (l.length : Int) := by omega
            obtain ⟨b, off, hab, hbl, hcs⟩ := HR.out.2.2.2 (by omega)
            subst hab
            obtain ⟨x, hx⟩ : ∃ x, x = l[j] := ⟨_, rfl⟩
            have hr := hcs j hlt
            rw [← hx] at hr
            have hrw := range_below hbl hr hBw
            have HX := Lib.hid hx; have HG := Lib.hid hr
            have HDX := Lib.hid (HD.out x (by rw [hx]; exact List.getElem_mem _))
            obtain ⟨q, hq⟩ : ∃ q, overI x now = q := ⟨_, rfl⟩
            have hrb := Lib.hid (range_bnF hrw)
            have lc := chL_len (overI · now) (fun _ x => bid x.b) l j
            clear hx hr hcs hrw
            go_upto_region 10 with fail
            refine wp_region_tail0 4 ?_
            intro W0 hE hN
            have hrW : W0.rangeAt b (off + j * 13) (bn x.b) := (by rw [hE.out]; exact hrb.out)
            have hBW : Below w.heap.size w W0 := (by rw [hE.out]; exact hBw)
            have bW : b < W0.heap.size := Nat.lt_of_lt_of_le hbl hBW.size
            have hoW := hown
            rw [← hE.out] at hoW
            clear hE hBw hown hrb
            simp only [List.take_succ_cons, List.take_zero, List.drop_succ_cons, List.drop_zero]
            repeat (go_big_quiet_step (fail))
            refine wpQuiet_nil ?_
            rintro _ ⟨x', rfl⟩
            have hr1 := range_below bW hrW x'.ok
            have hB1 := bt hBW x'.ok
            have ho1 := Lib.hid (owns_belowS hoW.out x'.ok)
            obtain ⟨u, hu⟩ : ∃ u, u = x'.wd := ⟨_, rfl⟩
            rw [← hu] at hr1 hB1 ho1 ⊢
            clear hu x' hN hrW hBW bW hoW
            obtain ⟨z, ge⟩ := rexp_any x now HDX.out u
            rw [hq] at ge
            have GE := Lib.hid ge
            clear ge
            refine wpList_load_mid rfl 28 (.tmp 36) rfl b (off + j * 13) rfl (bn x.b) _ hr1 Tryd.underlying28 rfl (by kernel_rfl) ?_
            conv => arg 5; simp [Act.put]
            clear hr1
            cases q
            · go_wp2_with (go_at_call 64; (with_reducible refine (GE.out).mono ?_); rintro e w2 ⟨rfl, h2⟩)
              have e5 : chL (overI · now) (fun _ x => bid x.b) l (j + 1) = chL (overI · now) (fun _ x => bid x.b) l j := chL_no hlt (by rw [← HX.out]; exact hq)
              have hN : Hid (w2.ownsRow w.heap.size 26 3 _ (chL (overI · now) (fun _ x => bid x.b) l (j + 1)).length (rowC idL (chL (overI · now) (fun _ x => bid x.b) l (j + 1)))) := Lib.hid (by rw [e5]; exact owns_belowS ho1.out h2)
              have hb2 := bt hB1 h2
              go_roundw
              case rel => exact ⟨j + 1, by go_num, by omega, hb2, hN⟩
              case measure => simp [intOf]; omega
            · have e5 : chL (overI · now) (fun _ x => bid x.b) l (j + 1) = chL (overI · now) (fun _ x => bid x.b) l j ++ [(bid x.b)] := by
                have := chL_yes (wanted := (overI · now)) (f := (fun _ x => bid x.b)) hlt (by rw [← HX.out]; exact hq)
                (try rw [← HX.out] at this)
                exact this
              have E5 := Lib.hid e5
              clear e5 hq
              go_upto_region 12 with (go_at_call 64; (with_reducible refine (GE.out).mono ?_); rintro e w2 ⟨rfl, h2⟩)
              have hb2 := bt hB1 h2
              have ho2 := Lib.hid (owns_belowS ho1.out h2)
              have hr2 := Lib.hid (range_id (range_below hbl HG.out hb2))
              have s2 := hb2.size
              clear h2 hB1 ho1
              refine wp_region_tail0 6 ?_
              intro W0 hE hN
              have hrW : W0.rangeAt b (off + j * 13) (idL (bid x.b)) := (by rw [hE.out]; exact hr2.out)
              have hBW : Below w.heap.size w W0 := (by rw [hE.out]; exact hb2)
              have bW : b < W0.heap.size := Nat.lt_of_lt_of_le hbl hBW.size
              have hoW := ho2
              rw [← hE.out] at hoW
              clear hE hb2 ho2 hr2
              simp only [List.take_succ_cons, List.take_zero, List.drop_succ_cons, List.drop_zero]
              repeat (go_big_quiet_step (fail))
              refine wpQuiet_nil ?_
              rintro _ ⟨x', rfl⟩
              have hr1 := range_below bW hrW x'.ok
              have hB1 := bt hBW x'.ok
              have ho1 := Lib.hid (owns_belowS hoW.out x'.ok)
              obtain ⟨u3, hu⟩ : ∃ u, u = x'.wd := ⟨_, rfl⟩
              rw [← hu] at hr1 hB1 ho1 ⊢
              have s3 := hB1.size
              clear hu x' hN hrW hBW bW hoW s2
              refine wpList_load_mid rfl 26 (.tmp 48) rfl b (off + j * 13) rfl (idL (bid x.b)) _ hr1 Tryd.underlying26 rfl (by kernel_rfl) ?_
              conv => arg 5; simp [Act.put, idL, bid]
              clear hr1
              go_wp2_with (at_builtin; go_loud (refine wpList_append_struct (enc := idL) rfl _ _ 42 rfl w.heap.size 26 i0 (.agg #[.int .i64 0, .int .u64 0, .int .i64 0]) 3 24 Tryd.underlying42 Hi.out Hz0.out Hz1.out Hz2.out rfl (by decide) idL_len idL_one _ (chL (overI · now) (fun _ x => bid x.b) l j) rfl (ho1.out.alloc _) u3.heap.size 1 (bid x.b) rfl (blk_alloc_new _ _ _ rfl) (by unfold maxLen; omega) (by omega) (by simp; omega) ?_); intro v' wb hown2 hgrow2)
              have hB3 : Below w.heap.size w wb := (hB1.alloc hB1.size _).grown hgrow2 (by simp; omega) (fun k e => (ho1.out.lt k e).1)
              have hN : Hid (wb.ownsRow w.heap.size 26 3 v' (chL (overI · now) (fun _ x => bid x.b) l (j + 1)).length (rowC idL (chL (overI · now) (fun _ x => bid x.b) l (j + 1)))) := Lib.hid (by rw [E5.out]; exact hown2)
              clear hown2 hgrow2 ho1
              go_wp2
              go_roundw
              case rel => exact ⟨j + 1, by go_num, by omega, hB3, hN⟩
              case measure => simp [intOf]; omega
          · obtain rfl : j = l.length := by omega
            go_wp2
            go_ret2
            obtain ⟨a4, cap4, rfl, hS4, _⟩ := srow_of_owns idL_len hown.out
            exact ⟨a4, cap4, rfl, hS4, hBw⟩
  · have ha : askS l now = (chkS l).1 := by unfold askS; rw [if_pos hf]
    rw [ha, if_pos hf]
    obtain ⟨c, hc⟩ : ∃ c, (chkS l).1 = c := ⟨_, rfl⟩
    rw [hc] at g1 hf ⊢
    have q0 : (c != 0) = true := by simpa using hf
    replace g1 := Lib.hid g1
    clear hc hf hd hrow ha hl
    go_enter Tryd.func23, Tryd.ntmps23
    go_wp2_with (go_at_call 29; (with_reducible refine (g1.out).mono ?_); rintro e w2 ⟨rfl, h2⟩)
    go_ret2
    exact RetK.err _ h2
end Go.Proofs.YtahopnlibmiafaaDoor
