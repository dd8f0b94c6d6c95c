/- Parts of a proof, printed by a program of mine out of my texts: StRFor. -/
import Derived.Test.YtahopnlibmiafaaDoorMBuOrd2
import Derived.Test.YtahopnlibmiafaaDoorMRe
set_option linter.unusedSimpArgs false
set_option linter.unusedVariables false
namespace Go.Proofs.YtahopnlibmiafaaDoor
open Go.RowKit
theorem rlessF_any (a b : Bn) (ha : BnI a) (hb : BnI b) (w : World) : Calls Tryd.prog 49 #[.agg (bn a).toArray, .agg (bn b).toArray] w fun e w' => e = .returned (.bool (ltB a b)) ∧ Below w.heap.size w w' :=
  refLess_any a.no a.sq a.of a.de a.pr a.bo a.li a.to a.da b.no b.sq b.of b.de b.pr b.bo b.li b.to b.da ha.1 ha.2 hb.1 hb.2 w
theorem own_empty1 (w : World) (e : TypeId) : (w.alloc (.cells #[] e)).ownsRow w.heap.size e 1 (.slice (some ⟨w.heap.size, 0, none⟩) 0 0) 0 [] :=
  ⟨rfl, .inr ⟨w.heap.size, 0, #[], rfl, Nat.le_refl _, heap_alloc_new w _, Nat.le_refl _, by unfold maxLen; omega, rfl, rfl⟩⟩
theorem owns_take1 {w : World} {base : Nat} {e : TypeId} {g n cap : Nat} {L : List Int} {k : Nat} (h : w.ownsRow base e 1 (.slice (some ⟨g, 0, none⟩) n cap) n (rowC ic L)) (hk : k ≤ n) : w.ownsRow base e 1 (.slice (some ⟨g, 0, none⟩) k cap) k (rowC ic (L.take k)) := by
  have e1 : rowC ic (L.take k) = (rowC ic L).take k := by rw [rowC_ic, rowC_ic, List.map_take]
  obtain ⟨hl, h2⟩ := h
  rcases h2 with ⟨e, _⟩ | ⟨g', cap', cur, e, hb, hc, hn, hm, hs, ht⟩
  · cases e
  · cases e
    refine ⟨by rw [e1, List.length_take, hl]; omega, .inr ⟨_, _, cur, rfl, hb, hc, by omega, hm, hs, ?_⟩⟩
    rw [e1, ← ht, List.take_take]
    congr 1
    omega
theorem ic_ones (L : List Int) : ∀ u ∈ rowC ic L, u.oneCell' = true := by
  intro u hu
  rw [rowC_ic] at hu
  obtain ⟨x, _, rfl⟩ := List.mem_map.1 hu
  rfl
theorem ic_lens (L : List Int) : (rowC ic L).length = L.length * 1 := by rw [rowC_ic]; simp
theorem srow_atR {α : Type} {enc : α → List Value} {k : Nat} {w : World} {b o cap : Nat} {l : List α} (h : SRow enc k w (some ⟨b, o, none⟩) cap l) {j : Nat} (hj : j < l.length) : b < w.heap.size ∧ w.rangeAt b (o + j * k) (enc l[j]) := by
  obtain ⟨b', o', e, g, r⟩ := h.2.2.2 (by omega)
  cases e
  exact ⟨g, r j hj⟩
theorem calm_cellR {W0 : World} {b o : Nat} {v : Value} (hb : b < W0.heap.size) (h : W0.cell? ⟨b, o, none⟩ = some v) : ∀ x : Class (Calm W0), x.wd.cell? ⟨b, o, none⟩ = some v := fun x => (x.ok.cell (p := ⟨b, o, none⟩) hb).trans h
theorem drop_cells {w : World} {base : Nat} {e : TypeId} {g cap : Nat} {L : List Int} (h : w.ownsRow base e 1 (.slice (some ⟨g, 0, none⟩) L.length cap) L.length (rowC ic L)) (k : Nat) (hk : k ≤ L.length) (j : Nat) (u : Value) (hj : (rowC ic (L.drop k))[j]? = some u) : w.cell? ⟨g, k + j, none⟩ = some u := by
  obtain ⟨a4, c4, e4, hS, _⟩ := srow_of_owns ic_len h
  cases e4
  rw [rowC_ic, List.getElem?_map, List.getElem?_drop] at hj
  cases hx : L[k + j]? with
  | none => rw [hx] at hj; cases hj
  | some x =>
    rw [hx] at hj
    obtain ⟨hl, hx2⟩ := List.getElem?_eq_some_iff.1 hx
    have h9 := (srow_atR hS hl).2 0 _ rfl
    rw [Nat.mul_one, Nat.zero_add, Nat.add_zero, hx2] at h9
    rw [h9]
    exact hj
theorem take_cell {cur : Array Value} {n : Nat} {xs : List Value} (h : cur.toList.take n = xs) {j : Nat} {u : Value} (hj : xs[j]? = some u) : cur[j]? = some u := by
  rw [← h, List.getElem?_take] at hj
  split at hj
  · simpa using hj
  · cases hj
theorem partF_zero (M : List Itm) (p now : Int) : partF M p now 0 = [] := rfl
set_option maxRecDepth 100000 in
set_option maxHeartbeats 6400000 in
theorem rfor_any (a : Option Addr) (cap : Nat) (l : List Itm) (prio now : Int) (hd : ∀ x ∈ l, x.b.da.size ≤ maxLen) (hl : l.length ≤ 100000) (w : World) (hrow : SRow itm 13 w a cap l) :
    Calls Tryd.prog 25 #[.slice a l.length cap, .int .i64 prio, .int .i64 now] w fun e w' => RetN (forS l prio now) w e w' := by
  have g1 := rCheck_any a cap l hd w hrow
  have hun : undef = Value.tuple #[] := rfl
  obtain ⟨c2, hc2⟩ : ∃ c : Int, ((chkS l).2 : Int) = c := ⟨_, rfl⟩
  rw [hc2] at g1
  clear hc2
  unfold forS
  by_cases hf : (chkS l).1 = 0
  · have ha : askS l now = if now < 0 ∨ 1099511627776 < now then 2 else 0 := by unfold askS; rw [if_neg (fun h => h hf)]
    have hv : StV l := chkS_zero hf
    rw [hf] at g1
    replace g1 := Lib.hid g1
    have q0 : ((0 : Int) != 0) = false := rfl
    by_cases hp : prio < 0 ∨ 2 < prio
    · have e : (if askS l now ≠ 0 then (([] : List Int), askS l now) else if prio < 0 ∨ 2 < prio then ([], 2) else (isort (ltF l) (chL (wantF prio now) (fun i _ => (i : Int)) l l.length), 0)) = ([], 2) := by
        rw [ha, if_pos hp]
        by_cases h : now < 0 ∨ 1099511627776 < now
        · rw [if_pos h]; rfl
        · rw [if_neg h]; rfl
      rw [e]
      rcases hp with h1 | h1
      · have t1 : decide (prio < 0) = true := decide_eq_true h1
        clear ha hf hv hd hrow h1 hl e
        go_enter Tryd.func25, Tryd.ntmps25
        go_wp2_with (go_at_call 29; (with_reducible refine (g1.out).mono ?_); rintro e w2 ⟨rfl, h2⟩)
        go_ret2
        exact RetN.err _ h2
      · have t1 : decide (prio < 0) = false := decide_eq_false (by omega)
        have t2 : decide (2 < prio) = true := decide_eq_true h1
        clear ha hf hv hd hrow h1 hl e
        go_enter Tryd.func25, Tryd.ntmps25
        go_wp2_with (go_at_call 29; (with_reducible refine (g1.out).mono ?_); rintro e w2 ⟨rfl, h2⟩)
        go_ret2
        exact RetN.err _ h2
    · have t1 : decide (prio < 0) = false := decide_eq_false (by omega)
      have t2 : decide (2 < prio) = false := decide_eq_false (by omega)
      by_cases h1 : now < 0
      · rw [if_pos (.inl h1)] at ha
        rw [ha, if_pos (by decide)]
        have t3 : decide (now < 0) = true := decide_eq_true h1
        clear ha hf hv hd hrow h1 hl hp
        go_enter Tryd.func25, Tryd.ntmps25
        go_wp2_with (go_at_call 29; (with_reducible refine (g1.out).mono ?_); rintro e w2 ⟨rfl, h2⟩)
        go_ret2
        exact RetN.err _ h2
      · have t3 : decide (now < 0) = false := decide_eq_false h1
        by_cases h2 : 1099511627776 < now
        · rw [if_pos (.inr h2)] at ha
          rw [ha, if_pos (by decide)]
          have t4 : decide (1099511627776 < now) = true := decide_eq_true h2
          clear ha hf hv hd hrow h1 h2 hl hp
          go_enter Tryd.func25, Tryd.ntmps25
          go_wp2_with (go_at_call 29; (with_reducible refine (g1.out).mono ?_); rintro e w2 ⟨rfl, h2⟩)
          go_ret2
          exact RetN.err _ h2
        · rw [if_neg (by omega)] at ha
          rw [ha, if_neg (by simp), if_neg hp]
          have t4 : decide (1099511627776 < now) = false := decide_eq_false h2
          show Calls Tryd.prog 25 #[.slice a l.length cap, .int .i64 prio, .int .i64 now] w fun e w' => RetN (partF l prio now l.length, 0) w e w'
          obtain ⟨i0, hi, hz0, hz1, hz2⟩ := info_parts infoI64
          have Hi := Lib.hid hi; have Hz0 := Lib.hid hz0; have Hz1 := Lib.hid hz1; have Hz2 := Lib.hid hz2
          have HR := Lib.hid hrow; have HD := Lib.hid hd; have HV := Lib.hid hv
          have hcap := hrow.1
          have hmax := hrow.2.1
          unfold maxLen at hmax
          clear hi hz0 hz1 hz2 hrow hd ha hf h1 h2 hv hp
          go_enter Tryd.func25, Tryd.ntmps25
          go_wp2_with (go_at_call 29; (with_reducible refine (g1.out).mono ?_); rintro e w2 ⟨rfl, hB2⟩)
          have s2 := hB2.size
          go_loopw [10, 11] (fun o i wr => ∃ j : Nat, i = .int .i64 j ∧ j ≤ l.length ∧ Below w.heap.size w wr ∧ Hid (wr.ownsRow w.heap.size 3 1 o (partF l prio now j).length (rowC ic (partF l prio now j)))) (fun _ i _ => l.length - (intOf i).toNat)
          case atStart => exact ⟨0, rfl, Nat.zero_le _, hB2, Lib.hid (by rw [partF_zero]; simpa [rowC] using World.ownsRow_nil w2 _ _ _)⟩
          case round =>
            clear hB2 s2 g1
            obtain ⟨j, rfl, hj, hBw, hown⟩ := hrel
            by_cases hlt : j < l.length
            · have hltz : (j : Int) < (l.length : Int) := by omega
              obtain ⟨b, off, hab, hbl, hcs⟩ := HR.out.2.2.2 (by omega)
              subst hab
              obtain ⟨x, hx⟩ : ∃ x, x = l[j] := ⟨_, rfl⟩
              have hr := hcs j hlt
              rw [← hx] at hr
              have HG := Lib.hid hr
              have hrw := range_bnF (range_below hbl hr hBw)
              have HX := Lib.hid hx
              have HCS := Lib.hid hcs
              have bwr : b < wr.heap.size := Nat.lt_of_lt_of_le hbl hBw.size
              clear hx hr hcs
              have HDX := Lib.hid (HD.out x (by rw [HX.out]; exact List.getElem_mem _))
              obtain ⟨q, hq⟩ : ∃ q, overI x now = q := ⟨_, rfl⟩
              have hrb := Lib.hid hrw
              clear hrw
              go_upto_region 10 with fail
              refine wp_region_tail0 4 ?_
              intro W0 hE hN
              have hrW : W0.rangeAt b (off + j * 13) (bn x.b) := (by rw [hE.out]; exact hrb.out)
              have hBW : Below w.heap.size w W0 := (by rw [hE.out]; exact hBw)
              have bW : b < W0.heap.size := Nat.lt_of_lt_of_le hbl hBW.size
              have hoW := hown
              rw [← hE.out] at hoW
              clear hE hBw hown hrb
              simp only [List.take_succ_cons, List.take_zero, List.drop_succ_cons, List.drop_zero]
              repeat (go_big_quiet_step (fail))
              refine wpQuiet_nil ?_
              rintro _ ⟨x', rfl⟩
              have hr1 := range_below bW hrW x'.ok
              have hB1 := bt hBW x'.ok
              have ho1 := Lib.hid (owns_belowS hoW.out x'.ok)
              obtain ⟨u, hu⟩ : ∃ u, u = x'.wd := ⟨_, rfl⟩
              rw [← hu] at hr1 hB1 ho1 ⊢
              clear hu x' hN hrW hBW bW hoW
              obtain ⟨z, ge⟩ := rexp_any x now HDX.out u
              rw [hq] at ge
              have GE := Lib.hid ge
              clear ge
              refine wpList_load_mid rfl 28 (.tmp 48) rfl b (off + j * 13) rfl (bn x.b) _ hr1 Tryd.underlying28 rfl (by kernel_rfl) ?_
              conv => arg 5; simp [Act.put]
              clear hr1
              cases hw : wantF prio now x
              · cases q
                · by_cases hs : x.st = 1
                  · have hs2 : x.b.pr ≠ prio := fun h => by unfold wantF at hw; rw [hq] at hw; simp [hs, h] at hw
                    have k1 : (x.st != 1) = false := by simp [hs]
                    have k2 : (x.b.pr != prio) = true := by simpa using hs2
                    clear hs hs2
                    have e5 : partF l prio now (j + 1) = partF l prio now j := partF_no hlt (by rw [← HX.out]; exact hw)
                    have E5 := Lib.hid e5
                    clear e5 hw
                    go_wp2_with (go_at_call 64; (with_reducible refine (GE.out).mono ?_); rintro e w3 ⟨rfl, h3⟩; (have hb3 := bt hB1 h3); (have ho3 := Lib.hid (owns_belowS ho1.out h3)); (have c1 : w3.cell? ⟨b, off + j * 13 + 9, none⟩ = some (.int .i64 x.st) := (range_below hbl HG.out hb3) 9 _ rfl); (have c2 : w3.cell? ⟨b, off + j * 13 + 4, none⟩ = some (.int .i64 x.b.pr) := (range_below hbl HG.out hb3) 4 _ rfl); clear h3 hB1 ho1)
                    have hN := Lib.hid ho3.out
                    rw [← E5.out] at hN
                    clear ho3
                    go_roundw
                    case rel => exact ⟨j + 1, by go_num, by omega, hb3, hN⟩
                    case measure => simp [intOf]; omega
                  · have k1 : (x.st != 1) = true := by simpa using hs
                    clear hs
                    have e5 : partF l prio now (j + 1) = partF l prio now j := partF_no hlt (by rw [← HX.out]; exact hw)
                    have E5 := Lib.hid e5
                    clear e5 hw
                    go_wp2_with (go_at_call 64; (with_reducible refine (GE.out).mono ?_); rintro e w3 ⟨rfl, h3⟩; (have hb3 := bt hB1 h3); (have ho3 := Lib.hid (owns_belowS ho1.out h3)); (have c1 : w3.cell? ⟨b, off + j * 13 + 9, none⟩ = some (.int .i64 x.st) := (range_below hbl HG.out hb3) 9 _ rfl); (have c2 : w3.cell? ⟨b, off + j * 13 + 4, none⟩ = some (.int .i64 x.b.pr) := (range_below hbl HG.out hb3) 4 _ rfl); clear h3 hB1 ho1)
                    have hN := Lib.hid ho3.out
                    rw [← E5.out] at hN
                    clear ho3
                    go_roundw
                    case rel => exact ⟨j + 1, by go_num, by omega, hb3, hN⟩
                    case measure => simp [intOf]; omega
                · have e5 : partF l prio now (j + 1) = partF l prio now j := partF_no hlt (by rw [← HX.out]; exact hw)
                  have E5 := Lib.hid e5
                  clear e5 hw
                  go_wp2_with (go_at_call 64; (with_reducible refine (GE.out).mono ?_); rintro e w3 ⟨rfl, h3⟩; (have hb3 := bt hB1 h3); (have ho3 := Lib.hid (owns_belowS ho1.out h3)); (have c1 : w3.cell? ⟨b, off + j * 13 + 9, none⟩ = some (.int .i64 x.st) := (range_below hbl HG.out hb3) 9 _ rfl); (have c2 : w3.cell? ⟨b, off + j * 13 + 4, none⟩ = some (.int .i64 x.b.pr) := (range_below hbl HG.out hb3) 4 _ rfl); clear h3 hB1 ho1)
                  have hN := Lib.hid ho3.out
                  rw [← E5.out] at hN
                  clear ho3
                  go_roundw
                  case rel => exact ⟨j + 1, by go_num, by omega, hb3, hN⟩
                  case measure => simp [intOf]; omega
              · obtain ⟨k1, k2, k3⟩ : (x.st != 1) = false ∧ (x.b.pr != prio) = false ∧ q = false := by
                  unfold wantF at hw
                  rw [hq] at hw
                  simp only [Bool.and_eq_true, decide_eq_true_eq, Bool.not_eq_true'] at hw
                  exact ⟨by simp [hw.1.1], by simp [hw.1.2], hw.2⟩
                subst k3
                have HW := Lib.hid hw
                clear hw hq
                go_upto_region 12 with (go_at_call 64; (with_reducible refine (GE.out).mono ?_); rintro e w3 ⟨rfl, h3⟩; (have hb3 := bt hB1 h3); (have ho3 := Lib.hid (owns_belowS ho1.out h3)); (have c1 : w3.cell? ⟨b, off + j * 13 + 9, none⟩ = some (.int .i64 x.st) := (range_below hbl HG.out hb3) 9 _ rfl); (have c2 : w3.cell? ⟨b, off + j * 13 + 4, none⟩ = some (.int .i64 x.b.pr) := (range_below hbl HG.out hb3) 4 _ rfl); clear h3 hB1 ho1)
                obtain ⟨LL, hLL⟩ : ∃ LL, LL = partF l prio now j := ⟨_, rfl⟩
                have LLJ : LL.length ≤ j := (by rw [hLL]; exact partF_len _ _ _ _)
                have HLL := Lib.hid hLL
                rw [← hLL] at ho3
                clear hLL
                obtain ⟨V, hV⟩ : ∃ V, V = w3 := ⟨_, rfl⟩
                rw [← hV] at hb3 ho3 ⊢
                clear hV c1 c2
                obtain ⟨ao, co, rfl, hSo, hdo⟩ := srow_of_owns ic_len ho3.out
                have HSO := Lib.hid hSo
                have HDO := Lib.hid hdo
                have sV := hb3.size
                have hco := hSo.1
                have hmo := hSo.2.1
                unfold maxLen at hmo
                clear hSo hdo
                go_wp2_with fail
                go_loopw [14] (fun vk wr2 => ∃ k : Nat, vk = .int .i64 k ∧ k ≤ LL.length ∧ Below V.heap.size V wr2 ∧ Hid (∀ i (h : i < LL.length), i < k → ltF l LL[i] j = true)) (fun vk _ => LL.length - (intOf vk).toNat)
                case atStart => exact ⟨0, rfl, Nat.zero_le _, Below.refl _ _, Lib.hid (fun i h h2 => absurd h2 (by omega))⟩
                case round =>
                  obtain ⟨k, rfl, hk, hBV, HK⟩ := hrel
                  have hbw : Below w.heap.size w wr := hb3.trans (hBV.mono sV)
                  by_cases hkl : k < LL.length
                  · obtain ⟨ik, hik, hikj, hikl⟩ := partF_at (M := l) (p := prio) (now := now) (j := j) (x := LL[k]) (by rw [← HLL.out]; exact List.getElem_mem _)
                    rcases HDO.out with ⟨_, hnil⟩ | ⟨g, cur, rfl, hgb, hbg, hcs, hct⟩
                    · rw [hnil] at hkl; simp at hkl
                    obtain ⟨y, hy⟩ : ∃ y, y = l[ik] := ⟨_, rfl⟩
                    have cK : V.cell? ⟨g, 0 + k, none⟩ = some (.int .i64 ik) := (by have h9 := (srow_atR HSO.out hkl).2 0 _ rfl; rw [Nat.mul_one, hik] at h9; exact h9)
                    rw [Nat.zero_add] at cK
                    have hgV : g < V.heap.size := blk_lt hbg
                    have gl2 := Lib.hid (fun W => rlessF_any y.b x.b (by rw [hy]; exact bcode_i (HV.out.code hikl)) (by rw [HX.out]; exact bcode_i (HV.out.code hlt)) W)
                    have eL : ltF l LL[k] j = ltB y.b x.b := (by unfold ltF; rw [hik, bnAt_nat l ik hikl, bnAt_nat l j hlt, hy, HX.out])
                    have ry := Lib.hid (HCS.out ik hikl)
                    rw [← hy] at ry
                    have HY := Lib.hid hy
                    clear hy hik
                    obtain ⟨r, hr⟩ : ∃ r, ltB y.b x.b = r := ⟨_, rfl⟩
                    rw [hr] at gl2 eL
                    have EL := Lib.hid eL
                    clear hr eL
                    have p1 : (k : Int) < (LL.length : Int) := by omega
                    have p2 : (ik : Int) < (l.length : Int) := by omega
                    have tg : decide ((k : Int) < (LL.length : Int)) = true := decide_eq_true p1
                    have tg2 : decide (k < LL.length) = true := decide_eq_true hkl
                    go_wp2_with fail
                    refine wp_region_in (by kernel_rfl) (by kernel_rfl) ?_
                    intro W0 hE hN
                    have qB : Below V.heap.size V W0 := (by rw [hE.out]; exact hBV)
                    clear hE hBV hbw
                    have qw : Below w.heap.size w W0 := hb3.trans (qB.mono sV)
                    have r1 : W0.rangeAt b (off + ik * 13) (bn y.b) := range_bnF (range_below hbl ry.out qw)
                    have r2 : W0.rangeAt b (off + j * 13) (bn x.b) := range_bnF (range_below hbl HG.out qw)
                    have gl : b < W0.heap.size := Nat.lt_of_lt_of_le hbl qw.size
                    have n1 := calm_cellR (b := g) (o := k) (W0 := W0) (Nat.lt_of_lt_of_le hgV qB.size) ((qB.cell (p := ⟨g, k, none⟩) hgV).trans cK)
                    clear qw cK
                    refine wpQuiet_split 12 ?_
                    simp only [List.take_succ_cons, List.take_zero, List.drop_succ_cons, List.drop_zero]
                    repeat (go_big_quiet_step (fail))
                    refine wpQuiet_nil ?_
                    refine wpQuiet_load_range 28 (.tmp 84) b (off + ik * 13) (bn y.b) (fun W hW => by obtain ⟨x', rfl⟩ := hW; exact range_below gl r1 x'.ok) _ (by kernel_rfl) rfl (by kernel_rfl) Tryd.underlying28 rfl (by kernel_rfl) ?_
                    conv => arg 6; simp [Act.put]
                    refine wpQuiet_split 4 ?_
                    simp only [List.take_succ_cons, List.take_zero, List.drop_succ_cons, List.drop_zero]
                    repeat (go_big_quiet_step (fail))
                    refine wpQuiet_nil ?_
                    refine wpQuiet_load_range 28 (.tmp 89) b (off + j * 13) (bn x.b) (fun W hW => by obtain ⟨x', rfl⟩ := hW; exact range_below gl r2 x'.ok) _ (by kernel_rfl) rfl (by kernel_rfl) Tryd.underlying28 rfl (by kernel_rfl) ?_
                    conv => arg 6; simp [Act.put]
                    repeat (go_big_quiet_step ((go_at_call 49; (with_reducible refine Class.go _ (gl2.out _)))))
                    refine wpQuiet_nil ?_
                    rintro _ ⟨x', rfl⟩
                    have hBU : Below V.heap.size V x'.wd := qB.trans (x'.ok.mono qB.size)
                    obtain ⟨U, hUe⟩ : ∃ u, u = x'.wd := ⟨_, rfl⟩
                    rw [← hUe] at hBU ⊢
                    clear hUe x' hN n1 r1 r2 gl qB gl2 ry
                    cases r
                    · have PART := partF_yes HV.out hlt (by rw [← HX.out]; exact HW.out) HLL.out hk (fun i h h2 => HK.out i h h2) (fun _ => EL.out)
                      clear HK EL
                      have hU : Below w.heap.size w U := hb3.trans (hBU.mono sV)
                      have sU := hU.size
                      have hoU := Lib.hid (owns_belowS ho3.out hBU)
                      have hgU : g < U.heap.size := (hoU.out.lt g rfl).2
                      have gw := hgb
                      have drU : ∀ j' u, (rowC ic (LL.drop k))[j']? = some u → U.cell? ⟨g, k + j', none⟩ = some u := drop_cells hoU.out k hk
                      have DRU := Lib.hid drU
                      clear drU hBU
                      have bU : Below U.heap.size U (U.alloc (.cells #[] 3)) := (Below.refl _ _).alloc (Nat.le_refl _) _
                      have ld : (LL.drop k).length = (LL.length - k) := (by rw [List.length_drop])
                      have LD := Lib.hid ld
                      have PARTH := Lib.hid PART
                      have hcg : (LL.drop k).length ≤ 100000 := by rw [ld]; omega
                      clear PART ld
                      go_upto_region 16 with (at_builtin; go_loud (refine wpList_append_own _ rfl _ _ 35 rfl U.heap.size 3 i0 (.int .i64 0) 1 8 Tryd.underlying35 Hi.out Hz0.out Hz1.out Hz2.out rfl (by decide) (.slice (some ⟨U.heap.size, 0, none⟩) 0 0) 0 [] rfl (own_empty1 U _) ⟨g, k, none⟩ (LL.length - k) (co - k) (rowC ic (LL.drop k)) rfl (by rw [ic_lens, LD.out]) (fun j' u hj' => (by rw [Addr.add_mid, bU.cell (p := ⟨g, k + j', none⟩) hgU]; exact DRU.out j' u hj')) (ic_ones _) (by unfold maxLen; omega) (by omega) (by simp) ?_); intro v5 W5 ho5 hg5 hnn5)
                      have hB5 : Below w.heap.size w W5 := (hU.alloc hU.size _).grown hg5 (by simp; omega) (fun k e => Nat.le_trans sU ((own_empty1 U 3).lt k e).1)
                      have hU5 : Below U.heap.size U W5 := bU.grown hg5 (by simp) (fun k e => ((own_empty1 U 3).lt k e).1)
                      have ho5' : W5.ownsRow U.heap.size 3 1 v5 (LL.drop k).length (rowC ic (LL.drop k)) := (by have h9 := ho5; rw [Nat.zero_add, List.nil_append, ← LD.out] at h9; exact h9)
                      rcases ho5'.2 with ⟨e, _⟩ | ⟨g5, c5, cur5, rfl, hg5b, hg5g, c5l, c5m, _, hg5t⟩
                      · have h9 := (hnn5.1 e).1; cases h9
                      have n5 : g5 < W5.heap.size := (Array.getElem?_eq_some_iff.1 hg5g).1
                      have tkl : (LL.take k).length = k := (by rw [List.length_take]; omega)
                      have TKL := Lib.hid tkl
                      have ho6 := Lib.hid (show W5.ownsRow w.heap.size 3 1 (.slice (some ⟨g, 0, none⟩) k co) (LL.take k).length (rowC ic (LL.take k)) from (by rw [tkl]; exact owns_take1 (owns_belowS hoU.out hU5) hk))
                      have s5 := hB5.size
                      have hne5 : g5 ≠ g := by omega
                      have HG5 := Lib.hid (And.intro hg5g hg5t)
                      clear ho5 ho5' hg5 hnn5 hg5g hg5t tkl hU5 bU hoU hU DRU
                      obtain ⟨V5, hV5⟩ : ∃ v, v = W5 := ⟨_, rfl⟩
                      rw [← hV5] at hB5 ho6 s5 n5 HG5 ⊢
                      clear hV5
                      go_wp2_with (first | (at_builtin; (refine wpList_append_struct (enc := ic) rfl _ _ 35 rfl w.heap.size 3 i0 (.int .i64 0) 1 8 Tryd.underlying35 Hi.out Hz0.out Hz1.out Hz2.out rfl (by decide) ic_len ic_one _ (LL.take k) rfl (ho6.out.alloc _) V5.heap.size 1 (j : Int) rfl (blk_alloc_new _ _ _ rfl) (by rw [TKL.out]; unfold maxLen; omega) (by rw [TKL.out]; omega) (by simp; omega) ?_); intro v6 W6 ho7 hg6; (have hB6 : Below w.heap.size w W6 := (hB5.alloc hB5.size _).grown hg6 (by simp; omega) (fun k e => (ho6.out.lt k e).1)); (have h56 : blk W6 g5 = some cur5 := blk_of (((hg6.block g5 (by simp; omega) (fun e => by cases e; exact hne5 rfl)).trans ((World.grownBy_alloc V5 _ none).block g5 n5 (by simp))).trans HG5.out.1)); (have H6 : Hid (∀ j' u, (rowC ic (LL.drop k))[j']? = some u → W6.cell? ⟨g5, 0 + j', none⟩ = some u) := Lib.hid (fun j' u hj' => by rw [blk_cell h56, Nat.zero_add]; exact take_cell HG5.out.2 hj')); (have ho9 := Lib.hid ho7); (have s6 := hB6.size); clear ho7 hg6 h56 ho6) | (at_builtin; go_loud (refine wpList_append_own _ rfl _ _ 35 rfl w.heap.size 3 i0 (.int .i64 0) 1 8 Tryd.underlying35 Hi.out Hz0.out Hz1.out Hz2.out rfl (by decide) _ _ _ rfl ho9.out ⟨g5, 0, none⟩ (LL.length - k) c5 (rowC ic (LL.drop k)) rfl (by rw [ic_lens, LD.out]) (fun j' u hj' => by rw [Addr.add_mid]; exact H6.out j' u hj') (ic_ones _) (by rw [List.length_append, TKL.out]; unfold maxLen; simp; omega) (by rw [List.length_append, TKL.out]; simp; omega) (by omega) ?_); intro v7 W7 ho8 hg8 _))
                      have hB8 := hB6.grown hg8 s6 (fun k e => (ho9.out.lt k e).1)
                      have hN : Hid (W7.ownsRow w.heap.size 3 1 v7 (partF l prio now (j + 1)).length (rowC ic (partF l prio now (j + 1)))) := Lib.hid (by
                        have h9 := ho8
                        rw [← rowC_append, show LL.take k ++ [(j : Int)] ++ LL.drop k = LL.take k ++ (j : Int) :: LL.drop k by simp, ← LD.out, ← List.length_append, show LL.take k ++ [(j : Int)] ++ LL.drop k = LL.take k ++ (j : Int) :: LL.drop k by simp] at h9
                        rw [PARTH.out]
                        exact h9)
                      clear ho8 hg8 ho9 hB6
                      go_wp2
                      go_roundw
                      case rel => exact ⟨j + 1, by go_num, by omega, hB8, hN⟩
                      case measure => simp [intOf]; omega
                    · have hk2 : Hid (∀ i (h : i < LL.length), i < k + 1 → ltF l LL[i] j = true) := Lib.hid (fun i h h2 => by
                        rcases Nat.lt_or_ge i k with h3 | h3
                        · exact HK.out i h h3
                        · obtain rfl : i = k := by omega
                          exact EL.out)
                      clear HK EL
                      go_wp2
                      go_roundw
                      case rel => exact ⟨k + 1, by go_num, by omega, hBU, hk2⟩
                      case measure => simp [intOf]; omega
                  · have p1 : ¬ ((k : Int) < (LL.length : Int)) := by omega
                    have tg : decide ((k : Int) < (LL.length : Int)) = false := decide_eq_false p1
                    have tg2 : decide (k < LL.length) = false := decide_eq_false hkl
                    have PART := partF_yes HV.out hlt (by rw [← HX.out]; exact HW.out) HLL.out hk (fun i h h2 => HK.out i h h2) (fun h => absurd h hkl)
                    clear HK
                    go_wp2_with fail
                    refine wp_region_in (by kernel_rfl) (by kernel_rfl) ?_
                    intro W0 hE hN
                    have qB : Below V.heap.size V W0 := (by rw [hE.out]; exact hBV)
                    clear hE hBV hbw
                    repeat (go_big_quiet_step (fail))
                    refine wpQuiet_nil ?_
                    rintro _ ⟨x', rfl⟩
                    have hBU : Below V.heap.size V x'.wd := qB.trans (x'.ok.mono qB.size)
                    obtain ⟨U, hUe⟩ : ∃ u, u = x'.wd := ⟨_, rfl⟩
                    rw [← hUe] at hBU ⊢
                    clear hUe x' hN qB
                    rcases HDO.out with ⟨rfl, hnil⟩ | ⟨g, cur, rfl, hgb, hbg, hcs, hct⟩
                    · have hco0 := HSO.out.2.2.1 rfl
                      subst hnil
                      subst hco0
                      have hk0 : k = 0 := by simpa using hk
                      subst hk0
                      have PARTH : Hid (partF l prio now (j + 1) = [(j : Int)]) := Lib.hid (by simpa using PART)
                      have hU : Below w.heap.size w U := hb3.trans (hBU.mono sV)
                      have sU := hU.size
                      clear PART hBU HSO HDO ho3 hb3
                      go_upto_region 16 with (at_builtin; go_loud (refine wpList_append_own_none rfl _ _ 35 rfl U.heap.size 3 i0 1 Tryd.underlying35 Hi.out (.slice (some ⟨U.heap.size, 0, none⟩) 0 0) 0 [] rfl (own_empty1 U _) rfl ?_))
                      obtain ⟨V5, hV5⟩ : ∃ v, v = U.alloc (.cells #[] 3) := ⟨_, rfl⟩
                      obtain ⟨g5, hg5⟩ : ∃ v, v = U.heap.size := ⟨_, rfl⟩
                      have hB5 : Below w.heap.size w V5 := (by rw [hV5]; exact hU.alloc hU.size _)
                      have n5 : g5 < V5.heap.size := (by rw [hV5, hg5]; simp)
                      rw [← hV5, ← hg5]
                      clear hV5 hg5 hU
                      have s5 := hB5.size
                      go_wp2_with (first | (at_builtin; (refine wpList_append_struct (enc := ic) rfl _ _ 35 rfl w.heap.size 3 i0 (.int .i64 0) 1 8 Tryd.underlying35 Hi.out Hz0.out Hz1.out Hz2.out rfl (by decide) ic_len ic_one (.slice none 0 0) [] rfl (World.ownsRow_nil _ _ _ _) V5.heap.size 1 (j : Int) rfl (blk_alloc_new _ _ _ rfl) (by unfold maxLen; simp) (by simp) (by simp; omega) ?_); intro v6 W6 ho7 hg6; (have hB6 : Below w.heap.size w W6 := (hB5.alloc hB5.size _).grown hg6 (by simp; omega) (fun k e => by cases e)); (have ho9 := Lib.hid ho7); (have s6 := hB6.size); clear ho7 hg6) | (at_builtin; go_loud (refine wpList_append_own _ rfl _ _ 35 rfl w.heap.size 3 i0 (.int .i64 0) 1 8 Tryd.underlying35 Hi.out Hz0.out Hz1.out Hz2.out rfl (by decide) _ _ _ rfl ho9.out ⟨g5, 0, none⟩ 0 0 [] rfl rfl (fun j' u hj' => by simp at hj') (by simp) (by unfold maxLen; simp) (by simp) (by omega) ?_); intro v7 W7 ho8 hg8 _))
                      have hB8 := hB6.grown hg8 s6 (fun k e => (ho9.out.lt k e).1)
                      have hN : Hid (W7.ownsRow w.heap.size 3 1 v7 (partF l prio now (j + 1)).length (rowC ic (partF l prio now (j + 1)))) := Lib.hid (by
                        have h9 := ho8
                        rw [List.append_nil] at h9
                        rw [PARTH.out]
                        exact h9)
                      clear ho8 hg8 ho9 hB6
                      go_wp2
                      go_roundw
                      case rel => exact ⟨j + 1, by go_num, by omega, hB8, hN⟩
                      case measure => simp [intOf]; omega
                    · by_cases hkc : k = co
                      · subst hkc
                        have hU : Below w.heap.size w U := hb3.trans (hBU.mono sV)
                        have sU := hU.size
                        have hoU := Lib.hid (owns_belowS ho3.out hBU)
                        have hgU : g < U.heap.size := (hoU.out.lt g rfl).2
                        have gw := hgb
                        have drU : ∀ j' u, (rowC ic (LL.drop k))[j']? = some u → U.cell? ⟨g, k + j', none⟩ = some u := drop_cells hoU.out k hk
                        have DRU := Lib.hid drU
                        clear drU hBU
                        have bU : Below U.heap.size U (U.alloc (.cells #[] 3)) := (Below.refl _ _).alloc (Nat.le_refl _) _
                        have ld : (LL.drop k).length = 0 := (by rw [List.length_drop]; omega)
                        have LD := Lib.hid ld
                        have PARTH := Lib.hid PART
                        have hcg : (LL.drop k).length ≤ 100000 := by rw [ld]; omega
                        clear PART ld
                        have NIL : Hid (LL.drop k = []) := Lib.hid (List.drop_of_length_le (by omega))
                        go_upto_region 16 with (at_builtin; go_loud (refine wpList_append_own _ rfl _ _ 35 rfl U.heap.size 3 i0 (.int .i64 0) 1 8 Tryd.underlying35 Hi.out Hz0.out Hz1.out Hz2.out rfl (by decide) (.slice (some ⟨U.heap.size, 0, none⟩) 0 0) 0 [] rfl (own_empty1 U _) ⟨g, 0, none⟩ 0 0 (rowC ic (LL.drop k)) rfl (by rw [ic_lens, LD.out]) (fun j' u hj' => by rw [NIL.out] at hj'; simp [rowC] at hj') (ic_ones _) (by unfold maxLen; omega) (by omega) (by simp) ?_); intro v5 W5 ho5 hg5 hnn5)
                        have hB5 : Below w.heap.size w W5 := (hU.alloc hU.size _).grown hg5 (by simp; omega) (fun k e => Nat.le_trans sU ((own_empty1 U 3).lt k e).1)
                        have hU5 : Below U.heap.size U W5 := bU.grown hg5 (by simp) (fun k e => ((own_empty1 U 3).lt k e).1)
                        have ho5' : W5.ownsRow U.heap.size 3 1 v5 (LL.drop k).length (rowC ic (LL.drop k)) := (by have h9 := ho5; rw [Nat.zero_add, List.nil_append, ← LD.out] at h9; exact h9)
                        rcases ho5'.2 with ⟨e, _⟩ | ⟨g5, c5, cur5, rfl, hg5b, hg5g, c5l, c5m, _, hg5t⟩
                        · have h9 := (hnn5.1 e).1; cases h9
                        have n5 : g5 < W5.heap.size := (Array.getElem?_eq_some_iff.1 hg5g).1
                        have tkl : (LL.take k).length = k := (by rw [List.length_take]; omega)
                        have TKL := Lib.hid tkl
                        have ho6 := Lib.hid (show W5.ownsRow w.heap.size 3 1 (.slice (some ⟨g, 0, none⟩) k k) (LL.take k).length (rowC ic (LL.take k)) from (by rw [tkl]; exact owns_take1 (owns_belowS hoU.out hU5) hk))
                        have s5 := hB5.size
                        have hne5 : g5 ≠ g := by omega
                        have HG5 := Lib.hid (And.intro hg5g hg5t)
                        clear ho5 ho5' hg5 hnn5 hg5g hg5t tkl hU5 bU hoU hU DRU
                        obtain ⟨V5, hV5⟩ : ∃ v, v = W5 := ⟨_, rfl⟩
                        rw [← hV5] at hB5 ho6 s5 n5 HG5 ⊢
                        clear hV5
                        go_wp2_with (first | (at_builtin; (refine wpList_append_struct (enc := ic) rfl _ _ 35 rfl w.heap.size 3 i0 (.int .i64 0) 1 8 Tryd.underlying35 Hi.out Hz0.out Hz1.out Hz2.out rfl (by decide) ic_len ic_one _ (LL.take k) rfl (ho6.out.alloc _) V5.heap.size 1 (j : Int) rfl (blk_alloc_new _ _ _ rfl) (by rw [TKL.out]; unfold maxLen; omega) (by rw [TKL.out]; omega) (by simp; omega) ?_); intro v6 W6 ho7 hg6; (have hB6 : Below w.heap.size w W6 := (hB5.alloc hB5.size _).grown hg6 (by simp; omega) (fun k e => (ho6.out.lt k e).1)); (have h56 : blk W6 g5 = some cur5 := blk_of (((hg6.block g5 (by simp; omega) (fun e => by cases e; exact hne5 rfl)).trans ((World.grownBy_alloc V5 _ none).block g5 n5 (by simp))).trans HG5.out.1)); (have H6 : Hid (∀ j' u, (rowC ic (LL.drop k))[j']? = some u → W6.cell? ⟨g5, 0 + j', none⟩ = some u) := Lib.hid (fun j' u hj' => by rw [blk_cell h56, Nat.zero_add]; exact take_cell HG5.out.2 hj')); (have ho9 := Lib.hid ho7); (have s6 := hB6.size); clear ho7 hg6 h56 ho6) | (at_builtin; go_loud (refine wpList_append_own _ rfl _ _ 35 rfl w.heap.size 3 i0 (.int .i64 0) 1 8 Tryd.underlying35 Hi.out Hz0.out Hz1.out Hz2.out rfl (by decide) _ _ _ rfl ho9.out ⟨g5, 0, none⟩ 0 c5 (rowC ic (LL.drop k)) rfl (by rw [ic_lens, LD.out]) (fun j' u hj' => by rw [Addr.add_mid]; exact H6.out j' u hj') (ic_ones _) (by rw [List.length_append, TKL.out]; unfold maxLen; simp; omega) (by rw [List.length_append, TKL.out]; simp; omega) (by omega) ?_); intro v7 W7 ho8 hg8 _))
                        have hB8 := hB6.grown hg8 s6 (fun k e => (ho9.out.lt k e).1)
                        have hN : Hid (W7.ownsRow w.heap.size 3 1 v7 (partF l prio now (j + 1)).length (rowC ic (partF l prio now (j + 1)))) := Lib.hid (by
                          have h9 := ho8
                          rw [← rowC_append, show LL.take k ++ [(j : Int)] ++ LL.drop k = LL.take k ++ (j : Int) :: LL.drop k by simp, ← LD.out, ← List.length_append, show LL.take k ++ [(j : Int)] ++ LL.drop k = LL.take k ++ (j : Int) :: LL.drop k by simp] at h9
                          rw [PARTH.out]
                          exact h9)
                        clear ho8 hg8 ho9 hB6
                        go_wp2
                        go_roundw
                        case rel => exact ⟨j + 1, by go_num, by omega, hB8, hN⟩
                        case measure => simp [intOf]; omega
                      · have hkc2 : ¬ (co = k) := fun h => hkc h.symm
                        have hU : Below w.heap.size w U := hb3.trans (hBU.mono sV)
                        have sU := hU.size
                        have hoU := Lib.hid (owns_belowS ho3.out hBU)
                        have hgU : g < U.heap.size := (hoU.out.lt g rfl).2
                        have gw := hgb
                        have drU : ∀ j' u, (rowC ic (LL.drop k))[j']? = some u → U.cell? ⟨g, k + j', none⟩ = some u := drop_cells hoU.out k hk
                        have DRU := Lib.hid drU
                        clear drU hBU
                        have bU : Below U.heap.size U (U.alloc (.cells #[] 3)) := (Below.refl _ _).alloc (Nat.le_refl _) _
                        have ld : (LL.drop k).length = (LL.length - k) := (by rw [List.length_drop])
                        have LD := Lib.hid ld
                        have PARTH := Lib.hid PART
                        have hcg : (LL.drop k).length ≤ 100000 := by rw [ld]; omega
                        clear PART ld
                        go_upto_region 16 with (at_builtin; go_loud (refine wpList_append_own _ rfl _ _ 35 rfl U.heap.size 3 i0 (.int .i64 0) 1 8 Tryd.underlying35 Hi.out Hz0.out Hz1.out Hz2.out rfl (by decide) (.slice (some ⟨U.heap.size, 0, none⟩) 0 0) 0 [] rfl (own_empty1 U _) ⟨g, k, none⟩ (LL.length - k) (co - k) (rowC ic (LL.drop k)) rfl (by rw [ic_lens, LD.out]) (fun j' u hj' => (by rw [Addr.add_mid, bU.cell (p := ⟨g, k + j', none⟩) hgU]; exact DRU.out j' u hj')) (ic_ones _) (by unfold maxLen; omega) (by omega) (by simp) ?_); intro v5 W5 ho5 hg5 hnn5)
                        have hB5 : Below w.heap.size w W5 := (hU.alloc hU.size _).grown hg5 (by simp; omega) (fun k e => Nat.le_trans sU ((own_empty1 U 3).lt k e).1)
                        have hU5 : Below U.heap.size U W5 := bU.grown hg5 (by simp) (fun k e => ((own_empty1 U 3).lt k e).1)
                        have ho5' : W5.ownsRow U.heap.size 3 1 v5 (LL.drop k).length (rowC ic (LL.drop k)) := (by have h9 := ho5; rw [Nat.zero_add, List.nil_append, ← LD.out] at h9; exact h9)
                        rcases ho5'.2 with ⟨e, _⟩ | ⟨g5, c5, cur5, rfl, hg5b, hg5g, c5l, c5m, _, hg5t⟩
                        · have h9 := (hnn5.1 e).1; cases h9
                        have n5 : g5 < W5.heap.size := (Array.getElem?_eq_some_iff.1 hg5g).1
                        have tkl : (LL.take k).length = k := (by rw [List.length_take]; omega)
                        have TKL := Lib.hid tkl
                        have ho6 := Lib.hid (show W5.ownsRow w.heap.size 3 1 (.slice (some ⟨g, 0, none⟩) k co) (LL.take k).length (rowC ic (LL.take k)) from (by rw [tkl]; exact owns_take1 (owns_belowS hoU.out hU5) hk))
                        have s5 := hB5.size
                        have hne5 : g5 ≠ g := by omega
                        have HG5 := Lib.hid (And.intro hg5g hg5t)
                        clear ho5 ho5' hg5 hnn5 hg5g hg5t tkl hU5 bU hoU hU DRU
                        obtain ⟨V5, hV5⟩ : ∃ v, v = W5 := ⟨_, rfl⟩
                        rw [← hV5] at hB5 ho6 s5 n5 HG5 ⊢
                        clear hV5
                        go_wp2_with (first | (at_builtin; (refine wpList_append_struct (enc := ic) rfl _ _ 35 rfl w.heap.size 3 i0 (.int .i64 0) 1 8 Tryd.underlying35 Hi.out Hz0.out Hz1.out Hz2.out rfl (by decide) ic_len ic_one _ (LL.take k) rfl (ho6.out.alloc _) V5.heap.size 1 (j : Int) rfl (blk_alloc_new _ _ _ rfl) (by rw [TKL.out]; unfold maxLen; omega) (by rw [TKL.out]; omega) (by simp; omega) ?_); intro v6 W6 ho7 hg6; (have hB6 : Below w.heap.size w W6 := (hB5.alloc hB5.size _).grown hg6 (by simp; omega) (fun k e => (ho6.out.lt k e).1)); (have h56 : blk W6 g5 = some cur5 := blk_of (((hg6.block g5 (by simp; omega) (fun e => by cases e; exact hne5 rfl)).trans ((World.grownBy_alloc V5 _ none).block g5 n5 (by simp))).trans HG5.out.1)); (have H6 : Hid (∀ j' u, (rowC ic (LL.drop k))[j']? = some u → W6.cell? ⟨g5, 0 + j', none⟩ = some u) := Lib.hid (fun j' u hj' => by rw [blk_cell h56, Nat.zero_add]; exact take_cell HG5.out.2 hj')); (have ho9 := Lib.hid ho7); (have s6 := hB6.size); clear ho7 hg6 h56 ho6) | (at_builtin; go_loud (refine wpList_append_own _ rfl _ _ 35 rfl w.heap.size 3 i0 (.int .i64 0) 1 8 Tryd.underlying35 Hi.out Hz0.out Hz1.out Hz2.out rfl (by decide) _ _ _ rfl ho9.out ⟨g5, 0, none⟩ (LL.length - k) c5 (rowC ic (LL.drop k)) rfl (by rw [ic_lens, LD.out]) (fun j' u hj' => by rw [Addr.add_mid]; exact H6.out j' u hj') (ic_ones _) (by rw [List.length_append, TKL.out]; unfold maxLen; simp; omega) (by rw [List.length_append, TKL.out]; simp; omega) (by omega) ?_); intro v7 W7 ho8 hg8 _))
                        have hB8 := hB6.grown hg8 s6 (fun k e => (ho9.out.lt k e).1)
                        have hN : Hid (W7.ownsRow w.heap.size 3 1 v7 (partF l prio now (j + 1)).length (rowC ic (partF l prio now (j + 1)))) := Lib.hid (by
                          have h9 := ho8
                          rw [← rowC_append, show LL.take k ++ [(j : Int)] ++ LL.drop k = LL.take k ++ (j : Int) :: LL.drop k by simp, ← LD.out, ← List.length_append, show LL.take k ++ [(j : Int)] ++ LL.drop k = LL.take k ++ (j : Int) :: LL.drop k by simp] at h9
                          rw [PARTH.out]
                          exact h9)
                        clear ho8 hg8 ho9 hB6
                        go_wp2
                        go_roundw
                        case rel => exact ⟨j + 1, by go_num, by omega, hB8, hN⟩
                        case measure => simp [intOf]; omega
            · obtain rfl : j = l.length := by omega
              go_wp2
              go_ret2
              obtain ⟨a4, cap4, rfl, hS4, _⟩ := srow_of_owns ic_len hown.out
              exact ⟨a4, cap4, rfl, hS4, hBw⟩
  · have ha : askS l now = (chkS l).1 := by unfold askS; rw [if_pos hf]
    rw [ha, if_pos hf]
    obtain ⟨c, hc⟩ : ∃ c, (chkS l).1 = c := ⟨_, rfl⟩
    rw [hc] at g1 hf ⊢
    have q0 : (c != 0) = true := by simpa using hf
    replace g1 := Lib.hid g1
    clear hc hf hd hrow ha hl
    go_enter Tryd.func25, Tryd.ntmps25
    go_wp2_with (go_at_call 29; (with_reducible refine (g1.out).mono ?_); rintro e w2 ⟨rfl, h2⟩)
    go_ret2
    exact RetN.err _ h2
end Go.Proofs.YtahopnlibmiafaaDoor
