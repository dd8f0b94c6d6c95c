/- Parts of a proof, printed by a program of mine out of my texts: SoRSrt. -/
import Derived.OrdersHeld
import Derived.Deep.RegionHeld
import Derived.Deep.RegionHeld3
import Derived.Test.YtahopnlibmiafaaDoorMBuOrd2
import Derived.Test.YtahopnlibmiafaaDoorMSoSrtD
set_option linter.unusedSimpArgs false
set_option linter.unusedVariables false
namespace Go.Proofs.YtahopnlibmiafaaDoor
open Go.RowKit
theorem rlessB_any (a b : Bn) (ha : BnI a) (hb : BnI b) (w : World) : Calls Tryd.prog 49 #[.agg (bn a).toArray, .agg (bn b).toArray] w fun e w' => e = .returned (.bool (ltB a b)) ∧ Below w.heap.size w w' :=
  refLess_any a.no a.sq a.of a.de a.pr a.bo a.li a.to a.da b.no b.sq b.of b.de b.pr b.bo b.li b.to b.da ha.1 ha.2 hb.1 hb.2 w
theorem wp_append_noneB {P : Program} {w : World} {o : Oper} {a : Act} {K : Act → World → Prop} {Q : Exit → Act → World → Prop} (s x : Operand) (t : TypeId)
    (ho : o.op = .call { callee := .builtin .append, args := #[s, x], argTypes := #[t, t] })
    (base : Nat) (e : TypeId) (i : TypeInfo) (size : Nat) (ht : P.underlying t = some (.slice e)) (hi : P.info? e = some i)
    (v : Value) (n : Nat) (xs : List Value) (hs : a.eval s = v) (hown : w.ownsRow base e size v n xs) (hx : a.eval x = .slice none 0 0)
    (h : K (a.put o.dst v) w) : o.wp P a w K Q := by
  have hrun := run_append_owned_none (P := P) (w := w) base t o.type e i size ht hi v n xs hown
  unfold Oper.wp
  simp [execOp, ho, resolve, invoke, builtin, hs, hx, hrun, Result.andThen]
  exact h
theorem load_runB {P : Program} {o : Oper} {a : Act} (ty : TypeId) (x : Operand) (b off : Nat) (cs : List Value) (d : TypeDesc) (ho : o.op = .load ty x) (hx : a.eval x = .pointer (some ⟨b, off, none⟩)) (W : World) (hc : W.rangeAt b off cs)
    (hu : P.underlying ty = some d) (hd : d.isRow = true) (hi : (P.info? ty).map (·.size) = some cs.length) : (execOp a.eval o).run P W = .ok (.value (.agg cs.toArray)) W := by
  unfold execOp
  simp only [ho, hx, Sem.run_bind, run_loadAt_mid W b off ty cs d hc hu hd hi, Result.andThen_ok]
  rfl
theorem row_head {cur : Array Value} {L A B : List Bn} (h : cur.toList.take (L.length * 9) = rowC bn L) (hL : L = A ++ B) {j : Nat} {u : Value} (hj : (rowC bn A)[j]? = some u) : cur[j]? = some u := by
  have h2 : (rowC bn L)[j]? = some u := by rw [hL, rowC_append, List.getElem?_append_left (List.getElem?_eq_some_iff.1 hj).1]; exact hj
  rw [← h, List.getElem?_take] at h2
  split at h2
  · simpa using h2
  · cases h2
theorem row_tail {cur : Array Value} {L A B : List Bn} (h : cur.toList.take (L.length * 9) = rowC bn L) (hL : L = A ++ B) {j : Nat} {u : Value} (hj : (rowC bn B)[j]? = some u) : cur[A.length * 9 + j]? = some u := by
  have e : (rowC bn A).length = A.length * 9 := rowC_length bn_len A
  have h2 : (rowC bn L)[A.length * 9 + j]? = some u := by rw [hL, rowC_append, List.getElem?_append_right (by omega), e, show A.length * 9 + j - A.length * 9 = j by omega]; exact hj
  rw [← h, List.getElem?_take] at h2
  split at h2
  · simpa using h2
  · cases h2
theorem row_oneB (L : List Bn) : ∀ u ∈ rowC bn L, u.oneCell' = true := by
  intro u hu
  simp only [rowC, List.mem_flatMap] at hu
  obtain ⟨x, _, hx⟩ := hu
  exact bn_one x u hx
theorem getLast_takeB {L : List Bn} {m : Nat} (h : m < L.length) : (L.take (m + 1)).getLast? = some L[m] := by
  rw [List.take_succ_eq_append_getElem h, List.getLast?_concat]
theorem srow_atS {α : Type} {enc : α → List Value} {k : Nat} {w : World} {b o cap : Nat} {l : List α} (h : SRow enc k w (some ⟨b, o, none⟩) cap l) {j : Nat} (hj : j < l.length) : b < w.heap.size ∧ w.rangeAt b (o + j * k) (enc l[j]) := by
  obtain ⟨b', o', e, g, r⟩ := h.2.2.2 (by omega)
  cases e
  exact ⟨g, r j hj⟩
set_option maxRecDepth 100000 in
set_option maxHeartbeats 6400000 in
theorem rsrt_any (a : Option Addr) (cap : Nat) (l : List Bn) (hd : ∀ x ∈ l, x.da.size ≤ maxLen) (hl : l.length ≤ 100000) (w : World) (hrow : SRow bn 9 w a cap l) :
    Calls Tryd.prog 15 #[.slice a l.length cap] w fun e w' => RetB (srtB l) w e w' := by
  obtain ⟨i0, hi, hz0, hz1, hz2⟩ := info_parts infoBu
  have Hi := Lib.hid hi; have Hz0 := Lib.hid hz0; have Hz1 := Lib.hid hz1; have Hz2 := Lib.hid hz2
  have HR := Lib.hid hrow; have HD := Lib.hid hd
  have hcap := hrow.1
  have hmax := hrow.2.1
  unfold maxLen at hmax
  clear hi hz0 hz1 hz2 hrow hd
  go_enter Tryd.func15, Tryd.ntmps15
  go_wp2
  go_loopw [4] (fun i wr => ∃ j : Nat, i = .int .i64 j ∧ j ≤ l.length ∧ Below w.heap.size w wr ∧ Hid (∀ i (hi : i < l.length), i < j → bcode l[i] = 0)) (fun i _ => l.length - (intOf i).toNat)
  case atStart => exact ⟨0, rfl, Nat.zero_le _, Below.refl _ _, Lib.hid (fun i hi h => absurd h (by omega))⟩
  case round =>
    obtain ⟨j, rfl, hj, hBw, HC⟩ := hrel
    by_cases hlt : j < l.length
    · have hltz : (j : Int) < (l.length : Int) := by omega
      obtain ⟨b, off, hab, hbl, hcs0⟩ := HR.out.2.2.2 (by omega)
      subst hab
      obtain ⟨x, hx⟩ : ∃ x, x = l[j] := ⟨_, rfl⟩
      have hr := hcs0 j hlt
      rw [← hx] at hr
      have hrb := Lib.hid (range_below hbl hr hBw)
      have HX := Lib.hid hx
      have HDX := Lib.hid (HD.out x (by rw [hx]; exact List.getElem_mem _))
      clear hx hr hcs0
      go_upto_region 4 with fail
      refine wp_region_tail0 3 ?_
      intro W0 hE hN
      have hrW : W0.rangeAt b (off + j * 9) (bn x) := (by rw [hE.out]; exact hrb.out)
      have hBW : Below w.heap.size w W0 := (by rw [hE.out]; exact hBw)
      have bW : b < W0.heap.size := Nat.lt_of_lt_of_le hbl hBW.size
      clear hE hBw hrb
      simp only [List.take_succ_cons, List.take_zero, List.drop_succ_cons, List.drop_zero]
      repeat (go_big_quiet_step (fail))
      refine wpQuiet_nil ?_
      rintro _ ⟨x', rfl⟩
      have hr1 := range_below bW hrW x'.ok
      have hB1 := bt hBW x'.ok
      obtain ⟨u, hu⟩ : ∃ u, u = x'.wd := ⟨_, rfl⟩
      rw [← hu] at hr1 hB1 ⊢
      clear hu x' hN hrW hBW bW
      have ge := rchk_any x HDX.out u
      obtain ⟨c, hc⟩ : ∃ c, bcode x = c := ⟨_, rfl⟩
      rw [hc] at ge
      have GE := Lib.hid ge
      clear ge
      refine wpList_load_mid rfl 28 (.tmp 17) rfl b (off + j * 9) rfl (bn x) _ hr1 Tryd.underlying28 rfl (by kernel_rfl) ?_
      conv => arg 5; simp [Act.put]
      clear hr1
      by_cases hc0 : c = 0
      · subst hc0
        have q0 : ((0 : Int) != 0) = false := rfl
        have HC2 : Hid (∀ i (hi : i < l.length), i < j + 1 → bcode l[i] = 0) := Lib.hid (fun i hi h => by
          rcases Nat.lt_or_ge i j with h3 | h3
          · exact HC.out i hi h3
          · obtain rfl : i = j := by omega
            rw [← HX.out]; exact hc)
        clear HC hc
        go_wp2_with (go_at_call 57; (with_reducible refine (GE.out).mono ?_); rintro e w2 ⟨rfl, h2⟩)
        have hB2 := bt hB1 h2
        go_roundw
        case rel => exact ⟨j + 1, by go_num, by omega, hB2, HC2⟩
        case measure => simp [intOf]; omega
      · have q0 : (c != 0) = true := by simpa using hc0
        have e9 := Lib.hid (srtB_bad hlt (fun i hi h => HC.out i hi h) (by rw [← HX.out]; exact hc) hc0)
        clear hc0 hc HC
        go_wp2_with (go_at_call 57; (with_reducible refine (GE.out).mono ?_); rintro e w2 ⟨rfl, h2⟩)
        have hB2 := bt hB1 h2
        go_ret2
        rw [e9.out]
        exact RetB.err _ hB2
    · obtain rfl : j = l.length := by omega
      have HV : ∀ i (hi : i < l.length), bcode l[i] = 0 := fun i hi => HC.out i hi hi
      have E9 := Lib.hid (srtB_ok HV)
      have HBI : Hid (∀ x ∈ l, BnI x) := Lib.hid (fun x hx => by obtain ⟨i, hi, rfl⟩ := List.getElem_of_mem hx; exact bcode_iB (HV i hi))
      have hB1 := hBw
      clear HV HC hBw hj hlt
      go_wp2_with fail
      go_loopw [6, 7] (fun o i wr => ∃ j : Nat, i = .int .i64 j ∧ j ≤ l.length ∧ Below w.heap.size w wr ∧ Hid (wr.ownsRow w.heap.size 28 9 o (isort ltB (l.take j)).length (rowC bn (isort ltB (l.take j))))) (fun _ i _ => l.length - (intOf i).toNat)
      case atStart => exact ⟨0, rfl, Nat.zero_le _, hB1, Lib.hid (by simpa [rowC, isort] using World.ownsRow_nil _ _ _ _)⟩
      case round =>
        clear hB1
        obtain ⟨j, rfl, hj, hb3, ho3⟩ := hrel
        by_cases hlt : j < l.length
        · have hltz : (j : Int) < (l.length : Int) := by omega
          obtain ⟨b, off, hab, hbl, hcs0⟩ := HR.out.2.2.2 (by omega)
          subst hab
          obtain ⟨x, hx⟩ : ∃ x, x = l[j] := ⟨_, rfl⟩
          have hr := hcs0 j hlt
          rw [← hx] at hr
          have HG := Lib.hid hr
          have HX := Lib.hid hx
          have HXI : Hid (BnI x) := Lib.hid (by rw [hx]; exact HBI.out _ (List.getElem_mem _))
          clear hx hr hcs0
          obtain ⟨LL, hLL⟩ : ∃ LL, LL = isort ltB (l.take j) := ⟨_, rfl⟩
          have LLJ : LL.length = j := (by rw [hLL, isort_length]; simp; omega)
          have LLb : LL.length ≤ 100000 := by omega
          replace LLJ := Lib.hid LLJ
          have HLI : Hid (∀ y ∈ LL, BnI y) := Lib.hid (fun y hy => HBI.out y (List.mem_of_mem_take ((isort_perm ltB _).mem_iff.1 (hLL ▸ hy))))
          have KEYI : Hid (∀ k ≤ LL.length, (∀ z ∈ LL.drop k, ltB x z = true) → (∀ z, (LL.take k).getLast? = some z → ltB x z = false) → isort ltB (l.take (j + 1)) = LL.take k ++ x :: LL.drop k) := Lib.hid (fun k _ h1 h2 => by
            rw [List.take_succ_eq_append_getElem hlt, ← HX.out, isort_snoc, ← hLL]
            have h9 := insR_mid ltB x (LL.take k) (LL.drop k) h1 h2
            rwa [List.take_append_drop] at h9)
          rw [← hLL] at ho3
          clear hLL
          obtain ⟨V, hV⟩ : ∃ V, V = wr := ⟨_, rfl⟩
          rw [← hV] at hb3 ho3 ⊢
          clear hV
          obtain ⟨ao, co, rfl, hSo, hdo⟩ := srow_of_owns bn_len ho3.out
          have HSO := Lib.hid hSo
          have HDO := Lib.hid hdo
          have sV := hb3.size
          have hco := hSo.1
          have hmo := hSo.2.1
          unfold maxLen at hmo
          clear hSo hdo ho3
          go_wp2_with fail
          go_loopw [8] (fun vk wr2 => ∃ k : Nat, vk = .int .i64 k ∧ k ≤ LL.length ∧ Below V.heap.size V wr2 ∧ Hid (∀ z ∈ LL.drop k, ltB x z = true)) (fun vk _ => (intOf vk).toNat)
          case atStart => exact ⟨LL.length, rfl, Nat.le_refl _, Below.refl _ _, Lib.hid (fun z hz => by rw [List.drop_of_length_le (Nat.le_refl _)] at hz; simp at hz)⟩
          case round =>
            obtain ⟨k, rfl, hk, hBV, DR⟩ := hrel
            by_cases hk1 : 0 < k
            · obtain ⟨m, hm⟩ : ∃ m, k = m + 1 := ⟨k - 1, by omega⟩
              rcases HDO.out with ⟨_, hnil⟩ | ⟨g, cur, rfl, hgb, hbg, hcs, hct⟩
              · exfalso; rw [hnil] at hk; simp at hk; omega
              have hml : m < LL.length := by omega
              obtain ⟨y, hy⟩ : ∃ y, y = LL[m] := ⟨_, rfl⟩
              have hyl : LL[m]? = some y := by rw [List.getElem?_eq_getElem hml, hy]
              have hym : y ∈ LL := by rw [hy]; exact List.getElem_mem _
              have ryV := (srow_atS HSO.out hml).2
              rw [← hy, Nat.zero_add] at ryV
              have gV := blk_lt hbg
              have gl2 := Lib.hid (fun W => rlessB_any x y HXI.out (HLI.out y hym) W)
              have HY := Lib.hid hy
              clear hy hym hyl
              obtain ⟨r, hr⟩ : ∃ r, ltB x y = r := ⟨_, rfl⟩
              rw [hr] at gl2
              have HRR := Lib.hid hr
              clear hr
              have tg : decide ((0 : Int) < (k : Int)) = true := decide_eq_true (by omega)
              have tg2 : decide (0 < k) = true := decide_eq_true (by omega)
              have p2 : (m : Int) < (LL.length : Int) := by omega
              have m1 : IntKind.i64.wrap ((k : Int) - 1) = m := (IntWalk.i64_in _ (by omega)).trans (by omega)
              have HM := Lib.hid hm
              clear hm
              go_wp2_with fail
              refine wp_region_in (by kernel_rfl) (by kernel_rfl) ?_
              intro W0 hE hN
              have qB : Below V.heap.size V W0 := (by rw [hE.out]; exact hBV)
              clear hE hBV
              have qw : Below w.heap.size w W0 := hb3.trans (qB.mono sV)
              have r1 : W0.rangeAt b (off + j * 9) (bn x) := range_below hbl HG.out qw
              have r2 : W0.rangeAt g (m * 9) (bn y) := range_below gV ryV qB
              have gl : b < W0.heap.size := Nat.lt_of_lt_of_le hbl qw.size
              have gg : g < W0.heap.size := Nat.lt_of_lt_of_le gV qB.size
              clear qw ryV
              refine wpQuiet_split 6 ?_
              simp only [List.take_succ_cons, List.take_zero, List.drop_succ_cons, List.drop_zero]
              repeat (go_big_quiet_step (fail))
              refine wpQuiet_nil ?_
              refine wpQuiet_load_range 28 (.tmp 36) b (off + j * 9) (bn x) (fun W hW => by obtain ⟨x', rfl⟩ := hW; exact range_below gl r1 x'.ok) _ (by kernel_rfl) rfl (by kernel_rfl) Tryd.underlying28 rfl (by kernel_rfl) ?_
              conv => arg 6; simp [Act.put]
              refine wpQuiet_split 4 ?_
              simp only [List.take_succ_cons, List.take_zero, List.drop_succ_cons, List.drop_zero]
              repeat (go_big_quiet_step (fail))
              refine wpQuiet_nil ?_
              refine wpQuiet_load_range 28 (.tmp 41) g (m * 9) (bn y) (fun W hW => by obtain ⟨x', rfl⟩ := hW; exact range_below gg r2 x'.ok) _ (by kernel_rfl) rfl (by kernel_rfl) Tryd.underlying28 rfl (by kernel_rfl) ?_
              conv => arg 6; simp [Act.put]
              repeat (go_big_quiet_step ((go_at_call 49; (with_reducible refine Class.go _ (gl2.out _)))))
              refine wpQuiet_nil ?_
              rintro _ ⟨x', rfl⟩
              have hBU : Below V.heap.size V x'.wd := qB.trans (x'.ok.mono qB.size)
              obtain ⟨U, hUe⟩ : ∃ u, u = x'.wd := ⟨_, rfl⟩
              rw [← hUe] at hBU ⊢
              clear hUe x' hN r1 r2 gl gg qB gl2
              cases r
              · have GL : ∀ z, (LL.take k).getLast? = some z → ltB x z = false := fun z hz => by
                  rw [HM.out, getLast_takeB hml] at hz
                  rw [← Option.some.inj hz, ← HY.out]
                  exact HRR.out
                by_cases hkc : k = co
                · subst hkc
                  have hU : Below w.heap.size w U := hb3.trans (hBU.mono sV)
                  have kgU := blk_below hBU hbg
                  have HCT := Lib.hid hct
                  have TKL : Hid ((LL.take k).length = k) := Lib.hid (by rw [List.length_take]; omega)
                  have TD : Hid (LL = LL.take k ++ LL.drop k) := Lib.hid (List.take_append_drop k LL).symm
                  have LD : Hid ((LL.drop k).length = 0) := Lib.hid (by rw [List.length_drop]; omega)
                  have DK : Hid (LL.drop k = []) := Lib.hid (List.drop_of_length_le (by omega))
                  have NEXT := Lib.hid (KEYI.out k hk DR.out GL)
                  clear GL hct hcs hbg
                  clear hBU
                  go_wp2_with fail
                  refine wp_region_held_drew (S := fun W => W.rangeAt b (off + j * 9) (bn x)) (by kernel_rfl) (range_below hbl HG.out hU.drew) (fun hHeld => ?_)
                  obtain ⟨U0, eU⟩ : ∃ v, v = U.drew := ⟨_, rfl⟩
                  have bU0 : Below w.heap.size w U0 := (by rw [eU]; exact hU.drew)
                  have cU0 : Below U0.heap.size U0 U0 := Below.refl _ _
                  have sU := bU0.size
                  have kg : blk U0 g = some cur := (by rw [eU]; exact blk_drew kgU)
                  have gU := blk_lt kg
                  clear kgU
                  rw [← eU] at hHeld ⊢
                  clear eU hU
                  refine wpAnyH_take (i := 1) (oi := _) (v := ?_) rfl (by kernel_rfl) (by kernel_rfl) (by kernel_rfl) (fun _ _ _ h => h) (Or.inl ⟨by rfl, ?_⟩) (by assumption) ?_
                  rotate_left
                  focus (intro W hSw; (try dsimp only at hSw); go_simp; (try with_reducible rfl))
                  (try simp only [Act.put, List.setIfInBounds_toArray, List.set_cons_zero, List.set_cons_succ, List.getElem_toArray, List.getElem_cons_succ, List.getElem_cons_zero])
                  refine wpAnyH_take (i := 2) (oi := _) (v := ?_) rfl (by kernel_rfl) (by kernel_rfl) (by kernel_rfl) (fun _ _ _ h => h) (Or.inl ⟨by rfl, ?_⟩) (by assumption) ?_
                  rotate_left
                  focus (intro W hSw; (try dsimp only at hSw); go_simp; (try with_reducible rfl))
                  (try simp only [Act.put, List.setIfInBounds_toArray, List.set_cons_zero, List.set_cons_succ, List.getElem_toArray, List.getElem_cons_succ, List.getElem_cons_zero])
                  refine wpAnyH_take (i := 3) (oi := _) (v := ?_) rfl (by kernel_rfl) (by kernel_rfl) (by kernel_rfl) (fun _ _ _ h => h) (Or.inl ⟨by rfl, ?_⟩) (by assumption) ?_
                  rotate_left
                  focus (intro W hSw; (try dsimp only at hSw); go_simp; (try with_reducible rfl))
                  (try simp only [Act.put, List.setIfInBounds_toArray, List.set_cons_zero, List.set_cons_succ, List.getElem_toArray, List.getElem_cons_succ, List.getElem_cons_zero])
                  refine wpAnyH_take (i := 5) (oi := _) (v := ?_) rfl (by kernel_rfl) (by kernel_rfl) (by kernel_rfl) (fun _ _ _ h => h) (Or.inl ⟨by rfl, ?_⟩) (by assumption) ?_
                  rotate_left
                  focus (intro W hSw; (try dsimp only at hSw); go_simp; (try with_reducible rfl))
                  (try simp only [Act.put, List.setIfInBounds_toArray, List.set_cons_zero, List.set_cons_succ, List.getElem_toArray, List.getElem_cons_succ, List.getElem_cons_zero])
                  refine wpAnyH_take (i := 6) (oi := _) (v := ?_) rfl (by kernel_rfl) (by kernel_rfl) (by kernel_rfl) (fun _ _ _ h => h) (Or.inl ⟨by rfl, ?_⟩) (by assumption) ?_
                  rotate_left
                  focus (intro W hSw; (try dsimp only at hSw); go_simp; (try with_reducible rfl))
                  (try simp only [Act.put, List.setIfInBounds_toArray, List.set_cons_zero, List.set_cons_succ, List.getElem_toArray, List.getElem_cons_succ, List.getElem_cons_zero])
                  refine wpAnyH_take (i := 7) (oi := _) (v := ?_) rfl (by kernel_rfl) (by kernel_rfl) (by kernel_rfl) (fun _ _ _ h => h) (Or.inl ⟨by rfl, ?_⟩) (by assumption) ?_
                  rotate_left
                  focus (intro W hSw; (try dsimp only at hSw); go_simp; (try with_reducible rfl))
                  (try simp only [Act.put, List.setIfInBounds_toArray, List.set_cons_zero, List.set_cons_succ, List.getElem_toArray, List.getElem_cons_succ, List.getElem_cons_zero])
                  refine wpAnyH_take (i := 8) (oi := _) (v := .agg #[.int .i64 x.no, .int .u64 x.sq, .int .i64 x.of, .int .i64 x.de, .int .i64 x.pr, .int .i64 x.bo, .int .i64 x.li, .int .i64 x.to, .string x.da]) rfl (by kernel_rfl) (by kernel_rfl) (by kernel_rfl) (fun _ _ _ h => h) (Or.inl ⟨by rfl, ?_⟩) (by assumption) ?_
                  focus (intro W hSw; exact load_runB 28 (.tmp 54) b (off + j * 9) (bn x) _ rfl rfl W hSw Tryd.underlying28 rfl (by kernel_rfl))
                  (try simp only [Act.put, List.setIfInBounds_toArray, List.set_cons_zero, List.set_cons_succ, List.getElem_toArray, List.getElem_cons_succ, List.getElem_cons_zero])
                  refine wpAnyH_take (i := 11) (oi := _) (v := ?_) rfl (by kernel_rfl) (by kernel_rfl) (by kernel_rfl) (fun _ _ _ h => h) (Or.inl ⟨by rfl, ?_⟩) (by assumption) ?_
                  rotate_left
                  focus (intro W hSw; (try dsimp only at hSw); go_simp; (try with_reducible rfl))
                  (try simp only [Act.put, List.setIfInBounds_toArray, List.set_cons_zero, List.set_cons_succ, List.getElem_toArray, List.getElem_cons_succ, List.getElem_cons_zero])
                  refine wpAnyH_take (i := 12) (oi := _) (v := ?_) rfl (by kernel_rfl) (by kernel_rfl) (by kernel_rfl) (fun _ _ _ h => h) (Or.inl ⟨by rfl, ?_⟩) (by assumption) ?_
                  rotate_left
                  focus (intro W hSw; (try dsimp only at hSw); go_simp; (try with_reducible rfl))
                  (try simp only [Act.put, List.setIfInBounds_toArray, List.set_cons_zero, List.set_cons_succ, List.getElem_toArray, List.getElem_cons_succ, List.getElem_cons_zero])
                  refine wpAnyH_take (i := 13) (oi := _) (v := ?_) rfl (by kernel_rfl) (by kernel_rfl) (by kernel_rfl) (fun _ _ _ h => h) (Or.inl ⟨by rfl, ?_⟩) (by assumption) ?_
                  rotate_left
                  focus (intro W hSw; (try dsimp only at hSw); go_simp; (try with_reducible rfl))
                  (try simp only [Act.put, List.setIfInBounds_toArray, List.set_cons_zero, List.set_cons_succ, List.getElem_toArray, List.getElem_cons_succ, List.getElem_cons_zero])
                  refine wpAnyH_ready (rs := [0, 9]) (by kernel_rfl) (by simp) ?_
                  refine AllReadyH.cons rfl (fun K hK => ?_) ?_
                  · skip
                    go_simp
                    refine hK.out _ _ (range_below hbl HG.out (bU0.alloc bU0.size _)) (fun _ => ?_)
                    clear hK K
                    (try simp only [Act.put, List.setIfInBounds_toArray, List.set_cons_zero, List.set_cons_succ, List.getElem_toArray, List.getElem_cons_succ, List.getElem_cons_zero])
                    obtain ⟨V1, eV⟩ : ∃ v, v = U0.alloc (.cells #[] 28) := ⟨_, rfl⟩
                    obtain ⟨n1, en⟩ : ∃ v, v = U0.heap.size := ⟨_, rfl⟩
                    have bV1 : Below w.heap.size w V1 := (by rw [eV]; exact bU0.alloc bU0.size _)
                    have cV1 : Below U0.heap.size U0 V1 := (by rw [eV]; exact cU0.alloc cU0.size _)
                    have oV1 : V1.ownsRow n1 28 9 (.slice (some ⟨n1, 0, none⟩) 0 0) 0 [] := (by rw [eV, en]; exact own_empty9 _ _)
                    have l1 : U0.heap.size ≤ n1 := (by rw [en]; exact cU0.size)
                    have u1 : n1 < V1.heap.size := (by rw [eV, en]; simp)
                    rw [← eV, ← en]
                    clear eV en
                    refine wpAnyH_ready (rs := [4, 9]) (by kernel_rfl) (by simp) ?_
                    refine AllReadyH.cons rfl (fun K hK => ?_) ?_
                    · skip
                      refine wp_append_own _ (.tmp 47) (.tmp 50) 22 rfl U0.heap.size 28 i0 (.agg #[.int .i64 0, .int .u64 0, .int .i64 0, .int .i64 0, .int .i64 0, .int .i64 0, .int .i64 0, .int .i64 0, .string ⟨#[]⟩]) 9 80 Tryd.underlying22 Hi.out Hz0.out Hz1.out Hz2.out rfl (by decide) (.slice (some ⟨n1, 0, none⟩) 0 0) 0 [] rfl (owns_base oV1 l1) ⟨g, 0, none⟩ k k (rowC bn (LL.take k)) rfl (by rw [rowC_length bn_len, TKL.out]) (fun j' u hj' => (by rw [Addr.add_mid, Nat.zero_add, cV1.cell (p := ⟨g, j', none⟩) gU, blk_cell kg]; exact row_head HCT.out TD.out hj')) (row_oneB _) (by unfold maxLen; omega) (by omega) cV1.size ?_
                      intro v2 V2 ho hg5 _
                      have bV2 : Below w.heap.size w V2 := bV1.grown hg5 bV1.size (fun k e => by have h9 := (oV1.lt k e).1; omega)
                      have cV2 : Below U0.heap.size U0 V2 := cV1.grown hg5 cV1.size (fun k e => by have h9 := (oV1.lt k e).1; omega)
                      have OV2 : V2.ownsRow U0.heap.size 28 9 v2 (LL.take k).length (rowC bn (LL.take k)) := (by have h9 := ho; rw [Nat.zero_add, List.nil_append] at h9; rw [TKL.out]; exact h9)
                      refine hK.out _ _ (range_below hbl HG.out bV2) (fun _ => ?_)
                      clear hK K
                      (try simp only [Act.put, List.setIfInBounds_toArray, List.set_cons_zero, List.set_cons_succ, List.getElem_toArray, List.getElem_cons_succ, List.getElem_cons_zero])
                      clear ho hg5
                      refine wpAnyH_ready (rs := [9]) (by kernel_rfl) (by simp) ?_
                      refine AllReadyH.cons rfl (fun K hK => ?_) AllReadyH.nil
                      go_simp
                      refine hK.out _ _ (range_below hbl HG.out (bV2.alloc bV2.size _)) (fun _ => ?_)
                      clear hK K
                      (try simp only [Act.put, List.setIfInBounds_toArray, List.set_cons_zero, List.set_cons_succ, List.getElem_toArray, List.getElem_cons_succ, List.getElem_cons_zero])
                      obtain ⟨V3, eV⟩ : ∃ v, v = V2.alloc (.cells #[.int .i64 x.no, .int .u64 x.sq, .int .i64 x.of, .int .i64 x.de, .int .i64 x.pr, .int .i64 x.bo, .int .i64 x.li, .int .i64 x.to, .string x.da] 28) := ⟨_, rfl⟩
                      obtain ⟨n3, en⟩ : ∃ v, v = V2.heap.size := ⟨_, rfl⟩
                      have bV3 : Below w.heap.size w V3 := (by rw [eV]; exact bV2.alloc bV2.size _)
                      have cV3 : Below U0.heap.size U0 V3 := (by rw [eV]; exact cV2.alloc cV2.size _)
                      have z3 : blk V3 n3 = some (bn x).toArray := (by rw [eV, en]; exact blk_alloc_new _ _ _ rfl)
                      have l3 : U0.heap.size ≤ n3 := (by rw [en]; exact cV2.size)
                      have u3 : n3 < V3.heap.size := (by rw [eV, en]; simp)
                      have OV3 : V3.ownsRow U0.heap.size 28 9 _ (LL.take k).length (rowC bn (LL.take k)) := (by rw [eV]; exact OV2.alloc _)
                      rw [← eV, ← en]
                      clear eV en
                      refine wpAnyH_ready (rs := [10]) (by kernel_rfl) (by simp) ?_
                      refine AllReadyH.cons rfl (fun K hK => ?_) AllReadyH.nil
                      refine wp_append_own _ (.tmp 51) (.tmp 56) 22 rfl U0.heap.size 28 i0 (.agg #[.int .i64 0, .int .u64 0, .int .i64 0, .int .i64 0, .int .i64 0, .int .i64 0, .int .i64 0, .int .i64 0, .string ⟨#[]⟩]) 9 80 Tryd.underlying22 Hi.out Hz0.out Hz1.out Hz2.out rfl (by decide) _ (LL.take k).length (rowC bn (LL.take k)) rfl OV3 ⟨n3, 0, none⟩ 1 1 (bn x) rfl rfl (fun j' u hj' => (by rw [Addr.add_mid, Nat.zero_add, blk_cell z3]; simpa using hj')) (bn_one _) (by rw [TKL.out]; unfold maxLen; omega) (by rw [TKL.out]; omega) cV3.size ?_
                      intro v4 V4 ho hg5 _
                      have bV4 : Below w.heap.size w V4 := bV3.grown hg5 bV3.size (fun k e => by have h9 := (OV3.lt k e).1; omega)
                      have cV4 : Below U0.heap.size U0 V4 := cV3.grown hg5 cV3.size (fun k e => (OV3.lt k e).1)
                      refine hK.out _ _ (range_below hbl HG.out bV4) (fun _ => ?_)
                      clear hK K
                      (try simp only [Act.put, List.setIfInBounds_toArray, List.set_cons_zero, List.set_cons_succ, List.getElem_toArray, List.getElem_cons_succ, List.getElem_cons_zero])
                      clear hg5
                      refine wpAnyH_ready (rs := [14]) (by kernel_rfl) (by simp) ?_
                      refine AllReadyH.cons rfl (fun K hK => ?_) AllReadyH.nil
                      refine wp_append_own _ (.tmp 57) (.tmp 60) 22 rfl U0.heap.size 28 i0 (.agg #[.int .i64 0, .int .u64 0, .int .i64 0, .int .i64 0, .int .i64 0, .int .i64 0, .int .i64 0, .int .i64 0, .string ⟨#[]⟩]) 9 80 Tryd.underlying22 Hi.out Hz0.out Hz1.out Hz2.out rfl (by decide) v4 ((LL.take k).length + 1) (rowC bn (LL.take k) ++ bn x) rfl ho ⟨g, 0, none⟩ 0 0 (rowC bn (LL.drop k)) rfl (by rw [rowC_length bn_len, LD.out]) (fun j' u hj' => by rw [DK.out] at hj'; simp [rowC] at hj') (row_oneB _) (by rw [TKL.out]; unfold maxLen; omega) (by rw [TKL.out]; omega) cV4.size ?_
                      intro v5 V5 ho2 hg6 _
                      have bV5 : Below w.heap.size w V5 := bV4.grown hg6 bV4.size (fun k e => by have h9 := (ho.lt k e).1; omega)
                      refine hK.out _ _ (range_below hbl HG.out bV5) (fun _ => ?_)
                      clear hK K
                      (try simp only [Act.put, List.setIfInBounds_toArray, List.set_cons_zero, List.set_cons_succ, List.getElem_toArray, List.getElem_cons_succ, List.getElem_cons_zero])
                      refine wpAnyH_take (i := 15) (oi := _) (v := ?_) rfl (by kernel_rfl) (by kernel_rfl) (by kernel_rfl) (fun _ _ _ h => h) (Or.inl ⟨by rfl, ?_⟩) (by assumption) ?_
                      rotate_left
                      focus (intro W hSw; (try dsimp only at hSw); go_simp; (try with_reducible rfl))
                      (try simp only [Act.put, List.setIfInBounds_toArray, List.set_cons_zero, List.set_cons_succ, List.getElem_toArray, List.getElem_cons_succ, List.getElem_cons_zero])
                      refine wpAnyH_done (by kernel_rfl) ?_ _
                      have hN : Hid (V5.ownsRow w.heap.size 28 9 v5 (isort ltB (l.take (j + 1))).length (rowC bn (isort ltB (l.take (j + 1))))) := Lib.hid (by
                        have h9 := owns_base ho2 (show w.heap.size ≤ U0.heap.size from sU)
                        rw [NEXT.out, show LL.take k ++ x :: LL.drop k = LL.take k ++ [x] ++ LL.drop k by simp, rowC_append, rowC_append, rowC_one, List.length_append, List.length_append, List.length_singleton, LD.out]
                        exact h9)
                      have bN := bV5
                      clear ho ho2 hg6
                      go_wp2
                      go_roundw
                      case rel => exact ⟨j + 1, by go_num, by omega, bN, hN⟩
                      case measure => simp [intOf]; omega
                    refine AllReadyH.cons rfl (fun K hK => ?_) AllReadyH.nil
                    go_simp
                    refine hK.out _ _ (range_below hbl HG.out (bV1.alloc bV1.size _)) (fun _ => ?_)
                    clear hK K
                    (try simp only [Act.put, List.setIfInBounds_toArray, List.set_cons_zero, List.set_cons_succ, List.getElem_toArray, List.getElem_cons_succ, List.getElem_cons_zero])
                    obtain ⟨V6, eV⟩ : ∃ v, v = V1.alloc (.cells #[.int .i64 x.no, .int .u64 x.sq, .int .i64 x.of, .int .i64 x.de, .int .i64 x.pr, .int .i64 x.bo, .int .i64 x.li, .int .i64 x.to, .string x.da] 28) := ⟨_, rfl⟩
                    obtain ⟨n6, en⟩ : ∃ v, v = V1.heap.size := ⟨_, rfl⟩
                    have bV6 : Below w.heap.size w V6 := (by rw [eV]; exact bV1.alloc bV1.size _)
                    have cV6 : Below U0.heap.size U0 V6 := (by rw [eV]; exact cV1.alloc cV1.size _)
                    have z6 : blk V6 n6 = some (bn x).toArray := (by rw [eV, en]; exact blk_alloc_new _ _ _ rfl)
                    have l6 : U0.heap.size ≤ n6 := (by rw [en]; exact cV1.size)
                    have u6 : n6 < V6.heap.size := (by rw [eV, en]; simp)
                    have oV6 : V6.ownsRow n1 28 9 (.slice (some ⟨n1, 0, none⟩) 0 0) 0 [] := (by rw [eV]; exact oV1.alloc _)
                    have nz : n6 ≠ n1 := (by rw [en]; omega)
                    rw [← eV, ← en]
                    clear eV en
                    refine wpAnyH_ready (rs := [4]) (by kernel_rfl) (by simp) ?_
                    refine AllReadyH.cons rfl (fun K hK => ?_) AllReadyH.nil
                    refine wp_append_own _ (.tmp 47) (.tmp 50) 22 rfl U0.heap.size 28 i0 (.agg #[.int .i64 0, .int .u64 0, .int .i64 0, .int .i64 0, .int .i64 0, .int .i64 0, .int .i64 0, .int .i64 0, .string ⟨#[]⟩]) 9 80 Tryd.underlying22 Hi.out Hz0.out Hz1.out Hz2.out rfl (by decide) (.slice (some ⟨n1, 0, none⟩) 0 0) 0 [] rfl (owns_base oV6 l1) ⟨g, 0, none⟩ k k (rowC bn (LL.take k)) rfl (by rw [rowC_length bn_len, TKL.out]) (fun j' u hj' => (by rw [Addr.add_mid, Nat.zero_add, cV6.cell (p := ⟨g, j', none⟩) gU, blk_cell kg]; exact row_head HCT.out TD.out hj')) (row_oneB _) (by unfold maxLen; omega) (by omega) cV6.size ?_
                    intro v7 V7 ho hg5 _
                    have bV7 : Below w.heap.size w V7 := bV6.grown hg5 bV6.size (fun k e => by have h9 := (oV6.lt k e).1; omega)
                    have cV7 : Below U0.heap.size U0 V7 := cV6.grown hg5 cV6.size (fun k e => by have h9 := (oV6.lt k e).1; omega)
                    have OV7 : V7.ownsRow U0.heap.size 28 9 v7 (LL.take k).length (rowC bn (LL.take k)) := (by have h9 := ho; rw [Nat.zero_add, List.nil_append] at h9; rw [TKL.out]; exact h9)
                    replace z6 := (blk_kept (hg5.block n6 u6 (fun e => by simp [Value.ownBlock] at e; omega))).trans z6
                    replace u6 := Nat.lt_of_lt_of_le u6 hg5.size
                    refine hK.out _ _ (range_below hbl HG.out bV7) (fun _ => ?_)
                    clear hK K
                    (try simp only [Act.put, List.setIfInBounds_toArray, List.set_cons_zero, List.set_cons_succ, List.getElem_toArray, List.getElem_cons_succ, List.getElem_cons_zero])
                    clear ho hg5
                    refine wpAnyH_ready (rs := [10]) (by kernel_rfl) (by simp) ?_
                    refine AllReadyH.cons rfl (fun K hK => ?_) AllReadyH.nil
                    refine wp_append_own _ (.tmp 51) (.tmp 56) 22 rfl U0.heap.size 28 i0 (.agg #[.int .i64 0, .int .u64 0, .int .i64 0, .int .i64 0, .int .i64 0, .int .i64 0, .int .i64 0, .int .i64 0, .string ⟨#[]⟩]) 9 80 Tryd.underlying22 Hi.out Hz0.out Hz1.out Hz2.out rfl (by decide) _ (LL.take k).length (rowC bn (LL.take k)) rfl OV7 ⟨n6, 0, none⟩ 1 1 (bn x) rfl rfl (fun j' u hj' => (by rw [Addr.add_mid, Nat.zero_add, blk_cell z6]; simpa using hj')) (bn_one _) (by rw [TKL.out]; unfold maxLen; omega) (by rw [TKL.out]; omega) cV7.size ?_
                    intro v8 V8 ho hg5 _
                    have bV8 : Below w.heap.size w V8 := bV7.grown hg5 bV7.size (fun k e => by have h9 := (OV7.lt k e).1; omega)
                    have cV8 : Below U0.heap.size U0 V8 := cV7.grown hg5 cV7.size (fun k e => (OV7.lt k e).1)
                    refine hK.out _ _ (range_below hbl HG.out bV8) (fun _ => ?_)
                    clear hK K
                    (try simp only [Act.put, List.setIfInBounds_toArray, List.set_cons_zero, List.set_cons_succ, List.getElem_toArray, List.getElem_cons_succ, List.getElem_cons_zero])
                    clear hg5
                    refine wpAnyH_ready (rs := [14]) (by kernel_rfl) (by simp) ?_
                    refine AllReadyH.cons rfl (fun K hK => ?_) AllReadyH.nil
                    refine wp_append_own _ (.tmp 57) (.tmp 60) 22 rfl U0.heap.size 28 i0 (.agg #[.int .i64 0, .int .u64 0, .int .i64 0, .int .i64 0, .int .i64 0, .int .i64 0, .int .i64 0, .int .i64 0, .string ⟨#[]⟩]) 9 80 Tryd.underlying22 Hi.out Hz0.out Hz1.out Hz2.out rfl (by decide) v8 ((LL.take k).length + 1) (rowC bn (LL.take k) ++ bn x) rfl ho ⟨g, 0, none⟩ 0 0 (rowC bn (LL.drop k)) rfl (by rw [rowC_length bn_len, LD.out]) (fun j' u hj' => by rw [DK.out] at hj'; simp [rowC] at hj') (row_oneB _) (by rw [TKL.out]; unfold maxLen; omega) (by rw [TKL.out]; omega) cV8.size ?_
                    intro v9 V9 ho2 hg6 _
                    have bV9 : Below w.heap.size w V9 := bV8.grown hg6 bV8.size (fun k e => by have h9 := (ho.lt k e).1; omega)
                    refine hK.out _ _ (range_below hbl HG.out bV9) (fun _ => ?_)
                    clear hK K
                    (try simp only [Act.put, List.setIfInBounds_toArray, List.set_cons_zero, List.set_cons_succ, List.getElem_toArray, List.getElem_cons_succ, List.getElem_cons_zero])
                    refine wpAnyH_take (i := 15) (oi := _) (v := ?_) rfl (by kernel_rfl) (by kernel_rfl) (by kernel_rfl) (fun _ _ _ h => h) (Or.inl ⟨by rfl, ?_⟩) (by assumption) ?_
                    rotate_left
                    focus (intro W hSw; (try dsimp only at hSw); go_simp; (try with_reducible rfl))
                    (try simp only [Act.put, List.setIfInBounds_toArray, List.set_cons_zero, List.set_cons_succ, List.getElem_toArray, List.getElem_cons_succ, List.getElem_cons_zero])
                    refine wpAnyH_done (by kernel_rfl) ?_ _
                    have hN : Hid (V9.ownsRow w.heap.size 28 9 v9 (isort ltB (l.take (j + 1))).length (rowC bn (isort ltB (l.take (j + 1))))) := Lib.hid (by
                      have h9 := owns_base ho2 (show w.heap.size ≤ U0.heap.size from sU)
                      rw [NEXT.out, show LL.take k ++ x :: LL.drop k = LL.take k ++ [x] ++ LL.drop k by simp, rowC_append, rowC_append, rowC_one, List.length_append, List.length_append, List.length_singleton, LD.out]
                      exact h9)
                    have bN := bV9
                    clear ho ho2 hg6
                    go_wp2
                    go_roundw
                    case rel => exact ⟨j + 1, by go_num, by omega, bN, hN⟩
                    case measure => simp [intOf]; omega
                  refine AllReadyH.cons rfl (fun K hK => ?_) AllReadyH.nil
                  go_simp
                  refine hK.out _ _ (range_below hbl HG.out (bU0.alloc bU0.size _)) (fun _ => ?_)
                  clear hK K
                  (try simp only [Act.put, List.setIfInBounds_toArray, List.set_cons_zero, List.set_cons_succ, List.getElem_toArray, List.getElem_cons_succ, List.getElem_cons_zero])
                  obtain ⟨V10, eV⟩ : ∃ v, v = U0.alloc (.cells #[.int .i64 x.no, .int .u64 x.sq, .int .i64 x.of, .int .i64 x.de, .int .i64 x.pr, .int .i64 x.bo, .int .i64 x.li, .int .i64 x.to, .string x.da] 28) := ⟨_, rfl⟩
                  obtain ⟨n10, en⟩ : ∃ v, v = U0.heap.size := ⟨_, rfl⟩
                  have bV10 : Below w.heap.size w V10 := (by rw [eV]; exact bU0.alloc bU0.size _)
                  have cV10 : Below U0.heap.size U0 V10 := (by rw [eV]; exact cU0.alloc cU0.size _)
                  have z10 : blk V10 n10 = some (bn x).toArray := (by rw [eV, en]; exact blk_alloc_new _ _ _ rfl)
                  have l10 : U0.heap.size ≤ n10 := (by rw [en]; exact cU0.size)
                  have u10 : n10 < V10.heap.size := (by rw [eV, en]; simp)
                  rw [← eV, ← en]
                  clear eV en
                  refine wpAnyH_ready (rs := [0]) (by kernel_rfl) (by simp) ?_
                  refine AllReadyH.cons rfl (fun K hK => ?_) AllReadyH.nil
                  go_simp
                  refine hK.out _ _ (range_below hbl HG.out (bV10.alloc bV10.size _)) (fun _ => ?_)
                  clear hK K
                  (try simp only [Act.put, List.setIfInBounds_toArray, List.set_cons_zero, List.set_cons_succ, List.getElem_toArray, List.getElem_cons_succ, List.getElem_cons_zero])
                  obtain ⟨V11, eV⟩ : ∃ v, v = V10.alloc (.cells #[] 28) := ⟨_, rfl⟩
                  obtain ⟨n11, en⟩ : ∃ v, v = V10.heap.size := ⟨_, rfl⟩
                  have bV11 : Below w.heap.size w V11 := (by rw [eV]; exact bV10.alloc bV10.size _)
                  have cV11 : Below U0.heap.size U0 V11 := (by rw [eV]; exact cV10.alloc cV10.size _)
                  have oV11 : V11.ownsRow n11 28 9 (.slice (some ⟨n11, 0, none⟩) 0 0) 0 [] := (by rw [eV, en]; exact own_empty9 _ _)
                  have l11 : U0.heap.size ≤ n11 := (by rw [en]; exact cV10.size)
                  have u11 : n11 < V11.heap.size := (by rw [eV, en]; simp)
                  have nz : n10 ≠ n11 := (by rw [en]; omega)
                  replace z10 := (by rw [eV]; exact blk_alloc z10 _ : blk V11 n10 = some (bn x).toArray)
                  replace u10 : n10 < V11.heap.size := (by rw [eV]; simp; omega)
                  rw [← eV, ← en]
                  clear eV en
                  refine wpAnyH_ready (rs := [4]) (by kernel_rfl) (by simp) ?_
                  refine AllReadyH.cons rfl (fun K hK => ?_) AllReadyH.nil
                  refine wp_append_own _ (.tmp 47) (.tmp 50) 22 rfl U0.heap.size 28 i0 (.agg #[.int .i64 0, .int .u64 0, .int .i64 0, .int .i64 0, .int .i64 0, .int .i64 0, .int .i64 0, .int .i64 0, .string ⟨#[]⟩]) 9 80 Tryd.underlying22 Hi.out Hz0.out Hz1.out Hz2.out rfl (by decide) (.slice (some ⟨n11, 0, none⟩) 0 0) 0 [] rfl (owns_base oV11 l11) ⟨g, 0, none⟩ k k (rowC bn (LL.take k)) rfl (by rw [rowC_length bn_len, TKL.out]) (fun j' u hj' => (by rw [Addr.add_mid, Nat.zero_add, cV11.cell (p := ⟨g, j', none⟩) gU, blk_cell kg]; exact row_head HCT.out TD.out hj')) (row_oneB _) (by unfold maxLen; omega) (by omega) cV11.size ?_
                  intro v12 V12 ho hg5 _
                  have bV12 : Below w.heap.size w V12 := bV11.grown hg5 bV11.size (fun k e => by have h9 := (oV11.lt k e).1; omega)
                  have cV12 : Below U0.heap.size U0 V12 := cV11.grown hg5 cV11.size (fun k e => by have h9 := (oV11.lt k e).1; omega)
                  have OV12 : V12.ownsRow U0.heap.size 28 9 v12 (LL.take k).length (rowC bn (LL.take k)) := (by have h9 := ho; rw [Nat.zero_add, List.nil_append] at h9; rw [TKL.out]; exact h9)
                  replace z10 := (blk_kept (hg5.block n10 u10 (fun e => by simp [Value.ownBlock] at e; omega))).trans z10
                  replace u10 := Nat.lt_of_lt_of_le u10 hg5.size
                  refine hK.out _ _ (range_below hbl HG.out bV12) (fun _ => ?_)
                  clear hK K
                  (try simp only [Act.put, List.setIfInBounds_toArray, List.set_cons_zero, List.set_cons_succ, List.getElem_toArray, List.getElem_cons_succ, List.getElem_cons_zero])
                  clear ho hg5
                  refine wpAnyH_ready (rs := [10]) (by kernel_rfl) (by simp) ?_
                  refine AllReadyH.cons rfl (fun K hK => ?_) AllReadyH.nil
                  refine wp_append_own _ (.tmp 51) (.tmp 56) 22 rfl U0.heap.size 28 i0 (.agg #[.int .i64 0, .int .u64 0, .int .i64 0, .int .i64 0, .int .i64 0, .int .i64 0, .int .i64 0, .int .i64 0, .string ⟨#[]⟩]) 9 80 Tryd.underlying22 Hi.out Hz0.out Hz1.out Hz2.out rfl (by decide) _ (LL.take k).length (rowC bn (LL.take k)) rfl OV12 ⟨n10, 0, none⟩ 1 1 (bn x) rfl rfl (fun j' u hj' => (by rw [Addr.add_mid, Nat.zero_add, blk_cell z10]; simpa using hj')) (bn_one _) (by rw [TKL.out]; unfold maxLen; omega) (by rw [TKL.out]; omega) cV12.size ?_
                  intro v13 V13 ho hg5 _
                  have bV13 : Below w.heap.size w V13 := bV12.grown hg5 bV12.size (fun k e => by have h9 := (OV12.lt k e).1; omega)
                  have cV13 : Below U0.heap.size U0 V13 := cV12.grown hg5 cV12.size (fun k e => (OV12.lt k e).1)
                  refine hK.out _ _ (range_below hbl HG.out bV13) (fun _ => ?_)
                  clear hK K
                  (try simp only [Act.put, List.setIfInBounds_toArray, List.set_cons_zero, List.set_cons_succ, List.getElem_toArray, List.getElem_cons_succ, List.getElem_cons_zero])
                  clear hg5
                  refine wpAnyH_ready (rs := [14]) (by kernel_rfl) (by simp) ?_
                  refine AllReadyH.cons rfl (fun K hK => ?_) AllReadyH.nil
                  refine wp_append_own _ (.tmp 57) (.tmp 60) 22 rfl U0.heap.size 28 i0 (.agg #[.int .i64 0, .int .u64 0, .int .i64 0, .int .i64 0, .int .i64 0, .int .i64 0, .int .i64 0, .int .i64 0, .string ⟨#[]⟩]) 9 80 Tryd.underlying22 Hi.out Hz0.out Hz1.out Hz2.out rfl (by decide) v13 ((LL.take k).length + 1) (rowC bn (LL.take k) ++ bn x) rfl ho ⟨g, 0, none⟩ 0 0 (rowC bn (LL.drop k)) rfl (by rw [rowC_length bn_len, LD.out]) (fun j' u hj' => by rw [DK.out] at hj'; simp [rowC] at hj') (row_oneB _) (by rw [TKL.out]; unfold maxLen; omega) (by rw [TKL.out]; omega) cV13.size ?_
                  intro v14 V14 ho2 hg6 _
                  have bV14 : Below w.heap.size w V14 := bV13.grown hg6 bV13.size (fun k e => by have h9 := (ho.lt k e).1; omega)
                  refine hK.out _ _ (range_below hbl HG.out bV14) (fun _ => ?_)
                  clear hK K
                  (try simp only [Act.put, List.setIfInBounds_toArray, List.set_cons_zero, List.set_cons_succ, List.getElem_toArray, List.getElem_cons_succ, List.getElem_cons_zero])
                  refine wpAnyH_take (i := 15) (oi := _) (v := ?_) rfl (by kernel_rfl) (by kernel_rfl) (by kernel_rfl) (fun _ _ _ h => h) (Or.inl ⟨by rfl, ?_⟩) (by assumption) ?_
                  rotate_left
                  focus (intro W hSw; (try dsimp only at hSw); go_simp; (try with_reducible rfl))
                  (try simp only [Act.put, List.setIfInBounds_toArray, List.set_cons_zero, List.set_cons_succ, List.getElem_toArray, List.getElem_cons_succ, List.getElem_cons_zero])
                  refine wpAnyH_done (by kernel_rfl) ?_ _
                  have hN : Hid (V14.ownsRow w.heap.size 28 9 v14 (isort ltB (l.take (j + 1))).length (rowC bn (isort ltB (l.take (j + 1))))) := Lib.hid (by
                    have h9 := owns_base ho2 (show w.heap.size ≤ U0.heap.size from sU)
                    rw [NEXT.out, show LL.take k ++ x :: LL.drop k = LL.take k ++ [x] ++ LL.drop k by simp, rowC_append, rowC_append, rowC_one, List.length_append, List.length_append, List.length_singleton, LD.out]
                    exact h9)
                  have bN := bV14
                  clear ho ho2 hg6
                  go_wp2
                  go_roundw
                  case rel => exact ⟨j + 1, by go_num, by omega, bN, hN⟩
                  case measure => simp [intOf]; omega
                · have hkc2 : ¬ (co = k) := fun h => hkc h.symm
                  have hco1 : ¬ (co = 0) := by omega
                  have hkco : k ≤ co := by omega
                  have hU : Below w.heap.size w U := hb3.trans (hBU.mono sV)
                  have kgU := blk_below hBU hbg
                  have HCT := Lib.hid hct
                  have TKL : Hid ((LL.take k).length = k) := Lib.hid (by rw [List.length_take]; omega)
                  have TD : Hid (LL = LL.take k ++ LL.drop k) := Lib.hid (List.take_append_drop k LL).symm
                  have LD : Hid ((LL.drop k).length = LL.length - k) := Lib.hid (by rw [List.length_drop])
                  have NEXT := Lib.hid (KEYI.out k hk DR.out GL)
                  clear GL hct hcs hbg
                  clear hBU
                  go_wp2_with fail
                  refine wp_region_held_drew (S := fun W => W.rangeAt b (off + j * 9) (bn x)) (by kernel_rfl) (range_below hbl HG.out hU.drew) (fun hHeld => ?_)
                  obtain ⟨U0, eU⟩ : ∃ v, v = U.drew := ⟨_, rfl⟩
                  have bU0 : Below w.heap.size w U0 := (by rw [eU]; exact hU.drew)
                  have cU0 : Below U0.heap.size U0 U0 := Below.refl _ _
                  have sU := bU0.size
                  have kg : blk U0 g = some cur := (by rw [eU]; exact blk_drew kgU)
                  have gU := blk_lt kg
                  clear kgU
                  rw [← eU] at hHeld ⊢
                  clear eU hU
                  refine wpAnyH_take (i := 1) (oi := _) (v := ?_) rfl (by kernel_rfl) (by kernel_rfl) (by kernel_rfl) (fun _ _ _ h => h) (Or.inl ⟨by rfl, ?_⟩) (by assumption) ?_
                  rotate_left
                  focus (intro W hSw; (try dsimp only at hSw); go_simp; (try with_reducible rfl))
                  (try simp only [Act.put, List.setIfInBounds_toArray, List.set_cons_zero, List.set_cons_succ, List.getElem_toArray, List.getElem_cons_succ, List.getElem_cons_zero])
                  refine wpAnyH_take (i := 2) (oi := _) (v := ?_) rfl (by kernel_rfl) (by kernel_rfl) (by kernel_rfl) (fun _ _ _ h => h) (Or.inl ⟨by rfl, ?_⟩) (by assumption) ?_
                  rotate_left
                  focus (intro W hSw; (try dsimp only at hSw); go_simp; (try with_reducible rfl))
                  (try simp only [Act.put, List.setIfInBounds_toArray, List.set_cons_zero, List.set_cons_succ, List.getElem_toArray, List.getElem_cons_succ, List.getElem_cons_zero])
                  refine wpAnyH_take (i := 3) (oi := _) (v := ?_) rfl (by kernel_rfl) (by kernel_rfl) (by kernel_rfl) (fun _ _ _ h => h) (Or.inl ⟨by rfl, ?_⟩) (by assumption) ?_
                  rotate_left
                  focus (intro W hSw; (try dsimp only at hSw); go_simp; (try with_reducible rfl))
                  (try simp only [Act.put, List.setIfInBounds_toArray, List.set_cons_zero, List.set_cons_succ, List.getElem_toArray, List.getElem_cons_succ, List.getElem_cons_zero])
                  refine wpAnyH_take (i := 5) (oi := _) (v := ?_) rfl (by kernel_rfl) (by kernel_rfl) (by kernel_rfl) (fun _ _ _ h => h) (Or.inl ⟨by rfl, ?_⟩) (by assumption) ?_
                  rotate_left
                  focus (intro W hSw; (try dsimp only at hSw); go_simp; (try with_reducible rfl))
                  (try simp only [Act.put, List.setIfInBounds_toArray, List.set_cons_zero, List.set_cons_succ, List.getElem_toArray, List.getElem_cons_succ, List.getElem_cons_zero])
                  refine wpAnyH_take (i := 6) (oi := _) (v := ?_) rfl (by kernel_rfl) (by kernel_rfl) (by kernel_rfl) (fun _ _ _ h => h) (Or.inl ⟨by rfl, ?_⟩) (by assumption) ?_
                  rotate_left
                  focus (intro W hSw; (try dsimp only at hSw); go_simp; (try with_reducible rfl))
                  (try simp only [Act.put, List.setIfInBounds_toArray, List.set_cons_zero, List.set_cons_succ, List.getElem_toArray, List.getElem_cons_succ, List.getElem_cons_zero])
                  refine wpAnyH_take (i := 7) (oi := _) (v := ?_) rfl (by kernel_rfl) (by kernel_rfl) (by kernel_rfl) (fun _ _ _ h => h) (Or.inl ⟨by rfl, ?_⟩) (by assumption) ?_
                  rotate_left
                  focus (intro W hSw; (try dsimp only at hSw); go_simp; (try with_reducible rfl))
                  (try simp only [Act.put, List.setIfInBounds_toArray, List.set_cons_zero, List.set_cons_succ, List.getElem_toArray, List.getElem_cons_succ, List.getElem_cons_zero])
                  refine wpAnyH_take (i := 8) (oi := _) (v := .agg #[.int .i64 x.no, .int .u64 x.sq, .int .i64 x.of, .int .i64 x.de, .int .i64 x.pr, .int .i64 x.bo, .int .i64 x.li, .int .i64 x.to, .string x.da]) rfl (by kernel_rfl) (by kernel_rfl) (by kernel_rfl) (fun _ _ _ h => h) (Or.inl ⟨by rfl, ?_⟩) (by assumption) ?_
                  focus (intro W hSw; exact load_runB 28 (.tmp 54) b (off + j * 9) (bn x) _ rfl rfl W hSw Tryd.underlying28 rfl (by kernel_rfl))
                  (try simp only [Act.put, List.setIfInBounds_toArray, List.set_cons_zero, List.set_cons_succ, List.getElem_toArray, List.getElem_cons_succ, List.getElem_cons_zero])
                  refine wpAnyH_take (i := 11) (oi := _) (v := ?_) rfl (by kernel_rfl) (by kernel_rfl) (by kernel_rfl) (fun _ _ _ h => h) (Or.inl ⟨by rfl, ?_⟩) (by assumption) ?_
                  rotate_left
                  focus (intro W hSw; (try dsimp only at hSw); go_simp; (try with_reducible rfl))
                  (try simp only [Act.put, List.setIfInBounds_toArray, List.set_cons_zero, List.set_cons_succ, List.getElem_toArray, List.getElem_cons_succ, List.getElem_cons_zero])
                  refine wpAnyH_take (i := 12) (oi := _) (v := ?_) rfl (by kernel_rfl) (by kernel_rfl) (by kernel_rfl) (fun _ _ _ h => h) (Or.inl ⟨by rfl, ?_⟩) (by assumption) ?_
                  rotate_left
                  focus (intro W hSw; (try dsimp only at hSw); go_simp; (try with_reducible rfl))
                  (try simp only [Act.put, List.setIfInBounds_toArray, List.set_cons_zero, List.set_cons_succ, List.getElem_toArray, List.getElem_cons_succ, List.getElem_cons_zero])
                  refine wpAnyH_take (i := 13) (oi := _) (v := ?_) rfl (by kernel_rfl) (by kernel_rfl) (by kernel_rfl) (fun _ _ _ h => h) (Or.inl ⟨by rfl, ?_⟩) (by assumption) ?_
                  rotate_left
                  focus (intro W hSw; (try dsimp only at hSw); go_simp; (try with_reducible rfl))
                  (try simp only [Act.put, List.setIfInBounds_toArray, List.set_cons_zero, List.set_cons_succ, List.getElem_toArray, List.getElem_cons_succ, List.getElem_cons_zero])
                  refine wpAnyH_ready (rs := [0, 9]) (by kernel_rfl) (by simp) ?_
                  refine AllReadyH.cons rfl (fun K hK => ?_) ?_
                  · skip
                    go_simp
                    refine hK.out _ _ (range_below hbl HG.out (bU0.alloc bU0.size _)) (fun _ => ?_)
                    clear hK K
                    (try simp only [Act.put, List.setIfInBounds_toArray, List.set_cons_zero, List.set_cons_succ, List.getElem_toArray, List.getElem_cons_succ, List.getElem_cons_zero])
                    obtain ⟨V1, eV⟩ : ∃ v, v = U0.alloc (.cells #[] 28) := ⟨_, rfl⟩
                    obtain ⟨n1, en⟩ : ∃ v, v = U0.heap.size := ⟨_, rfl⟩
                    have bV1 : Below w.heap.size w V1 := (by rw [eV]; exact bU0.alloc bU0.size _)
                    have cV1 : Below U0.heap.size U0 V1 := (by rw [eV]; exact cU0.alloc cU0.size _)
                    have oV1 : V1.ownsRow n1 28 9 (.slice (some ⟨n1, 0, none⟩) 0 0) 0 [] := (by rw [eV, en]; exact own_empty9 _ _)
                    have l1 : U0.heap.size ≤ n1 := (by rw [en]; exact cU0.size)
                    have u1 : n1 < V1.heap.size := (by rw [eV, en]; simp)
                    rw [← eV, ← en]
                    clear eV en
                    refine wpAnyH_ready (rs := [4, 9]) (by kernel_rfl) (by simp) ?_
                    refine AllReadyH.cons rfl (fun K hK => ?_) ?_
                    · skip
                      refine wp_append_own _ (.tmp 47) (.tmp 50) 22 rfl U0.heap.size 28 i0 (.agg #[.int .i64 0, .int .u64 0, .int .i64 0, .int .i64 0, .int .i64 0, .int .i64 0, .int .i64 0, .int .i64 0, .string ⟨#[]⟩]) 9 80 Tryd.underlying22 Hi.out Hz0.out Hz1.out Hz2.out rfl (by decide) (.slice (some ⟨n1, 0, none⟩) 0 0) 0 [] rfl (owns_base oV1 l1) ⟨g, 0, none⟩ k co (rowC bn (LL.take k)) rfl (by rw [rowC_length bn_len, TKL.out]) (fun j' u hj' => (by rw [Addr.add_mid, Nat.zero_add, cV1.cell (p := ⟨g, j', none⟩) gU, blk_cell kg]; exact row_head HCT.out TD.out hj')) (row_oneB _) (by unfold maxLen; omega) (by omega) cV1.size ?_
                      intro v2 V2 ho hg5 _
                      have bV2 : Below w.heap.size w V2 := bV1.grown hg5 bV1.size (fun k e => by have h9 := (oV1.lt k e).1; omega)
                      have cV2 : Below U0.heap.size U0 V2 := cV1.grown hg5 cV1.size (fun k e => by have h9 := (oV1.lt k e).1; omega)
                      have OV2 : V2.ownsRow U0.heap.size 28 9 v2 (LL.take k).length (rowC bn (LL.take k)) := (by have h9 := ho; rw [Nat.zero_add, List.nil_append] at h9; rw [TKL.out]; exact h9)
                      refine hK.out _ _ (range_below hbl HG.out bV2) (fun _ => ?_)
                      clear hK K
                      (try simp only [Act.put, List.setIfInBounds_toArray, List.set_cons_zero, List.set_cons_succ, List.getElem_toArray, List.getElem_cons_succ, List.getElem_cons_zero])
                      clear ho hg5
                      refine wpAnyH_ready (rs := [9]) (by kernel_rfl) (by simp) ?_
                      refine AllReadyH.cons rfl (fun K hK => ?_) AllReadyH.nil
                      go_simp
                      refine hK.out _ _ (range_below hbl HG.out (bV2.alloc bV2.size _)) (fun _ => ?_)
                      clear hK K
                      (try simp only [Act.put, List.setIfInBounds_toArray, List.set_cons_zero, List.set_cons_succ, List.getElem_toArray, List.getElem_cons_succ, List.getElem_cons_zero])
                      obtain ⟨V3, eV⟩ : ∃ v, v = V2.alloc (.cells #[.int .i64 x.no, .int .u64 x.sq, .int .i64 x.of, .int .i64 x.de, .int .i64 x.pr, .int .i64 x.bo, .int .i64 x.li, .int .i64 x.to, .string x.da] 28) := ⟨_, rfl⟩
                      obtain ⟨n3, en⟩ : ∃ v, v = V2.heap.size := ⟨_, rfl⟩
                      have bV3 : Below w.heap.size w V3 := (by rw [eV]; exact bV2.alloc bV2.size _)
                      have cV3 : Below U0.heap.size U0 V3 := (by rw [eV]; exact cV2.alloc cV2.size _)
                      have z3 : blk V3 n3 = some (bn x).toArray := (by rw [eV, en]; exact blk_alloc_new _ _ _ rfl)
                      have l3 : U0.heap.size ≤ n3 := (by rw [en]; exact cV2.size)
                      have u3 : n3 < V3.heap.size := (by rw [eV, en]; simp)
                      have OV3 : V3.ownsRow U0.heap.size 28 9 _ (LL.take k).length (rowC bn (LL.take k)) := (by rw [eV]; exact OV2.alloc _)
                      rw [← eV, ← en]
                      clear eV en
                      refine wpAnyH_ready (rs := [10]) (by kernel_rfl) (by simp) ?_
                      refine AllReadyH.cons rfl (fun K hK => ?_) AllReadyH.nil
                      refine wp_append_own _ (.tmp 51) (.tmp 56) 22 rfl U0.heap.size 28 i0 (.agg #[.int .i64 0, .int .u64 0, .int .i64 0, .int .i64 0, .int .i64 0, .int .i64 0, .int .i64 0, .int .i64 0, .string ⟨#[]⟩]) 9 80 Tryd.underlying22 Hi.out Hz0.out Hz1.out Hz2.out rfl (by decide) _ (LL.take k).length (rowC bn (LL.take k)) rfl OV3 ⟨n3, 0, none⟩ 1 1 (bn x) rfl rfl (fun j' u hj' => (by rw [Addr.add_mid, Nat.zero_add, blk_cell z3]; simpa using hj')) (bn_one _) (by rw [TKL.out]; unfold maxLen; omega) (by rw [TKL.out]; omega) cV3.size ?_
                      intro v4 V4 ho hg5 _
                      have bV4 : Below w.heap.size w V4 := bV3.grown hg5 bV3.size (fun k e => by have h9 := (OV3.lt k e).1; omega)
                      have cV4 : Below U0.heap.size U0 V4 := cV3.grown hg5 cV3.size (fun k e => (OV3.lt k e).1)
                      refine hK.out _ _ (range_below hbl HG.out bV4) (fun _ => ?_)
                      clear hK K
                      (try simp only [Act.put, List.setIfInBounds_toArray, List.set_cons_zero, List.set_cons_succ, List.getElem_toArray, List.getElem_cons_succ, List.getElem_cons_zero])
                      clear hg5
                      refine wpAnyH_ready (rs := [14]) (by kernel_rfl) (by simp) ?_
                      refine AllReadyH.cons rfl (fun K hK => ?_) AllReadyH.nil
                      refine wp_append_own _ (.tmp 57) (.tmp 60) 22 rfl U0.heap.size 28 i0 (.agg #[.int .i64 0, .int .u64 0, .int .i64 0, .int .i64 0, .int .i64 0, .int .i64 0, .int .i64 0, .int .i64 0, .string ⟨#[]⟩]) 9 80 Tryd.underlying22 Hi.out Hz0.out Hz1.out Hz2.out rfl (by decide) v4 ((LL.take k).length + 1) (rowC bn (LL.take k) ++ bn x) rfl ho ⟨g, k * 9, none⟩ (LL.length - k) (co - k) (rowC bn (LL.drop k)) rfl (by rw [rowC_length bn_len, LD.out]) (fun j' u hj' => (by rw [Addr.add_mid, cV4.cell (p := ⟨g, k * 9 + j', none⟩) gU, blk_cell kg]; have h9 := row_tail HCT.out TD.out hj'; rw [TKL.out] at h9; exact h9)) (row_oneB _) (by rw [TKL.out]; unfold maxLen; omega) (by rw [TKL.out]; omega) cV4.size ?_
                      intro v5 V5 ho2 hg6 _
                      have bV5 : Below w.heap.size w V5 := bV4.grown hg6 bV4.size (fun k e => by have h9 := (ho.lt k e).1; omega)
                      refine hK.out _ _ (range_below hbl HG.out bV5) (fun _ => ?_)
                      clear hK K
                      (try simp only [Act.put, List.setIfInBounds_toArray, List.set_cons_zero, List.set_cons_succ, List.getElem_toArray, List.getElem_cons_succ, List.getElem_cons_zero])
                      refine wpAnyH_take (i := 15) (oi := _) (v := ?_) rfl (by kernel_rfl) (by kernel_rfl) (by kernel_rfl) (fun _ _ _ h => h) (Or.inl ⟨by rfl, ?_⟩) (by assumption) ?_
                      rotate_left
                      focus (intro W hSw; (try dsimp only at hSw); go_simp; (try with_reducible rfl))
                      (try simp only [Act.put, List.setIfInBounds_toArray, List.set_cons_zero, List.set_cons_succ, List.getElem_toArray, List.getElem_cons_succ, List.getElem_cons_zero])
                      refine wpAnyH_done (by kernel_rfl) ?_ _
                      have hN : Hid (V5.ownsRow w.heap.size 28 9 v5 (isort ltB (l.take (j + 1))).length (rowC bn (isort ltB (l.take (j + 1))))) := Lib.hid (by
                        have h9 := owns_base ho2 (show w.heap.size ≤ U0.heap.size from sU)
                        rw [NEXT.out, show LL.take k ++ x :: LL.drop k = LL.take k ++ [x] ++ LL.drop k by simp, rowC_append, rowC_append, rowC_one, List.length_append, List.length_append, List.length_singleton, LD.out]
                        exact h9)
                      have bN := bV5
                      clear ho ho2 hg6
                      go_wp2
                      go_roundw
                      case rel => exact ⟨j + 1, by go_num, by omega, bN, hN⟩
                      case measure => simp [intOf]; omega
                    refine AllReadyH.cons rfl (fun K hK => ?_) AllReadyH.nil
                    go_simp
                    refine hK.out _ _ (range_below hbl HG.out (bV1.alloc bV1.size _)) (fun _ => ?_)
                    clear hK K
                    (try simp only [Act.put, List.setIfInBounds_toArray, List.set_cons_zero, List.set_cons_succ, List.getElem_toArray, List.getElem_cons_succ, List.getElem_cons_zero])
                    obtain ⟨V6, eV⟩ : ∃ v, v = V1.alloc (.cells #[.int .i64 x.no, .int .u64 x.sq, .int .i64 x.of, .int .i64 x.de, .int .i64 x.pr, .int .i64 x.bo, .int .i64 x.li, .int .i64 x.to, .string x.da] 28) := ⟨_, rfl⟩
                    obtain ⟨n6, en⟩ : ∃ v, v = V1.heap.size := ⟨_, rfl⟩
                    have bV6 : Below w.heap.size w V6 := (by rw [eV]; exact bV1.alloc bV1.size _)
                    have cV6 : Below U0.heap.size U0 V6 := (by rw [eV]; exact cV1.alloc cV1.size _)
                    have z6 : blk V6 n6 = some (bn x).toArray := (by rw [eV, en]; exact blk_alloc_new _ _ _ rfl)
                    have l6 : U0.heap.size ≤ n6 := (by rw [en]; exact cV1.size)
                    have u6 : n6 < V6.heap.size := (by rw [eV, en]; simp)
                    have oV6 : V6.ownsRow n1 28 9 (.slice (some ⟨n1, 0, none⟩) 0 0) 0 [] := (by rw [eV]; exact oV1.alloc _)
                    have nz : n6 ≠ n1 := (by rw [en]; omega)
                    rw [← eV, ← en]
                    clear eV en
                    refine wpAnyH_ready (rs := [4]) (by kernel_rfl) (by simp) ?_
                    refine AllReadyH.cons rfl (fun K hK => ?_) AllReadyH.nil
                    refine wp_append_own _ (.tmp 47) (.tmp 50) 22 rfl U0.heap.size 28 i0 (.agg #[.int .i64 0, .int .u64 0, .int .i64 0, .int .i64 0, .int .i64 0, .int .i64 0, .int .i64 0, .int .i64 0, .string ⟨#[]⟩]) 9 80 Tryd.underlying22 Hi.out Hz0.out Hz1.out Hz2.out rfl (by decide) (.slice (some ⟨n1, 0, none⟩) 0 0) 0 [] rfl (owns_base oV6 l1) ⟨g, 0, none⟩ k co (rowC bn (LL.take k)) rfl (by rw [rowC_length bn_len, TKL.out]) (fun j' u hj' => (by rw [Addr.add_mid, Nat.zero_add, cV6.cell (p := ⟨g, j', none⟩) gU, blk_cell kg]; exact row_head HCT.out TD.out hj')) (row_oneB _) (by unfold maxLen; omega) (by omega) cV6.size ?_
                    intro v7 V7 ho hg5 _
                    have bV7 : Below w.heap.size w V7 := bV6.grown hg5 bV6.size (fun k e => by have h9 := (oV6.lt k e).1; omega)
                    have cV7 : Below U0.heap.size U0 V7 := cV6.grown hg5 cV6.size (fun k e => by have h9 := (oV6.lt k e).1; omega)
                    have OV7 : V7.ownsRow U0.heap.size 28 9 v7 (LL.take k).length (rowC bn (LL.take k)) := (by have h9 := ho; rw [Nat.zero_add, List.nil_append] at h9; rw [TKL.out]; exact h9)
                    replace z6 := (blk_kept (hg5.block n6 u6 (fun e => by simp [Value.ownBlock] at e; omega))).trans z6
                    replace u6 := Nat.lt_of_lt_of_le u6 hg5.size
                    refine hK.out _ _ (range_below hbl HG.out bV7) (fun _ => ?_)
                    clear hK K
                    (try simp only [Act.put, List.setIfInBounds_toArray, List.set_cons_zero, List.set_cons_succ, List.getElem_toArray, List.getElem_cons_succ, List.getElem_cons_zero])
                    clear ho hg5
                    refine wpAnyH_ready (rs := [10]) (by kernel_rfl) (by simp) ?_
                    refine AllReadyH.cons rfl (fun K hK => ?_) AllReadyH.nil
                    refine wp_append_own _ (.tmp 51) (.tmp 56) 22 rfl U0.heap.size 28 i0 (.agg #[.int .i64 0, .int .u64 0, .int .i64 0, .int .i64 0, .int .i64 0, .int .i64 0, .int .i64 0, .int .i64 0, .string ⟨#[]⟩]) 9 80 Tryd.underlying22 Hi.out Hz0.out Hz1.out Hz2.out rfl (by decide) _ (LL.take k).length (rowC bn (LL.take k)) rfl OV7 ⟨n6, 0, none⟩ 1 1 (bn x) rfl rfl (fun j' u hj' => (by rw [Addr.add_mid, Nat.zero_add, blk_cell z6]; simpa using hj')) (bn_one _) (by rw [TKL.out]; unfold maxLen; omega) (by rw [TKL.out]; omega) cV7.size ?_
                    intro v8 V8 ho hg5 _
                    have bV8 : Below w.heap.size w V8 := bV7.grown hg5 bV7.size (fun k e => by have h9 := (OV7.lt k e).1; omega)
                    have cV8 : Below U0.heap.size U0 V8 := cV7.grown hg5 cV7.size (fun k e => (OV7.lt k e).1)
                    refine hK.out _ _ (range_below hbl HG.out bV8) (fun _ => ?_)
                    clear hK K
                    (try simp only [Act.put, List.setIfInBounds_toArray, List.set_cons_zero, List.set_cons_succ, List.getElem_toArray, List.getElem_cons_succ, List.getElem_cons_zero])
                    clear hg5
                    refine wpAnyH_ready (rs := [14]) (by kernel_rfl) (by simp) ?_
                    refine AllReadyH.cons rfl (fun K hK => ?_) AllReadyH.nil
                    refine wp_append_own _ (.tmp 57) (.tmp 60) 22 rfl U0.heap.size 28 i0 (.agg #[.int .i64 0, .int .u64 0, .int .i64 0, .int .i64 0, .int .i64 0, .int .i64 0, .int .i64 0, .int .i64 0, .string ⟨#[]⟩]) 9 80 Tryd.underlying22 Hi.out Hz0.out Hz1.out Hz2.out rfl (by decide) v8 ((LL.take k).length + 1) (rowC bn (LL.take k) ++ bn x) rfl ho ⟨g, k * 9, none⟩ (LL.length - k) (co - k) (rowC bn (LL.drop k)) rfl (by rw [rowC_length bn_len, LD.out]) (fun j' u hj' => (by rw [Addr.add_mid, cV8.cell (p := ⟨g, k * 9 + j', none⟩) gU, blk_cell kg]; have h9 := row_tail HCT.out TD.out hj'; rw [TKL.out] at h9; exact h9)) (row_oneB _) (by rw [TKL.out]; unfold maxLen; omega) (by rw [TKL.out]; omega) cV8.size ?_
                    intro v9 V9 ho2 hg6 _
                    have bV9 : Below w.heap.size w V9 := bV8.grown hg6 bV8.size (fun k e => by have h9 := (ho.lt k e).1; omega)
                    refine hK.out _ _ (range_below hbl HG.out bV9) (fun _ => ?_)
                    clear hK K
                    (try simp only [Act.put, List.setIfInBounds_toArray, List.set_cons_zero, List.set_cons_succ, List.getElem_toArray, List.getElem_cons_succ, List.getElem_cons_zero])
                    refine wpAnyH_take (i := 15) (oi := _) (v := ?_) rfl (by kernel_rfl) (by kernel_rfl) (by kernel_rfl) (fun _ _ _ h => h) (Or.inl ⟨by rfl, ?_⟩) (by assumption) ?_
                    rotate_left
                    focus (intro W hSw; (try dsimp only at hSw); go_simp; (try with_reducible rfl))
                    (try simp only [Act.put, List.setIfInBounds_toArray, List.set_cons_zero, List.set_cons_succ, List.getElem_toArray, List.getElem_cons_succ, List.getElem_cons_zero])
                    refine wpAnyH_done (by kernel_rfl) ?_ _
                    have hN : Hid (V9.ownsRow w.heap.size 28 9 v9 (isort ltB (l.take (j + 1))).length (rowC bn (isort ltB (l.take (j + 1))))) := Lib.hid (by
                      have h9 := owns_base ho2 (show w.heap.size ≤ U0.heap.size from sU)
                      rw [NEXT.out, show LL.take k ++ x :: LL.drop k = LL.take k ++ [x] ++ LL.drop k by simp, rowC_append, rowC_append, rowC_one, List.length_append, List.length_append, List.length_singleton, LD.out]
                      exact h9)
                    have bN := bV9
                    clear ho ho2 hg6
                    go_wp2
                    go_roundw
                    case rel => exact ⟨j + 1, by go_num, by omega, bN, hN⟩
                    case measure => simp [intOf]; omega
                  refine AllReadyH.cons rfl (fun K hK => ?_) AllReadyH.nil
                  go_simp
                  refine hK.out _ _ (range_below hbl HG.out (bU0.alloc bU0.size _)) (fun _ => ?_)
                  clear hK K
                  (try simp only [Act.put, List.setIfInBounds_toArray, List.set_cons_zero, List.set_cons_succ, List.getElem_toArray, List.getElem_cons_succ, List.getElem_cons_zero])
                  obtain ⟨V10, eV⟩ : ∃ v, v = U0.alloc (.cells #[.int .i64 x.no, .int .u64 x.sq, .int .i64 x.of, .int .i64 x.de, .int .i64 x.pr, .int .i64 x.bo, .int .i64 x.li, .int .i64 x.to, .string x.da] 28) := ⟨_, rfl⟩
                  obtain ⟨n10, en⟩ : ∃ v, v = U0.heap.size := ⟨_, rfl⟩
                  have bV10 : Below w.heap.size w V10 := (by rw [eV]; exact bU0.alloc bU0.size _)
                  have cV10 : Below U0.heap.size U0 V10 := (by rw [eV]; exact cU0.alloc cU0.size _)
                  have z10 : blk V10 n10 = some (bn x).toArray := (by rw [eV, en]; exact blk_alloc_new _ _ _ rfl)
                  have l10 : U0.heap.size ≤ n10 := (by rw [en]; exact cU0.size)
                  have u10 : n10 < V10.heap.size := (by rw [eV, en]; simp)
                  rw [← eV, ← en]
                  clear eV en
                  refine wpAnyH_ready (rs := [0]) (by kernel_rfl) (by simp) ?_
                  refine AllReadyH.cons rfl (fun K hK => ?_) AllReadyH.nil
                  go_simp
                  refine hK.out _ _ (range_below hbl HG.out (bV10.alloc bV10.size _)) (fun _ => ?_)
                  clear hK K
                  (try simp only [Act.put, List.setIfInBounds_toArray, List.set_cons_zero, List.set_cons_succ, List.getElem_toArray, List.getElem_cons_succ, List.getElem_cons_zero])
                  obtain ⟨V11, eV⟩ : ∃ v, v = V10.alloc (.cells #[] 28) := ⟨_, rfl⟩
                  obtain ⟨n11, en⟩ : ∃ v, v = V10.heap.size := ⟨_, rfl⟩
                  have bV11 : Below w.heap.size w V11 := (by rw [eV]; exact bV10.alloc bV10.size _)
                  have cV11 : Below U0.heap.size U0 V11 := (by rw [eV]; exact cV10.alloc cV10.size _)
                  have oV11 : V11.ownsRow n11 28 9 (.slice (some ⟨n11, 0, none⟩) 0 0) 0 [] := (by rw [eV, en]; exact own_empty9 _ _)
                  have l11 : U0.heap.size ≤ n11 := (by rw [en]; exact cV10.size)
                  have u11 : n11 < V11.heap.size := (by rw [eV, en]; simp)
                  have nz : n10 ≠ n11 := (by rw [en]; omega)
                  replace z10 := (by rw [eV]; exact blk_alloc z10 _ : blk V11 n10 = some (bn x).toArray)
                  replace u10 : n10 < V11.heap.size := (by rw [eV]; simp; omega)
                  rw [← eV, ← en]
                  clear eV en
                  refine wpAnyH_ready (rs := [4]) (by kernel_rfl) (by simp) ?_
                  refine AllReadyH.cons rfl (fun K hK => ?_) AllReadyH.nil
                  refine wp_append_own _ (.tmp 47) (.tmp 50) 22 rfl U0.heap.size 28 i0 (.agg #[.int .i64 0, .int .u64 0, .int .i64 0, .int .i64 0, .int .i64 0, .int .i64 0, .int .i64 0, .int .i64 0, .string ⟨#[]⟩]) 9 80 Tryd.underlying22 Hi.out Hz0.out Hz1.out Hz2.out rfl (by decide) (.slice (some ⟨n11, 0, none⟩) 0 0) 0 [] rfl (owns_base oV11 l11) ⟨g, 0, none⟩ k co (rowC bn (LL.take k)) rfl (by rw [rowC_length bn_len, TKL.out]) (fun j' u hj' => (by rw [Addr.add_mid, Nat.zero_add, cV11.cell (p := ⟨g, j', none⟩) gU, blk_cell kg]; exact row_head HCT.out TD.out hj')) (row_oneB _) (by unfold maxLen; omega) (by omega) cV11.size ?_
                  intro v12 V12 ho hg5 _
                  have bV12 : Below w.heap.size w V12 := bV11.grown hg5 bV11.size (fun k e => by have h9 := (oV11.lt k e).1; omega)
                  have cV12 : Below U0.heap.size U0 V12 := cV11.grown hg5 cV11.size (fun k e => by have h9 := (oV11.lt k e).1; omega)
                  have OV12 : V12.ownsRow U0.heap.size 28 9 v12 (LL.take k).length (rowC bn (LL.take k)) := (by have h9 := ho; rw [Nat.zero_add, List.nil_append] at h9; rw [TKL.out]; exact h9)
                  replace z10 := (blk_kept (hg5.block n10 u10 (fun e => by simp [Value.ownBlock] at e; omega))).trans z10
                  replace u10 := Nat.lt_of_lt_of_le u10 hg5.size
                  refine hK.out _ _ (range_below hbl HG.out bV12) (fun _ => ?_)
                  clear hK K
                  (try simp only [Act.put, List.setIfInBounds_toArray, List.set_cons_zero, List.set_cons_succ, List.getElem_toArray, List.getElem_cons_succ, List.getElem_cons_zero])
                  clear ho hg5
                  refine wpAnyH_ready (rs := [10]) (by kernel_rfl) (by simp) ?_
                  refine AllReadyH.cons rfl (fun K hK => ?_) AllReadyH.nil
                  refine wp_append_own _ (.tmp 51) (.tmp 56) 22 rfl U0.heap.size 28 i0 (.agg #[.int .i64 0, .int .u64 0, .int .i64 0, .int .i64 0, .int .i64 0, .int .i64 0, .int .i64 0, .int .i64 0, .string ⟨#[]⟩]) 9 80 Tryd.underlying22 Hi.out Hz0.out Hz1.out Hz2.out rfl (by decide) _ (LL.take k).length (rowC bn (LL.take k)) rfl OV12 ⟨n10, 0, none⟩ 1 1 (bn x) rfl rfl (fun j' u hj' => (by rw [Addr.add_mid, Nat.zero_add, blk_cell z10]; simpa using hj')) (bn_one _) (by rw [TKL.out]; unfold maxLen; omega) (by rw [TKL.out]; omega) cV12.size ?_
                  intro v13 V13 ho hg5 _
                  have bV13 : Below w.heap.size w V13 := bV12.grown hg5 bV12.size (fun k e => by have h9 := (OV12.lt k e).1; omega)
                  have cV13 : Below U0.heap.size U0 V13 := cV12.grown hg5 cV12.size (fun k e => (OV12.lt k e).1)
                  refine hK.out _ _ (range_below hbl HG.out bV13) (fun _ => ?_)
                  clear hK K
                  (try simp only [Act.put, List.setIfInBounds_toArray, List.set_cons_zero, List.set_cons_succ, List.getElem_toArray, List.getElem_cons_succ, List.getElem_cons_zero])
                  clear hg5
                  refine wpAnyH_ready (rs := [14]) (by kernel_rfl) (by simp) ?_
                  refine AllReadyH.cons rfl (fun K hK => ?_) AllReadyH.nil
                  refine wp_append_own _ (.tmp 57) (.tmp 60) 22 rfl U0.heap.size 28 i0 (.agg #[.int .i64 0, .int .u64 0, .int .i64 0, .int .i64 0, .int .i64 0, .int .i64 0, .int .i64 0, .int .i64 0, .string ⟨#[]⟩]) 9 80 Tryd.underlying22 Hi.out Hz0.out Hz1.out Hz2.out rfl (by decide) v13 ((LL.take k).length + 1) (rowC bn (LL.take k) ++ bn x) rfl ho ⟨g, k * 9, none⟩ (LL.length - k) (co - k) (rowC bn (LL.drop k)) rfl (by rw [rowC_length bn_len, LD.out]) (fun j' u hj' => (by rw [Addr.add_mid, cV13.cell (p := ⟨g, k * 9 + j', none⟩) gU, blk_cell kg]; have h9 := row_tail HCT.out TD.out hj'; rw [TKL.out] at h9; exact h9)) (row_oneB _) (by rw [TKL.out]; unfold maxLen; omega) (by rw [TKL.out]; omega) cV13.size ?_
                  intro v14 V14 ho2 hg6 _
                  have bV14 : Below w.heap.size w V14 := bV13.grown hg6 bV13.size (fun k e => by have h9 := (ho.lt k e).1; omega)
                  refine hK.out _ _ (range_below hbl HG.out bV14) (fun _ => ?_)
                  clear hK K
                  (try simp only [Act.put, List.setIfInBounds_toArray, List.set_cons_zero, List.set_cons_succ, List.getElem_toArray, List.getElem_cons_succ, List.getElem_cons_zero])
                  refine wpAnyH_take (i := 15) (oi := _) (v := ?_) rfl (by kernel_rfl) (by kernel_rfl) (by kernel_rfl) (fun _ _ _ h => h) (Or.inl ⟨by rfl, ?_⟩) (by assumption) ?_
                  rotate_left
                  focus (intro W hSw; (try dsimp only at hSw); go_simp; (try with_reducible rfl))
                  (try simp only [Act.put, List.setIfInBounds_toArray, List.set_cons_zero, List.set_cons_succ, List.getElem_toArray, List.getElem_cons_succ, List.getElem_cons_zero])
                  refine wpAnyH_done (by kernel_rfl) ?_ _
                  have hN : Hid (V14.ownsRow w.heap.size 28 9 v14 (isort ltB (l.take (j + 1))).length (rowC bn (isort ltB (l.take (j + 1))))) := Lib.hid (by
                    have h9 := owns_base ho2 (show w.heap.size ≤ U0.heap.size from sU)
                    rw [NEXT.out, show LL.take k ++ x :: LL.drop k = LL.take k ++ [x] ++ LL.drop k by simp, rowC_append, rowC_append, rowC_one, List.length_append, List.length_append, List.length_singleton, LD.out]
                    exact h9)
                  have bN := bV14
                  clear ho ho2 hg6
                  go_wp2
                  go_roundw
                  case rel => exact ⟨j + 1, by go_num, by omega, bN, hN⟩
                  case measure => simp [intOf]; omega
              · have hk2 : Hid (∀ z ∈ LL.drop m, ltB x z = true) := Lib.hid (fun z hz => by
                  rw [List.drop_eq_getElem_cons hml] at hz
                  rcases List.mem_cons.1 hz with rfl | hz
                  · rw [← HY.out]; exact HRR.out
                  · rw [← HM.out] at hz; exact DR.out z hz)
                clear DR
                go_wp2
                go_roundw
                case rel => exact ⟨m, by go_num, by omega, hBU, hk2⟩
                case measure => have := HM.out; simp [intOf]; omega
            · have hk0 : k = 0 := by omega
              have GL : ∀ z, (LL.take k).getLast? = some z → ltB x z = false := fun z hz => by rw [hk0] at hz; simp at hz
              have tg : decide ((0 : Int) < (k : Int)) = false := decide_eq_false (by omega)
              have tg2 : decide (0 < k) = false := decide_eq_false (by omega)
              clear hk0
              go_wp2_with fail
              refine wp_region_in (by kernel_rfl) (by kernel_rfl) ?_
              intro W0 hE hN
              have qB : Below V.heap.size V W0 := (by rw [hE.out]; exact hBV)
              clear hE hBV
              repeat (go_big_quiet_step (fail))
              refine wpQuiet_nil ?_
              rintro _ ⟨x', rfl⟩
              have hBU : Below V.heap.size V x'.wd := qB.trans (x'.ok.mono qB.size)
              obtain ⟨U, hUe⟩ : ∃ u, u = x'.wd := ⟨_, rfl⟩
              rw [← hUe] at hBU ⊢
              clear hUe x' hN qB
              rcases HDO.out with ⟨rfl, hnil⟩ | ⟨g, cur, rfl, hgb, hbg, hcs, hct⟩
              · have hU : Below w.heap.size w U := hb3.trans (hBU.mono sV)
                have hco0 := HSO.out.2.2.1 rfl
                subst hco0
                have hl0 : LL.length = 0 := by rw [hnil]; rfl
                have TK : Hid (LL.take k = []) := Lib.hid (by rw [hnil]; simp)
                have DK : Hid (LL.drop k = []) := Lib.hid (by rw [hnil]; simp)
                have hk0 : k = 0 := by omega
                have LD : Hid ((LL.drop k).length = 0) := Lib.hid (by rw [DK.out]; rfl)
                have TKL : Hid ((LL.take k).length = 0) := Lib.hid (by rw [TK.out]; rfl)
                skip
                have NEXT := Lib.hid (KEYI.out k hk DR.out GL)
                clear hnil GL
                clear hBU
                go_wp2_with fail
                refine wp_region_held_drew (S := fun W => W.rangeAt b (off + j * 9) (bn x)) (by kernel_rfl) (range_below hbl HG.out hU.drew) (fun hHeld => ?_)
                obtain ⟨U0, eU⟩ : ∃ v, v = U.drew := ⟨_, rfl⟩
                have bU0 : Below w.heap.size w U0 := (by rw [eU]; exact hU.drew)
                have cU0 : Below U0.heap.size U0 U0 := Below.refl _ _
                have sU := bU0.size
                rw [← eU] at hHeld ⊢
                clear eU hU
                refine wpAnyH_take (i := 1) (oi := _) (v := ?_) rfl (by kernel_rfl) (by kernel_rfl) (by kernel_rfl) (fun _ _ _ h => h) (Or.inl ⟨by rfl, ?_⟩) (by assumption) ?_
                rotate_left
                focus (intro W hSw; (try dsimp only at hSw); go_simp; (try with_reducible rfl))
                (try simp only [Act.put, List.setIfInBounds_toArray, List.set_cons_zero, List.set_cons_succ, List.getElem_toArray, List.getElem_cons_succ, List.getElem_cons_zero])
                refine wpAnyH_take (i := 2) (oi := _) (v := ?_) rfl (by kernel_rfl) (by kernel_rfl) (by kernel_rfl) (fun _ _ _ h => h) (Or.inl ⟨by rfl, ?_⟩) (by assumption) ?_
                rotate_left
                focus (intro W hSw; (try dsimp only at hSw); go_simp; (try with_reducible rfl))
                (try simp only [Act.put, List.setIfInBounds_toArray, List.set_cons_zero, List.set_cons_succ, List.getElem_toArray, List.getElem_cons_succ, List.getElem_cons_zero])
                refine wpAnyH_take (i := 3) (oi := _) (v := ?_) rfl (by kernel_rfl) (by kernel_rfl) (by kernel_rfl) (fun _ _ _ h => h) (Or.inl ⟨by rfl, ?_⟩) (by assumption) ?_
                rotate_left
                focus (intro W hSw; (try dsimp only at hSw); go_simp; (try with_reducible rfl))
                (try simp only [Act.put, List.setIfInBounds_toArray, List.set_cons_zero, List.set_cons_succ, List.getElem_toArray, List.getElem_cons_succ, List.getElem_cons_zero])
                refine wpAnyH_take (i := 5) (oi := _) (v := ?_) rfl (by kernel_rfl) (by kernel_rfl) (by kernel_rfl) (fun _ _ _ h => h) (Or.inl ⟨by rfl, ?_⟩) (by assumption) ?_
                rotate_left
                focus (intro W hSw; (try dsimp only at hSw); go_simp; (try with_reducible rfl))
                (try simp only [Act.put, List.setIfInBounds_toArray, List.set_cons_zero, List.set_cons_succ, List.getElem_toArray, List.getElem_cons_succ, List.getElem_cons_zero])
                refine wpAnyH_take (i := 6) (oi := _) (v := ?_) rfl (by kernel_rfl) (by kernel_rfl) (by kernel_rfl) (fun _ _ _ h => h) (Or.inl ⟨by rfl, ?_⟩) (by assumption) ?_
                rotate_left
                focus (intro W hSw; (try dsimp only at hSw); go_simp; (try with_reducible rfl))
                (try simp only [Act.put, List.setIfInBounds_toArray, List.set_cons_zero, List.set_cons_succ, List.getElem_toArray, List.getElem_cons_succ, List.getElem_cons_zero])
                refine wpAnyH_take (i := 7) (oi := _) (v := ?_) rfl (by kernel_rfl) (by kernel_rfl) (by kernel_rfl) (fun _ _ _ h => h) (Or.inl ⟨by rfl, ?_⟩) (by assumption) ?_
                rotate_left
                focus (intro W hSw; (try dsimp only at hSw); go_simp; (try with_reducible rfl))
                (try simp only [Act.put, List.setIfInBounds_toArray, List.set_cons_zero, List.set_cons_succ, List.getElem_toArray, List.getElem_cons_succ, List.getElem_cons_zero])
                refine wpAnyH_take (i := 8) (oi := _) (v := .agg #[.int .i64 x.no, .int .u64 x.sq, .int .i64 x.of, .int .i64 x.de, .int .i64 x.pr, .int .i64 x.bo, .int .i64 x.li, .int .i64 x.to, .string x.da]) rfl (by kernel_rfl) (by kernel_rfl) (by kernel_rfl) (fun _ _ _ h => h) (Or.inl ⟨by rfl, ?_⟩) (by assumption) ?_
                focus (intro W hSw; exact load_runB 28 (.tmp 54) b (off + j * 9) (bn x) _ rfl rfl W hSw Tryd.underlying28 rfl (by kernel_rfl))
                (try simp only [Act.put, List.setIfInBounds_toArray, List.set_cons_zero, List.set_cons_succ, List.getElem_toArray, List.getElem_cons_succ, List.getElem_cons_zero])
                refine wpAnyH_take (i := 11) (oi := _) (v := ?_) rfl (by kernel_rfl) (by kernel_rfl) (by kernel_rfl) (fun _ _ _ h => h) (Or.inl ⟨by rfl, ?_⟩) (by assumption) ?_
                rotate_left
                focus (intro W hSw; (try dsimp only at hSw); go_simp; (try with_reducible rfl))
                (try simp only [Act.put, List.setIfInBounds_toArray, List.set_cons_zero, List.set_cons_succ, List.getElem_toArray, List.getElem_cons_succ, List.getElem_cons_zero])
                refine wpAnyH_take (i := 12) (oi := _) (v := ?_) rfl (by kernel_rfl) (by kernel_rfl) (by kernel_rfl) (fun _ _ _ h => h) (Or.inl ⟨by rfl, ?_⟩) (by assumption) ?_
                rotate_left
                focus (intro W hSw; (try dsimp only at hSw); go_simp; (try with_reducible rfl))
                (try simp only [Act.put, List.setIfInBounds_toArray, List.set_cons_zero, List.set_cons_succ, List.getElem_toArray, List.getElem_cons_succ, List.getElem_cons_zero])
                refine wpAnyH_take (i := 13) (oi := _) (v := ?_) rfl (by kernel_rfl) (by kernel_rfl) (by kernel_rfl) (fun _ _ _ h => h) (Or.inl ⟨by rfl, ?_⟩) (by assumption) ?_
                rotate_left
                focus (intro W hSw; (try dsimp only at hSw); go_simp; (try with_reducible rfl))
                (try simp only [Act.put, List.setIfInBounds_toArray, List.set_cons_zero, List.set_cons_succ, List.getElem_toArray, List.getElem_cons_succ, List.getElem_cons_zero])
                refine wpAnyH_ready (rs := [0, 9]) (by kernel_rfl) (by simp) ?_
                refine AllReadyH.cons rfl (fun K hK => ?_) ?_
                · skip
                  go_simp
                  refine hK.out _ _ (range_below hbl HG.out (bU0.alloc bU0.size _)) (fun _ => ?_)
                  clear hK K
                  (try simp only [Act.put, List.setIfInBounds_toArray, List.set_cons_zero, List.set_cons_succ, List.getElem_toArray, List.getElem_cons_succ, List.getElem_cons_zero])
                  obtain ⟨V1, eV⟩ : ∃ v, v = U0.alloc (.cells #[] 28) := ⟨_, rfl⟩
                  obtain ⟨n1, en⟩ : ∃ v, v = U0.heap.size := ⟨_, rfl⟩
                  have bV1 : Below w.heap.size w V1 := (by rw [eV]; exact bU0.alloc bU0.size _)
                  have cV1 : Below U0.heap.size U0 V1 := (by rw [eV]; exact cU0.alloc cU0.size _)
                  have oV1 : V1.ownsRow n1 28 9 (.slice (some ⟨n1, 0, none⟩) 0 0) 0 [] := (by rw [eV, en]; exact own_empty9 _ _)
                  have l1 : U0.heap.size ≤ n1 := (by rw [en]; exact cU0.size)
                  have u1 : n1 < V1.heap.size := (by rw [eV, en]; simp)
                  rw [← eV, ← en]
                  clear eV en
                  refine wpAnyH_ready (rs := [4, 9]) (by kernel_rfl) (by simp) ?_
                  refine AllReadyH.cons rfl (fun K hK => ?_) ?_
                  · skip
                    refine wp_append_noneB (.tmp 47) (.tmp 50) 22 rfl U0.heap.size 28 i0 9 Tryd.underlying22 Hi.out (.slice (some ⟨n1, 0, none⟩) 0 0) 0 [] rfl (owns_base oV1 l1) rfl ?_
                    have OV1 : V1.ownsRow U0.heap.size 28 9 (.slice (some ⟨n1, 0, none⟩) 0 0) (LL.take k).length (rowC bn (LL.take k)) := (by rw [TK.out]; exact owns_base oV1 l1)
                    refine hK.out _ _ (range_below hbl HG.out bV1) (fun _ => ?_)
                    clear hK K
                    (try simp only [Act.put, List.setIfInBounds_toArray, List.set_cons_zero, List.set_cons_succ, List.getElem_toArray, List.getElem_cons_succ, List.getElem_cons_zero])
                    refine wpAnyH_ready (rs := [9]) (by kernel_rfl) (by simp) ?_
                    refine AllReadyH.cons rfl (fun K hK => ?_) AllReadyH.nil
                    go_simp
                    refine hK.out _ _ (range_below hbl HG.out (bV1.alloc bV1.size _)) (fun _ => ?_)
                    clear hK K
                    (try simp only [Act.put, List.setIfInBounds_toArray, List.set_cons_zero, List.set_cons_succ, List.getElem_toArray, List.getElem_cons_succ, List.getElem_cons_zero])
                    obtain ⟨V2, eV⟩ : ∃ v, v = V1.alloc (.cells #[.int .i64 x.no, .int .u64 x.sq, .int .i64 x.of, .int .i64 x.de, .int .i64 x.pr, .int .i64 x.bo, .int .i64 x.li, .int .i64 x.to, .string x.da] 28) := ⟨_, rfl⟩
                    obtain ⟨n2, en⟩ : ∃ v, v = V1.heap.size := ⟨_, rfl⟩
                    have bV2 : Below w.heap.size w V2 := (by rw [eV]; exact bV1.alloc bV1.size _)
                    have cV2 : Below U0.heap.size U0 V2 := (by rw [eV]; exact cV1.alloc cV1.size _)
                    have z2 : blk V2 n2 = some (bn x).toArray := (by rw [eV, en]; exact blk_alloc_new _ _ _ rfl)
                    have l2 : U0.heap.size ≤ n2 := (by rw [en]; exact cV1.size)
                    have u2 : n2 < V2.heap.size := (by rw [eV, en]; simp)
                    have OV2 : V2.ownsRow U0.heap.size 28 9 _ (LL.take k).length (rowC bn (LL.take k)) := (by rw [eV]; exact OV1.alloc _)
                    rw [← eV, ← en]
                    clear eV en
                    refine wpAnyH_ready (rs := [10]) (by kernel_rfl) (by simp) ?_
                    refine AllReadyH.cons rfl (fun K hK => ?_) AllReadyH.nil
                    refine wp_append_own _ (.tmp 51) (.tmp 56) 22 rfl U0.heap.size 28 i0 (.agg #[.int .i64 0, .int .u64 0, .int .i64 0, .int .i64 0, .int .i64 0, .int .i64 0, .int .i64 0, .int .i64 0, .string ⟨#[]⟩]) 9 80 Tryd.underlying22 Hi.out Hz0.out Hz1.out Hz2.out rfl (by decide) _ (LL.take k).length (rowC bn (LL.take k)) rfl OV2 ⟨n2, 0, none⟩ 1 1 (bn x) rfl rfl (fun j' u hj' => (by rw [Addr.add_mid, Nat.zero_add, blk_cell z2]; simpa using hj')) (bn_one _) (by rw [TKL.out]; unfold maxLen; omega) (by rw [TKL.out]; omega) cV2.size ?_
                    intro v3 V3 ho hg5 _
                    have bV3 : Below w.heap.size w V3 := bV2.grown hg5 bV2.size (fun k e => by have h9 := (OV2.lt k e).1; omega)
                    have cV3 : Below U0.heap.size U0 V3 := cV2.grown hg5 cV2.size (fun k e => (OV2.lt k e).1)
                    refine hK.out _ _ (range_below hbl HG.out bV3) (fun _ => ?_)
                    clear hK K
                    (try simp only [Act.put, List.setIfInBounds_toArray, List.set_cons_zero, List.set_cons_succ, List.getElem_toArray, List.getElem_cons_succ, List.getElem_cons_zero])
                    clear hg5
                    refine wpAnyH_ready (rs := [14]) (by kernel_rfl) (by simp) ?_
                    refine AllReadyH.cons rfl (fun K hK => ?_) AllReadyH.nil
                    refine wp_append_noneB (.tmp 57) (.tmp 60) 22 rfl U0.heap.size 28 i0 9 Tryd.underlying22 Hi.out v3 _ _ rfl ho rfl ?_
                    refine hK.out _ _ (range_below hbl HG.out bV3) (fun _ => ?_)
                    clear hK K
                    (try simp only [Act.put, List.setIfInBounds_toArray, List.set_cons_zero, List.set_cons_succ, List.getElem_toArray, List.getElem_cons_succ, List.getElem_cons_zero])
                    refine wpAnyH_take (i := 15) (oi := _) (v := ?_) rfl (by kernel_rfl) (by kernel_rfl) (by kernel_rfl) (fun _ _ _ h => h) (Or.inl ⟨by rfl, ?_⟩) (by assumption) ?_
                    rotate_left
                    focus (intro W hSw; (try dsimp only at hSw); go_simp; (try with_reducible rfl))
                    (try simp only [Act.put, List.setIfInBounds_toArray, List.set_cons_zero, List.set_cons_succ, List.getElem_toArray, List.getElem_cons_succ, List.getElem_cons_zero])
                    refine wpAnyH_done (by kernel_rfl) ?_ _
                    have hN : Hid (V3.ownsRow w.heap.size 28 9 v3 (isort ltB (l.take (j + 1))).length (rowC bn (isort ltB (l.take (j + 1))))) := Lib.hid (by
                      have h9 := owns_base ho (show w.heap.size ≤ U0.heap.size from sU)
                      rw [NEXT.out, show LL.take k ++ x :: LL.drop k = LL.take k ++ [x] ++ LL.drop k by simp, rowC_append, rowC_append, rowC_one, List.length_append, List.length_append, List.length_singleton, LD.out]
                      rw [DK.out]
                      simpa [rowC] using h9)
                    have bN := bV3
                    clear ho
                    go_wp2
                    go_roundw
                    case rel => exact ⟨j + 1, by go_num, by omega, bN, hN⟩
                    case measure => simp [intOf]; omega
                  refine AllReadyH.cons rfl (fun K hK => ?_) AllReadyH.nil
                  go_simp
                  refine hK.out _ _ (range_below hbl HG.out (bV1.alloc bV1.size _)) (fun _ => ?_)
                  clear hK K
                  (try simp only [Act.put, List.setIfInBounds_toArray, List.set_cons_zero, List.set_cons_succ, List.getElem_toArray, List.getElem_cons_succ, List.getElem_cons_zero])
                  obtain ⟨V5, eV⟩ : ∃ v, v = V1.alloc (.cells #[.int .i64 x.no, .int .u64 x.sq, .int .i64 x.of, .int .i64 x.de, .int .i64 x.pr, .int .i64 x.bo, .int .i64 x.li, .int .i64 x.to, .string x.da] 28) := ⟨_, rfl⟩
                  obtain ⟨n5, en⟩ : ∃ v, v = V1.heap.size := ⟨_, rfl⟩
                  have bV5 : Below w.heap.size w V5 := (by rw [eV]; exact bV1.alloc bV1.size _)
                  have cV5 : Below U0.heap.size U0 V5 := (by rw [eV]; exact cV1.alloc cV1.size _)
                  have z5 : blk V5 n5 = some (bn x).toArray := (by rw [eV, en]; exact blk_alloc_new _ _ _ rfl)
                  have l5 : U0.heap.size ≤ n5 := (by rw [en]; exact cV1.size)
                  have u5 : n5 < V5.heap.size := (by rw [eV, en]; simp)
                  have oV5 : V5.ownsRow n1 28 9 (.slice (some ⟨n1, 0, none⟩) 0 0) 0 [] := (by rw [eV]; exact oV1.alloc _)
                  have nz : n5 ≠ n1 := (by rw [en]; omega)
                  rw [← eV, ← en]
                  clear eV en
                  refine wpAnyH_ready (rs := [4]) (by kernel_rfl) (by simp) ?_
                  refine AllReadyH.cons rfl (fun K hK => ?_) AllReadyH.nil
                  refine wp_append_noneB (.tmp 47) (.tmp 50) 22 rfl U0.heap.size 28 i0 9 Tryd.underlying22 Hi.out (.slice (some ⟨n1, 0, none⟩) 0 0) 0 [] rfl (owns_base oV5 l1) rfl ?_
                  have OV5 : V5.ownsRow U0.heap.size 28 9 (.slice (some ⟨n1, 0, none⟩) 0 0) (LL.take k).length (rowC bn (LL.take k)) := (by rw [TK.out]; exact owns_base oV5 l1)
                  refine hK.out _ _ (range_below hbl HG.out bV5) (fun _ => ?_)
                  clear hK K
                  (try simp only [Act.put, List.setIfInBounds_toArray, List.set_cons_zero, List.set_cons_succ, List.getElem_toArray, List.getElem_cons_succ, List.getElem_cons_zero])
                  refine wpAnyH_ready (rs := [10]) (by kernel_rfl) (by simp) ?_
                  refine AllReadyH.cons rfl (fun K hK => ?_) AllReadyH.nil
                  refine wp_append_own _ (.tmp 51) (.tmp 56) 22 rfl U0.heap.size 28 i0 (.agg #[.int .i64 0, .int .u64 0, .int .i64 0, .int .i64 0, .int .i64 0, .int .i64 0, .int .i64 0, .int .i64 0, .string ⟨#[]⟩]) 9 80 Tryd.underlying22 Hi.out Hz0.out Hz1.out Hz2.out rfl (by decide) _ (LL.take k).length (rowC bn (LL.take k)) rfl OV5 ⟨n5, 0, none⟩ 1 1 (bn x) rfl rfl (fun j' u hj' => (by rw [Addr.add_mid, Nat.zero_add, blk_cell z5]; simpa using hj')) (bn_one _) (by rw [TKL.out]; unfold maxLen; omega) (by rw [TKL.out]; omega) cV5.size ?_
                  intro v6 V6 ho hg5 _
                  have bV6 : Below w.heap.size w V6 := bV5.grown hg5 bV5.size (fun k e => by have h9 := (OV5.lt k e).1; omega)
                  have cV6 : Below U0.heap.size U0 V6 := cV5.grown hg5 cV5.size (fun k e => (OV5.lt k e).1)
                  refine hK.out _ _ (range_below hbl HG.out bV6) (fun _ => ?_)
                  clear hK K
                  (try simp only [Act.put, List.setIfInBounds_toArray, List.set_cons_zero, List.set_cons_succ, List.getElem_toArray, List.getElem_cons_succ, List.getElem_cons_zero])
                  clear hg5
                  refine wpAnyH_ready (rs := [14]) (by kernel_rfl) (by simp) ?_
                  refine AllReadyH.cons rfl (fun K hK => ?_) AllReadyH.nil
                  refine wp_append_noneB (.tmp 57) (.tmp 60) 22 rfl U0.heap.size 28 i0 9 Tryd.underlying22 Hi.out v6 _ _ rfl ho rfl ?_
                  refine hK.out _ _ (range_below hbl HG.out bV6) (fun _ => ?_)
                  clear hK K
                  (try simp only [Act.put, List.setIfInBounds_toArray, List.set_cons_zero, List.set_cons_succ, List.getElem_toArray, List.getElem_cons_succ, List.getElem_cons_zero])
                  refine wpAnyH_take (i := 15) (oi := _) (v := ?_) rfl (by kernel_rfl) (by kernel_rfl) (by kernel_rfl) (fun _ _ _ h => h) (Or.inl ⟨by rfl, ?_⟩) (by assumption) ?_
                  rotate_left
                  focus (intro W hSw; (try dsimp only at hSw); go_simp; (try with_reducible rfl))
                  (try simp only [Act.put, List.setIfInBounds_toArray, List.set_cons_zero, List.set_cons_succ, List.getElem_toArray, List.getElem_cons_succ, List.getElem_cons_zero])
                  refine wpAnyH_done (by kernel_rfl) ?_ _
                  have hN : Hid (V6.ownsRow w.heap.size 28 9 v6 (isort ltB (l.take (j + 1))).length (rowC bn (isort ltB (l.take (j + 1))))) := Lib.hid (by
                    have h9 := owns_base ho (show w.heap.size ≤ U0.heap.size from sU)
                    rw [NEXT.out, show LL.take k ++ x :: LL.drop k = LL.take k ++ [x] ++ LL.drop k by simp, rowC_append, rowC_append, rowC_one, List.length_append, List.length_append, List.length_singleton, LD.out]
                    rw [DK.out]
                    simpa [rowC] using h9)
                  have bN := bV6
                  clear ho
                  go_wp2
                  go_roundw
                  case rel => exact ⟨j + 1, by go_num, by omega, bN, hN⟩
                  case measure => simp [intOf]; omega
                refine AllReadyH.cons rfl (fun K hK => ?_) AllReadyH.nil
                go_simp
                refine hK.out _ _ (range_below hbl HG.out (bU0.alloc bU0.size _)) (fun _ => ?_)
                clear hK K
                (try simp only [Act.put, List.setIfInBounds_toArray, List.set_cons_zero, List.set_cons_succ, List.getElem_toArray, List.getElem_cons_succ, List.getElem_cons_zero])
                obtain ⟨V8, eV⟩ : ∃ v, v = U0.alloc (.cells #[.int .i64 x.no, .int .u64 x.sq, .int .i64 x.of, .int .i64 x.de, .int .i64 x.pr, .int .i64 x.bo, .int .i64 x.li, .int .i64 x.to, .string x.da] 28) := ⟨_, rfl⟩
                obtain ⟨n8, en⟩ : ∃ v, v = U0.heap.size := ⟨_, rfl⟩
                have bV8 : Below w.heap.size w V8 := (by rw [eV]; exact bU0.alloc bU0.size _)
                have cV8 : Below U0.heap.size U0 V8 := (by rw [eV]; exact cU0.alloc cU0.size _)
                have z8 : blk V8 n8 = some (bn x).toArray := (by rw [eV, en]; exact blk_alloc_new _ _ _ rfl)
                have l8 : U0.heap.size ≤ n8 := (by rw [en]; exact cU0.size)
                have u8 : n8 < V8.heap.size := (by rw [eV, en]; simp)
                rw [← eV, ← en]
                clear eV en
                refine wpAnyH_ready (rs := [0]) (by kernel_rfl) (by simp) ?_
                refine AllReadyH.cons rfl (fun K hK => ?_) AllReadyH.nil
                go_simp
                refine hK.out _ _ (range_below hbl HG.out (bV8.alloc bV8.size _)) (fun _ => ?_)
                clear hK K
                (try simp only [Act.put, List.setIfInBounds_toArray, List.set_cons_zero, List.set_cons_succ, List.getElem_toArray, List.getElem_cons_succ, List.getElem_cons_zero])
                obtain ⟨V9, eV⟩ : ∃ v, v = V8.alloc (.cells #[] 28) := ⟨_, rfl⟩
                obtain ⟨n9, en⟩ : ∃ v, v = V8.heap.size := ⟨_, rfl⟩
                have bV9 : Below w.heap.size w V9 := (by rw [eV]; exact bV8.alloc bV8.size _)
                have cV9 : Below U0.heap.size U0 V9 := (by rw [eV]; exact cV8.alloc cV8.size _)
                have oV9 : V9.ownsRow n9 28 9 (.slice (some ⟨n9, 0, none⟩) 0 0) 0 [] := (by rw [eV, en]; exact own_empty9 _ _)
                have l9 : U0.heap.size ≤ n9 := (by rw [en]; exact cV8.size)
                have u9 : n9 < V9.heap.size := (by rw [eV, en]; simp)
                have nz : n8 ≠ n9 := (by rw [en]; omega)
                replace z8 := (by rw [eV]; exact blk_alloc z8 _ : blk V9 n8 = some (bn x).toArray)
                replace u8 : n8 < V9.heap.size := (by rw [eV]; simp; omega)
                rw [← eV, ← en]
                clear eV en
                refine wpAnyH_ready (rs := [4]) (by kernel_rfl) (by simp) ?_
                refine AllReadyH.cons rfl (fun K hK => ?_) AllReadyH.nil
                refine wp_append_noneB (.tmp 47) (.tmp 50) 22 rfl U0.heap.size 28 i0 9 Tryd.underlying22 Hi.out (.slice (some ⟨n9, 0, none⟩) 0 0) 0 [] rfl (owns_base oV9 l9) rfl ?_
                have OV9 : V9.ownsRow U0.heap.size 28 9 (.slice (some ⟨n9, 0, none⟩) 0 0) (LL.take k).length (rowC bn (LL.take k)) := (by rw [TK.out]; exact owns_base oV9 l9)
                refine hK.out _ _ (range_below hbl HG.out bV9) (fun _ => ?_)
                clear hK K
                (try simp only [Act.put, List.setIfInBounds_toArray, List.set_cons_zero, List.set_cons_succ, List.getElem_toArray, List.getElem_cons_succ, List.getElem_cons_zero])
                refine wpAnyH_ready (rs := [10]) (by kernel_rfl) (by simp) ?_
                refine AllReadyH.cons rfl (fun K hK => ?_) AllReadyH.nil
                refine wp_append_own _ (.tmp 51) (.tmp 56) 22 rfl U0.heap.size 28 i0 (.agg #[.int .i64 0, .int .u64 0, .int .i64 0, .int .i64 0, .int .i64 0, .int .i64 0, .int .i64 0, .int .i64 0, .string ⟨#[]⟩]) 9 80 Tryd.underlying22 Hi.out Hz0.out Hz1.out Hz2.out rfl (by decide) _ (LL.take k).length (rowC bn (LL.take k)) rfl OV9 ⟨n8, 0, none⟩ 1 1 (bn x) rfl rfl (fun j' u hj' => (by rw [Addr.add_mid, Nat.zero_add, blk_cell z8]; simpa using hj')) (bn_one _) (by rw [TKL.out]; unfold maxLen; omega) (by rw [TKL.out]; omega) cV9.size ?_
                intro v10 V10 ho hg5 _
                have bV10 : Below w.heap.size w V10 := bV9.grown hg5 bV9.size (fun k e => by have h9 := (OV9.lt k e).1; omega)
                have cV10 : Below U0.heap.size U0 V10 := cV9.grown hg5 cV9.size (fun k e => (OV9.lt k e).1)
                refine hK.out _ _ (range_below hbl HG.out bV10) (fun _ => ?_)
                clear hK K
                (try simp only [Act.put, List.setIfInBounds_toArray, List.set_cons_zero, List.set_cons_succ, List.getElem_toArray, List.getElem_cons_succ, List.getElem_cons_zero])
                clear hg5
                refine wpAnyH_ready (rs := [14]) (by kernel_rfl) (by simp) ?_
                refine AllReadyH.cons rfl (fun K hK => ?_) AllReadyH.nil
                refine wp_append_noneB (.tmp 57) (.tmp 60) 22 rfl U0.heap.size 28 i0 9 Tryd.underlying22 Hi.out v10 _ _ rfl ho rfl ?_
                refine hK.out _ _ (range_below hbl HG.out bV10) (fun _ => ?_)
                clear hK K
                (try simp only [Act.put, List.setIfInBounds_toArray, List.set_cons_zero, List.set_cons_succ, List.getElem_toArray, List.getElem_cons_succ, List.getElem_cons_zero])
                refine wpAnyH_take (i := 15) (oi := _) (v := ?_) rfl (by kernel_rfl) (by kernel_rfl) (by kernel_rfl) (fun _ _ _ h => h) (Or.inl ⟨by rfl, ?_⟩) (by assumption) ?_
                rotate_left
                focus (intro W hSw; (try dsimp only at hSw); go_simp; (try with_reducible rfl))
                (try simp only [Act.put, List.setIfInBounds_toArray, List.set_cons_zero, List.set_cons_succ, List.getElem_toArray, List.getElem_cons_succ, List.getElem_cons_zero])
                refine wpAnyH_done (by kernel_rfl) ?_ _
                have hN : Hid (V10.ownsRow w.heap.size 28 9 v10 (isort ltB (l.take (j + 1))).length (rowC bn (isort ltB (l.take (j + 1))))) := Lib.hid (by
                  have h9 := owns_base ho (show w.heap.size ≤ U0.heap.size from sU)
                  rw [NEXT.out, show LL.take k ++ x :: LL.drop k = LL.take k ++ [x] ++ LL.drop k by simp, rowC_append, rowC_append, rowC_one, List.length_append, List.length_append, List.length_singleton, LD.out]
                  rw [DK.out]
                  simpa [rowC] using h9)
                have bN := bV10
                clear ho
                go_wp2
                go_roundw
                case rel => exact ⟨j + 1, by go_num, by omega, bN, hN⟩
                case measure => simp [intOf]; omega
              · by_cases hkc : k = co
                · subst hkc
                  have hU : Below w.heap.size w U := hb3.trans (hBU.mono sV)
                  have kgU := blk_below hBU hbg
                  have HCT := Lib.hid hct
                  have TKL : Hid ((LL.take k).length = k) := Lib.hid (by rw [List.length_take]; omega)
                  have TD : Hid (LL = LL.take k ++ LL.drop k) := Lib.hid (List.take_append_drop k LL).symm
                  have LD : Hid ((LL.drop k).length = 0) := Lib.hid (by rw [List.length_drop]; omega)
                  have DK : Hid (LL.drop k = []) := Lib.hid (List.drop_of_length_le (by omega))
                  have NEXT := Lib.hid (KEYI.out k hk DR.out GL)
                  clear GL hct hcs hbg
                  clear hBU
                  go_wp2_with fail
                  refine wp_region_held_drew (S := fun W => W.rangeAt b (off + j * 9) (bn x)) (by kernel_rfl) (range_below hbl HG.out hU.drew) (fun hHeld => ?_)
                  obtain ⟨U0, eU⟩ : ∃ v, v = U.drew := ⟨_, rfl⟩
                  have bU0 : Below w.heap.size w U0 := (by rw [eU]; exact hU.drew)
                  have cU0 : Below U0.heap.size U0 U0 := Below.refl _ _
                  have sU := bU0.size
                  have kg : blk U0 g = some cur := (by rw [eU]; exact blk_drew kgU)
                  have gU := blk_lt kg
                  clear kgU
                  rw [← eU] at hHeld ⊢
                  clear eU hU
                  refine wpAnyH_take (i := 1) (oi := _) (v := ?_) rfl (by kernel_rfl) (by kernel_rfl) (by kernel_rfl) (fun _ _ _ h => h) (Or.inl ⟨by rfl, ?_⟩) (by assumption) ?_
                  rotate_left
                  focus (intro W hSw; (try dsimp only at hSw); go_simp; (try with_reducible rfl))
                  (try simp only [Act.put, List.setIfInBounds_toArray, List.set_cons_zero, List.set_cons_succ, List.getElem_toArray, List.getElem_cons_succ, List.getElem_cons_zero])
                  refine wpAnyH_take (i := 2) (oi := _) (v := ?_) rfl (by kernel_rfl) (by kernel_rfl) (by kernel_rfl) (fun _ _ _ h => h) (Or.inl ⟨by rfl, ?_⟩) (by assumption) ?_
                  rotate_left
                  focus (intro W hSw; (try dsimp only at hSw); go_simp; (try with_reducible rfl))
                  (try simp only [Act.put, List.setIfInBounds_toArray, List.set_cons_zero, List.set_cons_succ, List.getElem_toArray, List.getElem_cons_succ, List.getElem_cons_zero])
                  refine wpAnyH_take (i := 3) (oi := _) (v := ?_) rfl (by kernel_rfl) (by kernel_rfl) (by kernel_rfl) (fun _ _ _ h => h) (Or.inl ⟨by rfl, ?_⟩) (by assumption) ?_
                  rotate_left
                  focus (intro W hSw; (try dsimp only at hSw); go_simp; (try with_reducible rfl))
                  (try simp only [Act.put, List.setIfInBounds_toArray, List.set_cons_zero, List.set_cons_succ, List.getElem_toArray, List.getElem_cons_succ, List.getElem_cons_zero])
                  refine wpAnyH_take (i := 5) (oi := _) (v := ?_) rfl (by kernel_rfl) (by kernel_rfl) (by kernel_rfl) (fun _ _ _ h => h) (Or.inl ⟨by rfl, ?_⟩) (by assumption) ?_
                  rotate_left
                  focus (intro W hSw; (try dsimp only at hSw); go_simp; (try with_reducible rfl))
                  (try simp only [Act.put, List.setIfInBounds_toArray, List.set_cons_zero, List.set_cons_succ, List.getElem_toArray, List.getElem_cons_succ, List.getElem_cons_zero])
                  refine wpAnyH_take (i := 6) (oi := _) (v := ?_) rfl (by kernel_rfl) (by kernel_rfl) (by kernel_rfl) (fun _ _ _ h => h) (Or.inl ⟨by rfl, ?_⟩) (by assumption) ?_
                  rotate_left
                  focus (intro W hSw; (try dsimp only at hSw); go_simp; (try with_reducible rfl))
                  (try simp only [Act.put, List.setIfInBounds_toArray, List.set_cons_zero, List.set_cons_succ, List.getElem_toArray, List.getElem_cons_succ, List.getElem_cons_zero])
                  refine wpAnyH_take (i := 7) (oi := _) (v := ?_) rfl (by kernel_rfl) (by kernel_rfl) (by kernel_rfl) (fun _ _ _ h => h) (Or.inl ⟨by rfl, ?_⟩) (by assumption) ?_
                  rotate_left
                  focus (intro W hSw; (try dsimp only at hSw); go_simp; (try with_reducible rfl))
                  (try simp only [Act.put, List.setIfInBounds_toArray, List.set_cons_zero, List.set_cons_succ, List.getElem_toArray, List.getElem_cons_succ, List.getElem_cons_zero])
                  refine wpAnyH_take (i := 8) (oi := _) (v := .agg #[.int .i64 x.no, .int .u64 x.sq, .int .i64 x.of, .int .i64 x.de, .int .i64 x.pr, .int .i64 x.bo, .int .i64 x.li, .int .i64 x.to, .string x.da]) rfl (by kernel_rfl) (by kernel_rfl) (by kernel_rfl) (fun _ _ _ h => h) (Or.inl ⟨by rfl, ?_⟩) (by assumption) ?_
                  focus (intro W hSw; exact load_runB 28 (.tmp 54) b (off + j * 9) (bn x) _ rfl rfl W hSw Tryd.underlying28 rfl (by kernel_rfl))
                  (try simp only [Act.put, List.setIfInBounds_toArray, List.set_cons_zero, List.set_cons_succ, List.getElem_toArray, List.getElem_cons_succ, List.getElem_cons_zero])
                  refine wpAnyH_take (i := 11) (oi := _) (v := ?_) rfl (by kernel_rfl) (by kernel_rfl) (by kernel_rfl) (fun _ _ _ h => h) (Or.inl ⟨by rfl, ?_⟩) (by assumption) ?_
                  rotate_left
                  focus (intro W hSw; (try dsimp only at hSw); go_simp; (try with_reducible rfl))
                  (try simp only [Act.put, List.setIfInBounds_toArray, List.set_cons_zero, List.set_cons_succ, List.getElem_toArray, List.getElem_cons_succ, List.getElem_cons_zero])
                  refine wpAnyH_take (i := 12) (oi := _) (v := ?_) rfl (by kernel_rfl) (by kernel_rfl) (by kernel_rfl) (fun _ _ _ h => h) (Or.inl ⟨by rfl, ?_⟩) (by assumption) ?_
                  rotate_left
                  focus (intro W hSw; (try dsimp only at hSw); go_simp; (try with_reducible rfl))
                  (try simp only [Act.put, List.setIfInBounds_toArray, List.set_cons_zero, List.set_cons_succ, List.getElem_toArray, List.getElem_cons_succ, List.getElem_cons_zero])
                  refine wpAnyH_take (i := 13) (oi := _) (v := ?_) rfl (by kernel_rfl) (by kernel_rfl) (by kernel_rfl) (fun _ _ _ h => h) (Or.inl ⟨by rfl, ?_⟩) (by assumption) ?_
                  rotate_left
                  focus (intro W hSw; (try dsimp only at hSw); go_simp; (try with_reducible rfl))
                  (try simp only [Act.put, List.setIfInBounds_toArray, List.set_cons_zero, List.set_cons_succ, List.getElem_toArray, List.getElem_cons_succ, List.getElem_cons_zero])
                  refine wpAnyH_ready (rs := [0, 9]) (by kernel_rfl) (by simp) ?_
                  refine AllReadyH.cons rfl (fun K hK => ?_) ?_
                  · skip
                    go_simp
                    refine hK.out _ _ (range_below hbl HG.out (bU0.alloc bU0.size _)) (fun _ => ?_)
                    clear hK K
                    (try simp only [Act.put, List.setIfInBounds_toArray, List.set_cons_zero, List.set_cons_succ, List.getElem_toArray, List.getElem_cons_succ, List.getElem_cons_zero])
                    obtain ⟨V1, eV⟩ : ∃ v, v = U0.alloc (.cells #[] 28) := ⟨_, rfl⟩
                    obtain ⟨n1, en⟩ : ∃ v, v = U0.heap.size := ⟨_, rfl⟩
                    have bV1 : Below w.heap.size w V1 := (by rw [eV]; exact bU0.alloc bU0.size _)
                    have cV1 : Below U0.heap.size U0 V1 := (by rw [eV]; exact cU0.alloc cU0.size _)
                    have oV1 : V1.ownsRow n1 28 9 (.slice (some ⟨n1, 0, none⟩) 0 0) 0 [] := (by rw [eV, en]; exact own_empty9 _ _)
                    have l1 : U0.heap.size ≤ n1 := (by rw [en]; exact cU0.size)
                    have u1 : n1 < V1.heap.size := (by rw [eV, en]; simp)
                    rw [← eV, ← en]
                    clear eV en
                    refine wpAnyH_ready (rs := [4, 9]) (by kernel_rfl) (by simp) ?_
                    refine AllReadyH.cons rfl (fun K hK => ?_) ?_
                    · skip
                      refine wp_append_own _ (.tmp 47) (.tmp 50) 22 rfl U0.heap.size 28 i0 (.agg #[.int .i64 0, .int .u64 0, .int .i64 0, .int .i64 0, .int .i64 0, .int .i64 0, .int .i64 0, .int .i64 0, .string ⟨#[]⟩]) 9 80 Tryd.underlying22 Hi.out Hz0.out Hz1.out Hz2.out rfl (by decide) (.slice (some ⟨n1, 0, none⟩) 0 0) 0 [] rfl (owns_base oV1 l1) ⟨g, 0, none⟩ k k (rowC bn (LL.take k)) rfl (by rw [rowC_length bn_len, TKL.out]) (fun j' u hj' => (by rw [Addr.add_mid, Nat.zero_add, cV1.cell (p := ⟨g, j', none⟩) gU, blk_cell kg]; exact row_head HCT.out TD.out hj')) (row_oneB _) (by unfold maxLen; omega) (by omega) cV1.size ?_
                      intro v2 V2 ho hg5 _
                      have bV2 : Below w.heap.size w V2 := bV1.grown hg5 bV1.size (fun k e => by have h9 := (oV1.lt k e).1; omega)
                      have cV2 : Below U0.heap.size U0 V2 := cV1.grown hg5 cV1.size (fun k e => by have h9 := (oV1.lt k e).1; omega)
                      have OV2 : V2.ownsRow U0.heap.size 28 9 v2 (LL.take k).length (rowC bn (LL.take k)) := (by have h9 := ho; rw [Nat.zero_add, List.nil_append] at h9; rw [TKL.out]; exact h9)
                      refine hK.out _ _ (range_below hbl HG.out bV2) (fun _ => ?_)
                      clear hK K
                      (try simp only [Act.put, List.setIfInBounds_toArray, List.set_cons_zero, List.set_cons_succ, List.getElem_toArray, List.getElem_cons_succ, List.getElem_cons_zero])
                      clear ho hg5
                      refine wpAnyH_ready (rs := [9]) (by kernel_rfl) (by simp) ?_
                      refine AllReadyH.cons rfl (fun K hK => ?_) AllReadyH.nil
                      go_simp
                      refine hK.out _ _ (range_below hbl HG.out (bV2.alloc bV2.size _)) (fun _ => ?_)
                      clear hK K
                      (try simp only [Act.put, List.setIfInBounds_toArray, List.set_cons_zero, List.set_cons_succ, List.getElem_toArray, List.getElem_cons_succ, List.getElem_cons_zero])
                      obtain ⟨V3, eV⟩ : ∃ v, v = V2.alloc (.cells #[.int .i64 x.no, .int .u64 x.sq, .int .i64 x.of, .int .i64 x.de, .int .i64 x.pr, .int .i64 x.bo, .int .i64 x.li, .int .i64 x.to, .string x.da] 28) := ⟨_, rfl⟩
                      obtain ⟨n3, en⟩ : ∃ v, v = V2.heap.size := ⟨_, rfl⟩
                      have bV3 : Below w.heap.size w V3 := (by rw [eV]; exact bV2.alloc bV2.size _)
                      have cV3 : Below U0.heap.size U0 V3 := (by rw [eV]; exact cV2.alloc cV2.size _)
                      have z3 : blk V3 n3 = some (bn x).toArray := (by rw [eV, en]; exact blk_alloc_new _ _ _ rfl)
                      have l3 : U0.heap.size ≤ n3 := (by rw [en]; exact cV2.size)
                      have u3 : n3 < V3.heap.size := (by rw [eV, en]; simp)
                      have OV3 : V3.ownsRow U0.heap.size 28 9 _ (LL.take k).length (rowC bn (LL.take k)) := (by rw [eV]; exact OV2.alloc _)
                      rw [← eV, ← en]
                      clear eV en
                      refine wpAnyH_ready (rs := [10]) (by kernel_rfl) (by simp) ?_
                      refine AllReadyH.cons rfl (fun K hK => ?_) AllReadyH.nil
                      refine wp_append_own _ (.tmp 51) (.tmp 56) 22 rfl U0.heap.size 28 i0 (.agg #[.int .i64 0, .int .u64 0, .int .i64 0, .int .i64 0, .int .i64 0, .int .i64 0, .int .i64 0, .int .i64 0, .string ⟨#[]⟩]) 9 80 Tryd.underlying22 Hi.out Hz0.out Hz1.out Hz2.out rfl (by decide) _ (LL.take k).length (rowC bn (LL.take k)) rfl OV3 ⟨n3, 0, none⟩ 1 1 (bn x) rfl rfl (fun j' u hj' => (by rw [Addr.add_mid, Nat.zero_add, blk_cell z3]; simpa using hj')) (bn_one _) (by rw [TKL.out]; unfold maxLen; omega) (by rw [TKL.out]; omega) cV3.size ?_
                      intro v4 V4 ho hg5 _
                      have bV4 : Below w.heap.size w V4 := bV3.grown hg5 bV3.size (fun k e => by have h9 := (OV3.lt k e).1; omega)
                      have cV4 : Below U0.heap.size U0 V4 := cV3.grown hg5 cV3.size (fun k e => (OV3.lt k e).1)
                      refine hK.out _ _ (range_below hbl HG.out bV4) (fun _ => ?_)
                      clear hK K
                      (try simp only [Act.put, List.setIfInBounds_toArray, List.set_cons_zero, List.set_cons_succ, List.getElem_toArray, List.getElem_cons_succ, List.getElem_cons_zero])
                      clear hg5
                      refine wpAnyH_ready (rs := [14]) (by kernel_rfl) (by simp) ?_
                      refine AllReadyH.cons rfl (fun K hK => ?_) AllReadyH.nil
                      refine wp_append_own _ (.tmp 57) (.tmp 60) 22 rfl U0.heap.size 28 i0 (.agg #[.int .i64 0, .int .u64 0, .int .i64 0, .int .i64 0, .int .i64 0, .int .i64 0, .int .i64 0, .int .i64 0, .string ⟨#[]⟩]) 9 80 Tryd.underlying22 Hi.out Hz0.out Hz1.out Hz2.out rfl (by decide) v4 ((LL.take k).length + 1) (rowC bn (LL.take k) ++ bn x) rfl ho ⟨g, 0, none⟩ 0 0 (rowC bn (LL.drop k)) rfl (by rw [rowC_length bn_len, LD.out]) (fun j' u hj' => by rw [DK.out] at hj'; simp [rowC] at hj') (row_oneB _) (by rw [TKL.out]; unfold maxLen; omega) (by rw [TKL.out]; omega) cV4.size ?_
                      intro v5 V5 ho2 hg6 _
                      have bV5 : Below w.heap.size w V5 := bV4.grown hg6 bV4.size (fun k e => by have h9 := (ho.lt k e).1; omega)
                      refine hK.out _ _ (range_below hbl HG.out bV5) (fun _ => ?_)
                      clear hK K
                      (try simp only [Act.put, List.setIfInBounds_toArray, List.set_cons_zero, List.set_cons_succ, List.getElem_toArray, List.getElem_cons_succ, List.getElem_cons_zero])
                      refine wpAnyH_take (i := 15) (oi := _) (v := ?_) rfl (by kernel_rfl) (by kernel_rfl) (by kernel_rfl) (fun _ _ _ h => h) (Or.inl ⟨by rfl, ?_⟩) (by assumption) ?_
                      rotate_left
                      focus (intro W hSw; (try dsimp only at hSw); go_simp; (try with_reducible rfl))
                      (try simp only [Act.put, List.setIfInBounds_toArray, List.set_cons_zero, List.set_cons_succ, List.getElem_toArray, List.getElem_cons_succ, List.getElem_cons_zero])
                      refine wpAnyH_done (by kernel_rfl) ?_ _
                      have hN : Hid (V5.ownsRow w.heap.size 28 9 v5 (isort ltB (l.take (j + 1))).length (rowC bn (isort ltB (l.take (j + 1))))) := Lib.hid (by
                        have h9 := owns_base ho2 (show w.heap.size ≤ U0.heap.size from sU)
                        rw [NEXT.out, show LL.take k ++ x :: LL.drop k = LL.take k ++ [x] ++ LL.drop k by simp, rowC_append, rowC_append, rowC_one, List.length_append, List.length_append, List.length_singleton, LD.out]
                        exact h9)
                      have bN := bV5
                      clear ho ho2 hg6
                      go_wp2
                      go_roundw
                      case rel => exact ⟨j + 1, by go_num, by omega, bN, hN⟩
                      case measure => simp [intOf]; omega
                    refine AllReadyH.cons rfl (fun K hK => ?_) AllReadyH.nil
                    go_simp
                    refine hK.out _ _ (range_below hbl HG.out (bV1.alloc bV1.size _)) (fun _ => ?_)
                    clear hK K
                    (try simp only [Act.put, List.setIfInBounds_toArray, List.set_cons_zero, List.set_cons_succ, List.getElem_toArray, List.getElem_cons_succ, List.getElem_cons_zero])
                    obtain ⟨V6, eV⟩ : ∃ v, v = V1.alloc (.cells #[.int .i64 x.no, .int .u64 x.sq, .int .i64 x.of, .int .i64 x.de, .int .i64 x.pr, .int .i64 x.bo, .int .i64 x.li, .int .i64 x.to, .string x.da] 28) := ⟨_, rfl⟩
                    obtain ⟨n6, en⟩ : ∃ v, v = V1.heap.size := ⟨_, rfl⟩
                    have bV6 : Below w.heap.size w V6 := (by rw [eV]; exact bV1.alloc bV1.size _)
                    have cV6 : Below U0.heap.size U0 V6 := (by rw [eV]; exact cV1.alloc cV1.size _)
                    have z6 : blk V6 n6 = some (bn x).toArray := (by rw [eV, en]; exact blk_alloc_new _ _ _ rfl)
                    have l6 : U0.heap.size ≤ n6 := (by rw [en]; exact cV1.size)
                    have u6 : n6 < V6.heap.size := (by rw [eV, en]; simp)
                    have oV6 : V6.ownsRow n1 28 9 (.slice (some ⟨n1, 0, none⟩) 0 0) 0 [] := (by rw [eV]; exact oV1.alloc _)
                    have nz : n6 ≠ n1 := (by rw [en]; omega)
                    rw [← eV, ← en]
                    clear eV en
                    refine wpAnyH_ready (rs := [4]) (by kernel_rfl) (by simp) ?_
                    refine AllReadyH.cons rfl (fun K hK => ?_) AllReadyH.nil
                    refine wp_append_own _ (.tmp 47) (.tmp 50) 22 rfl U0.heap.size 28 i0 (.agg #[.int .i64 0, .int .u64 0, .int .i64 0, .int .i64 0, .int .i64 0, .int .i64 0, .int .i64 0, .int .i64 0, .string ⟨#[]⟩]) 9 80 Tryd.underlying22 Hi.out Hz0.out Hz1.out Hz2.out rfl (by decide) (.slice (some ⟨n1, 0, none⟩) 0 0) 0 [] rfl (owns_base oV6 l1) ⟨g, 0, none⟩ k k (rowC bn (LL.take k)) rfl (by rw [rowC_length bn_len, TKL.out]) (fun j' u hj' => (by rw [Addr.add_mid, Nat.zero_add, cV6.cell (p := ⟨g, j', none⟩) gU, blk_cell kg]; exact row_head HCT.out TD.out hj')) (row_oneB _) (by unfold maxLen; omega) (by omega) cV6.size ?_
                    intro v7 V7 ho hg5 _
                    have bV7 : Below w.heap.size w V7 := bV6.grown hg5 bV6.size (fun k e => by have h9 := (oV6.lt k e).1; omega)
                    have cV7 : Below U0.heap.size U0 V7 := cV6.grown hg5 cV6.size (fun k e => by have h9 := (oV6.lt k e).1; omega)
                    have OV7 : V7.ownsRow U0.heap.size 28 9 v7 (LL.take k).length (rowC bn (LL.take k)) := (by have h9 := ho; rw [Nat.zero_add, List.nil_append] at h9; rw [TKL.out]; exact h9)
                    replace z6 := (blk_kept (hg5.block n6 u6 (fun e => by simp [Value.ownBlock] at e; omega))).trans z6
                    replace u6 := Nat.lt_of_lt_of_le u6 hg5.size
                    refine hK.out _ _ (range_below hbl HG.out bV7) (fun _ => ?_)
                    clear hK K
                    (try simp only [Act.put, List.setIfInBounds_toArray, List.set_cons_zero, List.set_cons_succ, List.getElem_toArray, List.getElem_cons_succ, List.getElem_cons_zero])
                    clear ho hg5
                    refine wpAnyH_ready (rs := [10]) (by kernel_rfl) (by simp) ?_
                    refine AllReadyH.cons rfl (fun K hK => ?_) AllReadyH.nil
                    refine wp_append_own _ (.tmp 51) (.tmp 56) 22 rfl U0.heap.size 28 i0 (.agg #[.int .i64 0, .int .u64 0, .int .i64 0, .int .i64 0, .int .i64 0, .int .i64 0, .int .i64 0, .int .i64 0, .string ⟨#[]⟩]) 9 80 Tryd.underlying22 Hi.out Hz0.out Hz1.out Hz2.out rfl (by decide) _ (LL.take k).length (rowC bn (LL.take k)) rfl OV7 ⟨n6, 0, none⟩ 1 1 (bn x) rfl rfl (fun j' u hj' => (by rw [Addr.add_mid, Nat.zero_add, blk_cell z6]; simpa using hj')) (bn_one _) (by rw [TKL.out]; unfold maxLen; omega) (by rw [TKL.out]; omega) cV7.size ?_
                    intro v8 V8 ho hg5 _
                    have bV8 : Below w.heap.size w V8 := bV7.grown hg5 bV7.size (fun k e => by have h9 := (OV7.lt k e).1; omega)
                    have cV8 : Below U0.heap.size U0 V8 := cV7.grown hg5 cV7.size (fun k e => (OV7.lt k e).1)
                    refine hK.out _ _ (range_below hbl HG.out bV8) (fun _ => ?_)
                    clear hK K
                    (try simp only [Act.put, List.setIfInBounds_toArray, List.set_cons_zero, List.set_cons_succ, List.getElem_toArray, List.getElem_cons_succ, List.getElem_cons_zero])
                    clear hg5
                    refine wpAnyH_ready (rs := [14]) (by kernel_rfl) (by simp) ?_
                    refine AllReadyH.cons rfl (fun K hK => ?_) AllReadyH.nil
                    refine wp_append_own _ (.tmp 57) (.tmp 60) 22 rfl U0.heap.size 28 i0 (.agg #[.int .i64 0, .int .u64 0, .int .i64 0, .int .i64 0, .int .i64 0, .int .i64 0, .int .i64 0, .int .i64 0, .string ⟨#[]⟩]) 9 80 Tryd.underlying22 Hi.out Hz0.out Hz1.out Hz2.out rfl (by decide) v8 ((LL.take k).length + 1) (rowC bn (LL.take k) ++ bn x) rfl ho ⟨g, 0, none⟩ 0 0 (rowC bn (LL.drop k)) rfl (by rw [rowC_length bn_len, LD.out]) (fun j' u hj' => by rw [DK.out] at hj'; simp [rowC] at hj') (row_oneB _) (by rw [TKL.out]; unfold maxLen; omega) (by rw [TKL.out]; omega) cV8.size ?_
                    intro v9 V9 ho2 hg6 _
                    have bV9 : Below w.heap.size w V9 := bV8.grown hg6 bV8.size (fun k e => by have h9 := (ho.lt k e).1; omega)
                    refine hK.out _ _ (range_below hbl HG.out bV9) (fun _ => ?_)
                    clear hK K
                    (try simp only [Act.put, List.setIfInBounds_toArray, List.set_cons_zero, List.set_cons_succ, List.getElem_toArray, List.getElem_cons_succ, List.getElem_cons_zero])
                    refine wpAnyH_take (i := 15) (oi := _) (v := ?_) rfl (by kernel_rfl) (by kernel_rfl) (by kernel_rfl) (fun _ _ _ h => h) (Or.inl ⟨by rfl, ?_⟩) (by assumption) ?_
                    rotate_left
                    focus (intro W hSw; (try dsimp only at hSw); go_simp; (try with_reducible rfl))
                    (try simp only [Act.put, List.setIfInBounds_toArray, List.set_cons_zero, List.set_cons_succ, List.getElem_toArray, List.getElem_cons_succ, List.getElem_cons_zero])
                    refine wpAnyH_done (by kernel_rfl) ?_ _
                    have hN : Hid (V9.ownsRow w.heap.size 28 9 v9 (isort ltB (l.take (j + 1))).length (rowC bn (isort ltB (l.take (j + 1))))) := Lib.hid (by
                      have h9 := owns_base ho2 (show w.heap.size ≤ U0.heap.size from sU)
                      rw [NEXT.out, show LL.take k ++ x :: LL.drop k = LL.take k ++ [x] ++ LL.drop k by simp, rowC_append, rowC_append, rowC_one, List.length_append, List.length_append, List.length_singleton, LD.out]
                      exact h9)
                    have bN := bV9
                    clear ho ho2 hg6
                    go_wp2
                    go_roundw
                    case rel => exact ⟨j + 1, by go_num, by omega, bN, hN⟩
                    case measure => simp [intOf]; omega
                  refine AllReadyH.cons rfl (fun K hK => ?_) AllReadyH.nil
                  go_simp
                  refine hK.out _ _ (range_below hbl HG.out (bU0.alloc bU0.size _)) (fun _ => ?_)
                  clear hK K
                  (try simp only [Act.put, List.setIfInBounds_toArray, List.set_cons_zero, List.set_cons_succ, List.getElem_toArray, List.getElem_cons_succ, List.getElem_cons_zero])
                  obtain ⟨V10, eV⟩ : ∃ v, v = U0.alloc (.cells #[.int .i64 x.no, .int .u64 x.sq, .int .i64 x.of, .int .i64 x.de, .int .i64 x.pr, .int .i64 x.bo, .int .i64 x.li, .int .i64 x.to, .string x.da] 28) := ⟨_, rfl⟩
                  obtain ⟨n10, en⟩ : ∃ v, v = U0.heap.size := ⟨_, rfl⟩
                  have bV10 : Below w.heap.size w V10 := (by rw [eV]; exact bU0.alloc bU0.size _)
                  have cV10 : Below U0.heap.size U0 V10 := (by rw [eV]; exact cU0.alloc cU0.size _)
                  have z10 : blk V10 n10 = some (bn x).toArray := (by rw [eV, en]; exact blk_alloc_new _ _ _ rfl)
                  have l10 : U0.heap.size ≤ n10 := (by rw [en]; exact cU0.size)
                  have u10 : n10 < V10.heap.size := (by rw [eV, en]; simp)
                  rw [← eV, ← en]
                  clear eV en
                  refine wpAnyH_ready (rs := [0]) (by kernel_rfl) (by simp) ?_
                  refine AllReadyH.cons rfl (fun K hK => ?_) AllReadyH.nil
                  go_simp
                  refine hK.out _ _ (range_below hbl HG.out (bV10.alloc bV10.size _)) (fun _ => ?_)
                  clear hK K
                  (try simp only [Act.put, List.setIfInBounds_toArray, List.set_cons_zero, List.set_cons_succ, List.getElem_toArray, List.getElem_cons_succ, List.getElem_cons_zero])
                  obtain ⟨V11, eV⟩ : ∃ v, v = V10.alloc (.cells #[] 28) := ⟨_, rfl⟩
                  obtain ⟨n11, en⟩ : ∃ v, v = V10.heap.size := ⟨_, rfl⟩
                  have bV11 : Below w.heap.size w V11 := (by rw [eV]; exact bV10.alloc bV10.size _)
                  have cV11 : Below U0.heap.size U0 V11 := (by rw [eV]; exact cV10.alloc cV10.size _)
                  have oV11 : V11.ownsRow n11 28 9 (.slice (some ⟨n11, 0, none⟩) 0 0) 0 [] := (by rw [eV, en]; exact own_empty9 _ _)
                  have l11 : U0.heap.size ≤ n11 := (by rw [en]; exact cV10.size)
                  have u11 : n11 < V11.heap.size := (by rw [eV, en]; simp)
                  have nz : n10 ≠ n11 := (by rw [en]; omega)
                  replace z10 := (by rw [eV]; exact blk_alloc z10 _ : blk V11 n10 = some (bn x).toArray)
                  replace u10 : n10 < V11.heap.size := (by rw [eV]; simp; omega)
                  rw [← eV, ← en]
                  clear eV en
                  refine wpAnyH_ready (rs := [4]) (by kernel_rfl) (by simp) ?_
                  refine AllReadyH.cons rfl (fun K hK => ?_) AllReadyH.nil
                  refine wp_append_own _ (.tmp 47) (.tmp 50) 22 rfl U0.heap.size 28 i0 (.agg #[.int .i64 0, .int .u64 0, .int .i64 0, .int .i64 0, .int .i64 0, .int .i64 0, .int .i64 0, .int .i64 0, .string ⟨#[]⟩]) 9 80 Tryd.underlying22 Hi.out Hz0.out Hz1.out Hz2.out rfl (by decide) (.slice (some ⟨n11, 0, none⟩) 0 0) 0 [] rfl (owns_base oV11 l11) ⟨g, 0, none⟩ k k (rowC bn (LL.take k)) rfl (by rw [rowC_length bn_len, TKL.out]) (fun j' u hj' => (by rw [Addr.add_mid, Nat.zero_add, cV11.cell (p := ⟨g, j', none⟩) gU, blk_cell kg]; exact row_head HCT.out TD.out hj')) (row_oneB _) (by unfold maxLen; omega) (by omega) cV11.size ?_
                  intro v12 V12 ho hg5 _
                  have bV12 : Below w.heap.size w V12 := bV11.grown hg5 bV11.size (fun k e => by have h9 := (oV11.lt k e).1; omega)
                  have cV12 : Below U0.heap.size U0 V12 := cV11.grown hg5 cV11.size (fun k e => by have h9 := (oV11.lt k e).1; omega)
                  have OV12 : V12.ownsRow U0.heap.size 28 9 v12 (LL.take k).length (rowC bn (LL.take k)) := (by have h9 := ho; rw [Nat.zero_add, List.nil_append] at h9; rw [TKL.out]; exact h9)
                  replace z10 := (blk_kept (hg5.block n10 u10 (fun e => by simp [Value.ownBlock] at e; omega))).trans z10
                  replace u10 := Nat.lt_of_lt_of_le u10 hg5.size
                  refine hK.out _ _ (range_below hbl HG.out bV12) (fun _ => ?_)
                  clear hK K
                  (try simp only [Act.put, List.setIfInBounds_toArray, List.set_cons_zero, List.set_cons_succ, List.getElem_toArray, List.getElem_cons_succ, List.getElem_cons_zero])
                  clear ho hg5
                  refine wpAnyH_ready (rs := [10]) (by kernel_rfl) (by simp) ?_
                  refine AllReadyH.cons rfl (fun K hK => ?_) AllReadyH.nil
                  refine wp_append_own _ (.tmp 51) (.tmp 56) 22 rfl U0.heap.size 28 i0 (.agg #[.int .i64 0, .int .u64 0, .int .i64 0, .int .i64 0, .int .i64 0, .int .i64 0, .int .i64 0, .int .i64 0, .string ⟨#[]⟩]) 9 80 Tryd.underlying22 Hi.out Hz0.out Hz1.out Hz2.out rfl (by decide) _ (LL.take k).length (rowC bn (LL.take k)) rfl OV12 ⟨n10, 0, none⟩ 1 1 (bn x) rfl rfl (fun j' u hj' => (by rw [Addr.add_mid, Nat.zero_add, blk_cell z10]; simpa using hj')) (bn_one _) (by rw [TKL.out]; unfold maxLen; omega) (by rw [TKL.out]; omega) cV12.size ?_
                  intro v13 V13 ho hg5 _
                  have bV13 : Below w.heap.size w V13 := bV12.grown hg5 bV12.size (fun k e => by have h9 := (OV12.lt k e).1; omega)
                  have cV13 : Below U0.heap.size U0 V13 := cV12.grown hg5 cV12.size (fun k e => (OV12.lt k e).1)
                  refine hK.out _ _ (range_below hbl HG.out bV13) (fun _ => ?_)
                  clear hK K
                  (try simp only [Act.put, List.setIfInBounds_toArray, List.set_cons_zero, List.set_cons_succ, List.getElem_toArray, List.getElem_cons_succ, List.getElem_cons_zero])
                  clear hg5
                  refine wpAnyH_ready (rs := [14]) (by kernel_rfl) (by simp) ?_
                  refine AllReadyH.cons rfl (fun K hK => ?_) AllReadyH.nil
                  refine wp_append_own _ (.tmp 57) (.tmp 60) 22 rfl U0.heap.size 28 i0 (.agg #[.int .i64 0, .int .u64 0, .int .i64 0, .int .i64 0, .int .i64 0, .int .i64 0, .int .i64 0, .int .i64 0, .string ⟨#[]⟩]) 9 80 Tryd.underlying22 Hi.out Hz0.out Hz1.out Hz2.out rfl (by decide) v13 ((LL.take k).length + 1) (rowC bn (LL.take k) ++ bn x) rfl ho ⟨g, 0, none⟩ 0 0 (rowC bn (LL.drop k)) rfl (by rw [rowC_length bn_len, LD.out]) (fun j' u hj' => by rw [DK.out] at hj'; simp [rowC] at hj') (row_oneB _) (by rw [TKL.out]; unfold maxLen; omega) (by rw [TKL.out]; omega) cV13.size ?_
                  intro v14 V14 ho2 hg6 _
                  have bV14 : Below w.heap.size w V14 := bV13.grown hg6 bV13.size (fun k e => by have h9 := (ho.lt k e).1; omega)
                  refine hK.out _ _ (range_below hbl HG.out bV14) (fun _ => ?_)
                  clear hK K
                  (try simp only [Act.put, List.setIfInBounds_toArray, List.set_cons_zero, List.set_cons_succ, List.getElem_toArray, List.getElem_cons_succ, List.getElem_cons_zero])
                  refine wpAnyH_take (i := 15) (oi := _) (v := ?_) rfl (by kernel_rfl) (by kernel_rfl) (by kernel_rfl) (fun _ _ _ h => h) (Or.inl ⟨by rfl, ?_⟩) (by assumption) ?_
                  rotate_left
                  focus (intro W hSw; (try dsimp only at hSw); go_simp; (try with_reducible rfl))
                  (try simp only [Act.put, List.setIfInBounds_toArray, List.set_cons_zero, List.set_cons_succ, List.getElem_toArray, List.getElem_cons_succ, List.getElem_cons_zero])
                  refine wpAnyH_done (by kernel_rfl) ?_ _
                  have hN : Hid (V14.ownsRow w.heap.size 28 9 v14 (isort ltB (l.take (j + 1))).length (rowC bn (isort ltB (l.take (j + 1))))) := Lib.hid (by
                    have h9 := owns_base ho2 (show w.heap.size ≤ U0.heap.size from sU)
                    rw [NEXT.out, show LL.take k ++ x :: LL.drop k = LL.take k ++ [x] ++ LL.drop k by simp, rowC_append, rowC_append, rowC_one, List.length_append, List.length_append, List.length_singleton, LD.out]
                    exact h9)
                  have bN := bV14
                  clear ho ho2 hg6
                  go_wp2
                  go_roundw
                  case rel => exact ⟨j + 1, by go_num, by omega, bN, hN⟩
                  case measure => simp [intOf]; omega
                · have hkc2 : ¬ (co = k) := fun h => hkc h.symm
                  have hco1 : ¬ (co = 0) := by omega
                  have hkco : k ≤ co := by omega
                  have hU : Below w.heap.size w U := hb3.trans (hBU.mono sV)
                  have kgU := blk_below hBU hbg
                  have HCT := Lib.hid hct
                  have TKL : Hid ((LL.take k).length = k) := Lib.hid (by rw [List.length_take]; omega)
                  have TD : Hid (LL = LL.take k ++ LL.drop k) := Lib.hid (List.take_append_drop k LL).symm
                  have LD : Hid ((LL.drop k).length = LL.length - k) := Lib.hid (by rw [List.length_drop])
                  have NEXT := Lib.hid (KEYI.out k hk DR.out GL)
                  clear GL hct hcs hbg
                  clear hBU
                  go_wp2_with fail
                  refine wp_region_held_drew (S := fun W => W.rangeAt b (off + j * 9) (bn x)) (by kernel_rfl) (range_below hbl HG.out hU.drew) (fun hHeld => ?_)
                  obtain ⟨U0, eU⟩ : ∃ v, v = U.drew := ⟨_, rfl⟩
                  have bU0 : Below w.heap.size w U0 := (by rw [eU]; exact hU.drew)
                  have cU0 : Below U0.heap.size U0 U0 := Below.refl _ _
                  have sU := bU0.size
                  have kg : blk U0 g = some cur := (by rw [eU]; exact blk_drew kgU)
                  have gU := blk_lt kg
                  clear kgU
                  rw [← eU] at hHeld ⊢
                  clear eU hU
                  refine wpAnyH_take (i := 1) (oi := _) (v := ?_) rfl (by kernel_rfl) (by kernel_rfl) (by kernel_rfl) (fun _ _ _ h => h) (Or.inl ⟨by rfl, ?_⟩) (by assumption) ?_
                  rotate_left
                  focus (intro W hSw; (try dsimp only at hSw); go_simp; (try with_reducible rfl))
                  (try simp only [Act.put, List.setIfInBounds_toArray, List.set_cons_zero, List.set_cons_succ, List.getElem_toArray, List.getElem_cons_succ, List.getElem_cons_zero])
                  refine wpAnyH_take (i := 2) (oi := _) (v := ?_) rfl (by kernel_rfl) (by kernel_rfl) (by kernel_rfl) (fun _ _ _ h => h) (Or.inl ⟨by rfl, ?_⟩) (by assumption) ?_
                  rotate_left
                  focus (intro W hSw; (try dsimp only at hSw); go_simp; (try with_reducible rfl))
                  (try simp only [Act.put, List.setIfInBounds_toArray, List.set_cons_zero, List.set_cons_succ, List.getElem_toArray, List.getElem_cons_succ, List.getElem_cons_zero])
                  refine wpAnyH_take (i := 3) (oi := _) (v := ?_) rfl (by kernel_rfl) (by kernel_rfl) (by kernel_rfl) (fun _ _ _ h => h) (Or.inl ⟨by rfl, ?_⟩) (by assumption) ?_
                  rotate_left
                  focus (intro W hSw; (try dsimp only at hSw); go_simp; (try with_reducible rfl))
                  (try simp only [Act.put, List.setIfInBounds_toArray, List.set_cons_zero, List.set_cons_succ, List.getElem_toArray, List.getElem_cons_succ, List.getElem_cons_zero])
                  refine wpAnyH_take (i := 5) (oi := _) (v := ?_) rfl (by kernel_rfl) (by kernel_rfl) (by kernel_rfl) (fun _ _ _ h => h) (Or.inl ⟨by rfl, ?_⟩) (by assumption) ?_
                  rotate_left
                  focus (intro W hSw; (try dsimp only at hSw); go_simp; (try with_reducible rfl))
                  (try simp only [Act.put, List.setIfInBounds_toArray, List.set_cons_zero, List.set_cons_succ, List.getElem_toArray, List.getElem_cons_succ, List.getElem_cons_zero])
                  refine wpAnyH_take (i := 6) (oi := _) (v := ?_) rfl (by kernel_rfl) (by kernel_rfl) (by kernel_rfl) (fun _ _ _ h => h) (Or.inl ⟨by rfl, ?_⟩) (by assumption) ?_
                  rotate_left
                  focus (intro W hSw; (try dsimp only at hSw); go_simp; (try with_reducible rfl))
                  (try simp only [Act.put, List.setIfInBounds_toArray, List.set_cons_zero, List.set_cons_succ, List.getElem_toArray, List.getElem_cons_succ, List.getElem_cons_zero])
                  refine wpAnyH_take (i := 7) (oi := _) (v := ?_) rfl (by kernel_rfl) (by kernel_rfl) (by kernel_rfl) (fun _ _ _ h => h) (Or.inl ⟨by rfl, ?_⟩) (by assumption) ?_
                  rotate_left
                  focus (intro W hSw; (try dsimp only at hSw); go_simp; (try with_reducible rfl))
                  (try simp only [Act.put, List.setIfInBounds_toArray, List.set_cons_zero, List.set_cons_succ, List.getElem_toArray, List.getElem_cons_succ, List.getElem_cons_zero])
                  refine wpAnyH_take (i := 8) (oi := _) (v := .agg #[.int .i64 x.no, .int .u64 x.sq, .int .i64 x.of, .int .i64 x.de, .int .i64 x.pr, .int .i64 x.bo, .int .i64 x.li, .int .i64 x.to, .string x.da]) rfl (by kernel_rfl) (by kernel_rfl) (by kernel_rfl) (fun _ _ _ h => h) (Or.inl ⟨by rfl, ?_⟩) (by assumption) ?_
                  focus (intro W hSw; exact load_runB 28 (.tmp 54) b (off + j * 9) (bn x) _ rfl rfl W hSw Tryd.underlying28 rfl (by kernel_rfl))
                  (try simp only [Act.put, List.setIfInBounds_toArray, List.set_cons_zero, List.set_cons_succ, List.getElem_toArray, List.getElem_cons_succ, List.getElem_cons_zero])
                  refine wpAnyH_take (i := 11) (oi := _) (v := ?_) rfl (by kernel_rfl) (by kernel_rfl) (by kernel_rfl) (fun _ _ _ h => h) (Or.inl ⟨by rfl, ?_⟩) (by assumption) ?_
                  rotate_left
                  focus (intro W hSw; (try dsimp only at hSw); go_simp; (try with_reducible rfl))
                  (try simp only [Act.put, List.setIfInBounds_toArray, List.set_cons_zero, List.set_cons_succ, List.getElem_toArray, List.getElem_cons_succ, List.getElem_cons_zero])
                  refine wpAnyH_take (i := 12) (oi := _) (v := ?_) rfl (by kernel_rfl) (by kernel_rfl) (by kernel_rfl) (fun _ _ _ h => h) (Or.inl ⟨by rfl, ?_⟩) (by assumption) ?_
                  rotate_left
                  focus (intro W hSw; (try dsimp only at hSw); go_simp; (try with_reducible rfl))
                  (try simp only [Act.put, List.setIfInBounds_toArray, List.set_cons_zero, List.set_cons_succ, List.getElem_toArray, List.getElem_cons_succ, List.getElem_cons_zero])
                  refine wpAnyH_take (i := 13) (oi := _) (v := ?_) rfl (by kernel_rfl) (by kernel_rfl) (by kernel_rfl) (fun _ _ _ h => h) (Or.inl ⟨by rfl, ?_⟩) (by assumption) ?_
                  rotate_left
                  focus (intro W hSw; (try dsimp only at hSw); go_simp; (try with_reducible rfl))
                  (try simp only [Act.put, List.setIfInBounds_toArray, List.set_cons_zero, List.set_cons_succ, List.getElem_toArray, List.getElem_cons_succ, List.getElem_cons_zero])
                  refine wpAnyH_ready (rs := [0, 9]) (by kernel_rfl) (by simp) ?_
                  refine AllReadyH.cons rfl (fun K hK => ?_) ?_
                  · skip
                    go_simp
                    refine hK.out _ _ (range_below hbl HG.out (bU0.alloc bU0.size _)) (fun _ => ?_)
                    clear hK K
                    (try simp only [Act.put, List.setIfInBounds_toArray, List.set_cons_zero, List.set_cons_succ, List.getElem_toArray, List.getElem_cons_succ, List.getElem_cons_zero])
                    obtain ⟨V1, eV⟩ : ∃ v, v = U0.alloc (.cells #[] 28) := ⟨_, rfl⟩
                    obtain ⟨n1, en⟩ : ∃ v, v = U0.heap.size := ⟨_, rfl⟩
                    have bV1 : Below w.heap.size w V1 := (by rw [eV]; exact bU0.alloc bU0.size _)
                    have cV1 : Below U0.heap.size U0 V1 := (by rw [eV]; exact cU0.alloc cU0.size _)
                    have oV1 : V1.ownsRow n1 28 9 (.slice (some ⟨n1, 0, none⟩) 0 0) 0 [] := (by rw [eV, en]; exact own_empty9 _ _)
                    have l1 : U0.heap.size ≤ n1 := (by rw [en]; exact cU0.size)
                    have u1 : n1 < V1.heap.size := (by rw [eV, en]; simp)
                    rw [← eV, ← en]
                    clear eV en
                    refine wpAnyH_ready (rs := [4, 9]) (by kernel_rfl) (by simp) ?_
                    refine AllReadyH.cons rfl (fun K hK => ?_) ?_
                    · skip
                      refine wp_append_own _ (.tmp 47) (.tmp 50) 22 rfl U0.heap.size 28 i0 (.agg #[.int .i64 0, .int .u64 0, .int .i64 0, .int .i64 0, .int .i64 0, .int .i64 0, .int .i64 0, .int .i64 0, .string ⟨#[]⟩]) 9 80 Tryd.underlying22 Hi.out Hz0.out Hz1.out Hz2.out rfl (by decide) (.slice (some ⟨n1, 0, none⟩) 0 0) 0 [] rfl (owns_base oV1 l1) ⟨g, 0, none⟩ k co (rowC bn (LL.take k)) rfl (by rw [rowC_length bn_len, TKL.out]) (fun j' u hj' => (by rw [Addr.add_mid, Nat.zero_add, cV1.cell (p := ⟨g, j', none⟩) gU, blk_cell kg]; exact row_head HCT.out TD.out hj')) (row_oneB _) (by unfold maxLen; omega) (by omega) cV1.size ?_
                      intro v2 V2 ho hg5 _
                      have bV2 : Below w.heap.size w V2 := bV1.grown hg5 bV1.size (fun k e => by have h9 := (oV1.lt k e).1; omega)
                      have cV2 : Below U0.heap.size U0 V2 := cV1.grown hg5 cV1.size (fun k e => by have h9 := (oV1.lt k e).1; omega)
                      have OV2 : V2.ownsRow U0.heap.size 28 9 v2 (LL.take k).length (rowC bn (LL.take k)) := (by have h9 := ho; rw [Nat.zero_add, List.nil_append] at h9; rw [TKL.out]; exact h9)
                      refine hK.out _ _ (range_below hbl HG.out bV2) (fun _ => ?_)
                      clear hK K
                      (try simp only [Act.put, List.setIfInBounds_toArray, List.set_cons_zero, List.set_cons_succ, List.getElem_toArray, List.getElem_cons_succ, List.getElem_cons_zero])
                      clear ho hg5
                      refine wpAnyH_ready (rs := [9]) (by kernel_rfl) (by simp) ?_
                      refine AllReadyH.cons rfl (fun K hK => ?_) AllReadyH.nil
                      go_simp
                      refine hK.out _ _ (range_below hbl HG.out (bV2.alloc bV2.size _)) (fun _ => ?_)
                      clear hK K
                      (try simp only [Act.put, List.setIfInBounds_toArray, List.set_cons_zero, List.set_cons_succ, List.getElem_toArray, List.getElem_cons_succ, List.getElem_cons_zero])
                      obtain ⟨V3, eV⟩ : ∃ v, v = V2.alloc (.cells #[.int .i64 x.no, .int .u64 x.sq, .int .i64 x.of, .int .i64 x.de, .int .i64 x.pr, .int .i64 x.bo, .int .i64 x.li, .int .i64 x.to, .string x.da] 28) := ⟨_, rfl⟩
                      obtain ⟨n3, en⟩ : ∃ v, v = V2.heap.size := ⟨_, rfl⟩
                      have bV3 : Below w.heap.size w V3 := (by rw [eV]; exact bV2.alloc bV2.size _)
                      have cV3 : Below U0.heap.size U0 V3 := (by rw [eV]; exact cV2.alloc cV2.size _)
                      have z3 : blk V3 n3 = some (bn x).toArray := (by rw [eV, en]; exact blk_alloc_new _ _ _ rfl)
                      have l3 : U0.heap.size ≤ n3 := (by rw [en]; exact cV2.size)
                      have u3 : n3 < V3.heap.size := (by rw [eV, en]; simp)
                      have OV3 : V3.ownsRow U0.heap.size 28 9 _ (LL.take k).length (rowC bn (LL.take k)) := (by rw [eV]; exact OV2.alloc _)
                      rw [← eV, ← en]
                      clear eV en
                      refine wpAnyH_ready (rs := [10]) (by kernel_rfl) (by simp) ?_
                      refine AllReadyH.cons rfl (fun K hK => ?_) AllReadyH.nil
                      refine wp_append_own _ (.tmp 51) (.tmp 56) 22 rfl U0.heap.size 28 i0 (.agg #[.int .i64 0, .int .u64 0, .int .i64 0, .int .i64 0, .int .i64 0, .int .i64 0, .int .i64 0, .int .i64 0, .string ⟨#[]⟩]) 9 80 Tryd.underlying22 Hi.out Hz0.out Hz1.out Hz2.out rfl (by decide) _ (LL.take k).length (rowC bn (LL.take k)) rfl OV3 ⟨n3, 0, none⟩ 1 1 (bn x) rfl rfl (fun j' u hj' => (by rw [Addr.add_mid, Nat.zero_add, blk_cell z3]; simpa using hj')) (bn_one _) (by rw [TKL.out]; unfold maxLen; omega) (by rw [TKL.out]; omega) cV3.size ?_
                      intro v4 V4 ho hg5 _
                      have bV4 : Below w.heap.size w V4 := bV3.grown hg5 bV3.size (fun k e => by have h9 := (OV3.lt k e).1; omega)
                      have cV4 : Below U0.heap.size U0 V4 := cV3.grown hg5 cV3.size (fun k e => (OV3.lt k e).1)
                      refine hK.out _ _ (range_below hbl HG.out bV4) (fun _ => ?_)
                      clear hK K
                      (try simp only [Act.put, List.setIfInBounds_toArray, List.set_cons_zero, List.set_cons_succ, List.getElem_toArray, List.getElem_cons_succ, List.getElem_cons_zero])
                      clear hg5
                      refine wpAnyH_ready (rs := [14]) (by kernel_rfl) (by simp) ?_
                      refine AllReadyH.cons rfl (fun K hK => ?_) AllReadyH.nil
                      refine wp_append_own _ (.tmp 57) (.tmp 60) 22 rfl U0.heap.size 28 i0 (.agg #[.int .i64 0, .int .u64 0, .int .i64 0, .int .i64 0, .int .i64 0, .int .i64 0, .int .i64 0, .int .i64 0, .string ⟨#[]⟩]) 9 80 Tryd.underlying22 Hi.out Hz0.out Hz1.out Hz2.out rfl (by decide) v4 ((LL.take k).length + 1) (rowC bn (LL.take k) ++ bn x) rfl ho ⟨g, k * 9, none⟩ (LL.length - k) (co - k) (rowC bn (LL.drop k)) rfl (by rw [rowC_length bn_len, LD.out]) (fun j' u hj' => (by rw [Addr.add_mid, cV4.cell (p := ⟨g, k * 9 + j', none⟩) gU, blk_cell kg]; have h9 := row_tail HCT.out TD.out hj'; rw [TKL.out] at h9; exact h9)) (row_oneB _) (by rw [TKL.out]; unfold maxLen; omega) (by rw [TKL.out]; omega) cV4.size ?_
                      intro v5 V5 ho2 hg6 _
                      have bV5 : Below w.heap.size w V5 := bV4.grown hg6 bV4.size (fun k e => by have h9 := (ho.lt k e).1; omega)
                      refine hK.out _ _ (range_below hbl HG.out bV5) (fun _ => ?_)
                      clear hK K
                      (try simp only [Act.put, List.setIfInBounds_toArray, List.set_cons_zero, List.set_cons_succ, List.getElem_toArray, List.getElem_cons_succ, List.getElem_cons_zero])
                      refine wpAnyH_take (i := 15) (oi := _) (v := ?_) rfl (by kernel_rfl) (by kernel_rfl) (by kernel_rfl) (fun _ _ _ h => h) (Or.inl ⟨by rfl, ?_⟩) (by assumption) ?_
                      rotate_left
                      focus (intro W hSw; (try dsimp only at hSw); go_simp; (try with_reducible rfl))
                      (try simp only [Act.put, List.setIfInBounds_toArray, List.set_cons_zero, List.set_cons_succ, List.getElem_toArray, List.getElem_cons_succ, List.getElem_cons_zero])
                      refine wpAnyH_done (by kernel_rfl) ?_ _
                      have hN : Hid (V5.ownsRow w.heap.size 28 9 v5 (isort ltB (l.take (j + 1))).length (rowC bn (isort ltB (l.take (j + 1))))) := Lib.hid (by
                        have h9 := owns_base ho2 (show w.heap.size ≤ U0.heap.size from sU)
                        rw [NEXT.out, show LL.take k ++ x :: LL.drop k = LL.take k ++ [x] ++ LL.drop k by simp, rowC_append, rowC_append, rowC_one, List.length_append, List.length_append, List.length_singleton, LD.out]
                        exact h9)
                      have bN := bV5
                      clear ho ho2 hg6
                      go_wp2
                      go_roundw
                      case rel => exact ⟨j + 1, by go_num, by omega, bN, hN⟩
                      case measure => simp [intOf]; omega
                    refine AllReadyH.cons rfl (fun K hK => ?_) AllReadyH.nil
                    go_simp
                    refine hK.out _ _ (range_below hbl HG.out (bV1.alloc bV1.size _)) (fun _ => ?_)
                    clear hK K
                    (try simp only [Act.put, List.setIfInBounds_toArray, List.set_cons_zero, List.set_cons_succ, List.getElem_toArray, List.getElem_cons_succ, List.getElem_cons_zero])
                    obtain ⟨V6, eV⟩ : ∃ v, v = V1.alloc (.cells #[.int .i64 x.no, .int .u64 x.sq, .int .i64 x.of, .int .i64 x.de, .int .i64 x.pr, .int .i64 x.bo, .int .i64 x.li, .int .i64 x.to, .string x.da] 28) := ⟨_, rfl⟩
                    obtain ⟨n6, en⟩ : ∃ v, v = V1.heap.size := ⟨_, rfl⟩
                    have bV6 : Below w.heap.size w V6 := (by rw [eV]; exact bV1.alloc bV1.size _)
                    have cV6 : Below U0.heap.size U0 V6 := (by rw [eV]; exact cV1.alloc cV1.size _)
                    have z6 : blk V6 n6 = some (bn x).toArray := (by rw [eV, en]; exact blk_alloc_new _ _ _ rfl)
                    have l6 : U0.heap.size ≤ n6 := (by rw [en]; exact cV1.size)
                    have u6 : n6 < V6.heap.size := (by rw [eV, en]; simp)
                    have oV6 : V6.ownsRow n1 28 9 (.slice (some ⟨n1, 0, none⟩) 0 0) 0 [] := (by rw [eV]; exact oV1.alloc _)
                    have nz : n6 ≠ n1 := (by rw [en]; omega)
                    rw [← eV, ← en]
                    clear eV en
                    refine wpAnyH_ready (rs := [4]) (by kernel_rfl) (by simp) ?_
                    refine AllReadyH.cons rfl (fun K hK => ?_) AllReadyH.nil
                    refine wp_append_own _ (.tmp 47) (.tmp 50) 22 rfl U0.heap.size 28 i0 (.agg #[.int .i64 0, .int .u64 0, .int .i64 0, .int .i64 0, .int .i64 0, .int .i64 0, .int .i64 0, .int .i64 0, .string ⟨#[]⟩]) 9 80 Tryd.underlying22 Hi.out Hz0.out Hz1.out Hz2.out rfl (by decide) (.slice (some ⟨n1, 0, none⟩) 0 0) 0 [] rfl (owns_base oV6 l1) ⟨g, 0, none⟩ k co (rowC bn (LL.take k)) rfl (by rw [rowC_length bn_len, TKL.out]) (fun j' u hj' => (by rw [Addr.add_mid, Nat.zero_add, cV6.cell (p := ⟨g, j', none⟩) gU, blk_cell kg]; exact row_head HCT.out TD.out hj')) (row_oneB _) (by unfold maxLen; omega) (by omega) cV6.size ?_
                    intro v7 V7 ho hg5 _
                    have bV7 : Below w.heap.size w V7 := bV6.grown hg5 bV6.size (fun k e => by have h9 := (oV6.lt k e).1; omega)
                    have cV7 : Below U0.heap.size U0 V7 := cV6.grown hg5 cV6.size (fun k e => by have h9 := (oV6.lt k e).1; omega)
                    have OV7 : V7.ownsRow U0.heap.size 28 9 v7 (LL.take k).length (rowC bn (LL.take k)) := (by have h9 := ho; rw [Nat.zero_add, List.nil_append] at h9; rw [TKL.out]; exact h9)
                    replace z6 := (blk_kept (hg5.block n6 u6 (fun e => by simp [Value.ownBlock] at e; omega))).trans z6
                    replace u6 := Nat.lt_of_lt_of_le u6 hg5.size
                    refine hK.out _ _ (range_below hbl HG.out bV7) (fun _ => ?_)
                    clear hK K
                    (try simp only [Act.put, List.setIfInBounds_toArray, List.set_cons_zero, List.set_cons_succ, List.getElem_toArray, List.getElem_cons_succ, List.getElem_cons_zero])
                    clear ho hg5
                    refine wpAnyH_ready (rs := [10]) (by kernel_rfl) (by simp) ?_
                    refine AllReadyH.cons rfl (fun K hK => ?_) AllReadyH.nil
                    refine wp_append_own _ (.tmp 51) (.tmp 56) 22 rfl U0.heap.size 28 i0 (.agg #[.int .i64 0, .int .u64 0, .int .i64 0, .int .i64 0, .int .i64 0, .int .i64 0, .int .i64 0, .int .i64 0, .string ⟨#[]⟩]) 9 80 Tryd.underlying22 Hi.out Hz0.out Hz1.out Hz2.out rfl (by decide) _ (LL.take k).length (rowC bn (LL.take k)) rfl OV7 ⟨n6, 0, none⟩ 1 1 (bn x) rfl rfl (fun j' u hj' => (by rw [Addr.add_mid, Nat.zero_add, blk_cell z6]; simpa using hj')) (bn_one _) (by rw [TKL.out]; unfold maxLen; omega) (by rw [TKL.out]; omega) cV7.size ?_
                    intro v8 V8 ho hg5 _
                    have bV8 : Below w.heap.size w V8 := bV7.grown hg5 bV7.size (fun k e => by have h9 := (OV7.lt k e).1; omega)
                    have cV8 : Below U0.heap.size U0 V8 := cV7.grown hg5 cV7.size (fun k e => (OV7.lt k e).1)
                    refine hK.out _ _ (range_below hbl HG.out bV8) (fun _ => ?_)
                    clear hK K
                    (try simp only [Act.put, List.setIfInBounds_toArray, List.set_cons_zero, List.set_cons_succ, List.getElem_toArray, List.getElem_cons_succ, List.getElem_cons_zero])
                    clear hg5
                    refine wpAnyH_ready (rs := [14]) (by kernel_rfl) (by simp) ?_
                    refine AllReadyH.cons rfl (fun K hK => ?_) AllReadyH.nil
                    refine wp_append_own _ (.tmp 57) (.tmp 60) 22 rfl U0.heap.size 28 i0 (.agg #[.int .i64 0, .int .u64 0, .int .i64 0, .int .i64 0, .int .i64 0, .int .i64 0, .int .i64 0, .int .i64 0, .string ⟨#[]⟩]) 9 80 Tryd.underlying22 Hi.out Hz0.out Hz1.out Hz2.out rfl (by decide) v8 ((LL.take k).length + 1) (rowC bn (LL.take k) ++ bn x) rfl ho ⟨g, k * 9, none⟩ (LL.length - k) (co - k) (rowC bn (LL.drop k)) rfl (by rw [rowC_length bn_len, LD.out]) (fun j' u hj' => (by rw [Addr.add_mid, cV8.cell (p := ⟨g, k * 9 + j', none⟩) gU, blk_cell kg]; have h9 := row_tail HCT.out TD.out hj'; rw [TKL.out] at h9; exact h9)) (row_oneB _) (by rw [TKL.out]; unfold maxLen; omega) (by rw [TKL.out]; omega) cV8.size ?_
                    intro v9 V9 ho2 hg6 _
                    have bV9 : Below w.heap.size w V9 := bV8.grown hg6 bV8.size (fun k e => by have h9 := (ho.lt k e).1; omega)
                    refine hK.out _ _ (range_below hbl HG.out bV9) (fun _ => ?_)
                    clear hK K
                    (try simp only [Act.put, List.setIfInBounds_toArray, List.set_cons_zero, List.set_cons_succ, List.getElem_toArray, List.getElem_cons_succ, List.getElem_cons_zero])
                    refine wpAnyH_take (i := 15) (oi := _) (v := ?_) rfl (by kernel_rfl) (by kernel_rfl) (by kernel_rfl) (fun _ _ _ h => h) (Or.inl ⟨by rfl, ?_⟩) (by assumption) ?_
                    rotate_left
                    focus (intro W hSw; (try dsimp only at hSw); go_simp; (try with_reducible rfl))
                    (try simp only [Act.put, List.setIfInBounds_toArray, List.set_cons_zero, List.set_cons_succ, List.getElem_toArray, List.getElem_cons_succ, List.getElem_cons_zero])
                    refine wpAnyH_done (by kernel_rfl) ?_ _
                    have hN : Hid (V9.ownsRow w.heap.size 28 9 v9 (isort ltB (l.take (j + 1))).length (rowC bn (isort ltB (l.take (j + 1))))) := Lib.hid (by
                      have h9 := owns_base ho2 (show w.heap.size ≤ U0.heap.size from sU)
                      rw [NEXT.out, show LL.take k ++ x :: LL.drop k = LL.take k ++ [x] ++ LL.drop k by simp, rowC_append, rowC_append, rowC_one, List.length_append, List.length_append, List.length_singleton, LD.out]
                      exact h9)
                    have bN := bV9
                    clear ho ho2 hg6
                    go_wp2
                    go_roundw
                    case rel => exact ⟨j + 1, by go_num, by omega, bN, hN⟩
                    case measure => simp [intOf]; omega
                  refine AllReadyH.cons rfl (fun K hK => ?_) AllReadyH.nil
                  go_simp
                  refine hK.out _ _ (range_below hbl HG.out (bU0.alloc bU0.size _)) (fun _ => ?_)
                  clear hK K
                  (try simp only [Act.put, List.setIfInBounds_toArray, List.set_cons_zero, List.set_cons_succ, List.getElem_toArray, List.getElem_cons_succ, List.getElem_cons_zero])
                  obtain ⟨V10, eV⟩ : ∃ v, v = U0.alloc (.cells #[.int .i64 x.no, .int .u64 x.sq, .int .i64 x.of, .int .i64 x.de, .int .i64 x.pr, .int .i64 x.bo, .int .i64 x.li, .int .i64 x.to, .string x.da] 28) := ⟨_, rfl⟩
                  obtain ⟨n10, en⟩ : ∃ v, v = U0.heap.size := ⟨_, rfl⟩
                  have bV10 : Below w.heap.size w V10 := (by rw [eV]; exact bU0.alloc bU0.size _)
                  have cV10 : Below U0.heap.size U0 V10 := (by rw [eV]; exact cU0.alloc cU0.size _)
                  have z10 : blk V10 n10 = some (bn x).toArray := (by rw [eV, en]; exact blk_alloc_new _ _ _ rfl)
                  have l10 : U0.heap.size ≤ n10 := (by rw [en]; exact cU0.size)
                  have u10 : n10 < V10.heap.size := (by rw [eV, en]; simp)
                  rw [← eV, ← en]
                  clear eV en
                  refine wpAnyH_ready (rs := [0]) (by kernel_rfl) (by simp) ?_
                  refine AllReadyH.cons rfl (fun K hK => ?_) AllReadyH.nil
                  go_simp
                  refine hK.out _ _ (range_below hbl HG.out (bV10.alloc bV10.size _)) (fun _ => ?_)
                  clear hK K
                  (try simp only [Act.put, List.setIfInBounds_toArray, List.set_cons_zero, List.set_cons_succ, List.getElem_toArray, List.getElem_cons_succ, List.getElem_cons_zero])
                  obtain ⟨V11, eV⟩ : ∃ v, v = V10.alloc (.cells #[] 28) := ⟨_, rfl⟩
                  obtain ⟨n11, en⟩ : ∃ v, v = V10.heap.size := ⟨_, rfl⟩
                  have bV11 : Below w.heap.size w V11 := (by rw [eV]; exact bV10.alloc bV10.size _)
                  have cV11 : Below U0.heap.size U0 V11 := (by rw [eV]; exact cV10.alloc cV10.size _)
                  have oV11 : V11.ownsRow n11 28 9 (.slice (some ⟨n11, 0, none⟩) 0 0) 0 [] := (by rw [eV, en]; exact own_empty9 _ _)
                  have l11 : U0.heap.size ≤ n11 := (by rw [en]; exact cV10.size)
                  have u11 : n11 < V11.heap.size := (by rw [eV, en]; simp)
                  have nz : n10 ≠ n11 := (by rw [en]; omega)
                  replace z10 := (by rw [eV]; exact blk_alloc z10 _ : blk V11 n10 = some (bn x).toArray)
                  replace u10 : n10 < V11.heap.size := (by rw [eV]; simp; omega)
                  rw [← eV, ← en]
                  clear eV en
                  refine wpAnyH_ready (rs := [4]) (by kernel_rfl) (by simp) ?_
                  refine AllReadyH.cons rfl (fun K hK => ?_) AllReadyH.nil
                  refine wp_append_own _ (.tmp 47) (.tmp 50) 22 rfl U0.heap.size 28 i0 (.agg #[.int .i64 0, .int .u64 0, .int .i64 0, .int .i64 0, .int .i64 0, .int .i64 0, .int .i64 0, .int .i64 0, .string ⟨#[]⟩]) 9 80 Tryd.underlying22 Hi.out Hz0.out Hz1.out Hz2.out rfl (by decide) (.slice (some ⟨n11, 0, none⟩) 0 0) 0 [] rfl (owns_base oV11 l11) ⟨g, 0, none⟩ k co (rowC bn (LL.take k)) rfl (by rw [rowC_length bn_len, TKL.out]) (fun j' u hj' => (by rw [Addr.add_mid, Nat.zero_add, cV11.cell (p := ⟨g, j', none⟩) gU, blk_cell kg]; exact row_head HCT.out TD.out hj')) (row_oneB _) (by unfold maxLen; omega) (by omega) cV11.size ?_
                  intro v12 V12 ho hg5 _
                  have bV12 : Below w.heap.size w V12 := bV11.grown hg5 bV11.size (fun k e => by have h9 := (oV11.lt k e).1; omega)
                  have cV12 : Below U0.heap.size U0 V12 := cV11.grown hg5 cV11.size (fun k e => by have h9 := (oV11.lt k e).1; omega)
                  have OV12 : V12.ownsRow U0.heap.size 28 9 v12 (LL.take k).length (rowC bn (LL.take k)) := (by have h9 := ho; rw [Nat.zero_add, List.nil_append] at h9; rw [TKL.out]; exact h9)
                  replace z10 := (blk_kept (hg5.block n10 u10 (fun e => by simp [Value.ownBlock] at e; omega))).trans z10
                  replace u10 := Nat.lt_of_lt_of_le u10 hg5.size
                  refine hK.out _ _ (range_below hbl HG.out bV12) (fun _ => ?_)
                  clear hK K
                  (try simp only [Act.put, List.setIfInBounds_toArray, List.set_cons_zero, List.set_cons_succ, List.getElem_toArray, List.getElem_cons_succ, List.getElem_cons_zero])
                  clear ho hg5
                  refine wpAnyH_ready (rs := [10]) (by kernel_rfl) (by simp) ?_
                  refine AllReadyH.cons rfl (fun K hK => ?_) AllReadyH.nil
                  refine wp_append_own _ (.tmp 51) (.tmp 56) 22 rfl U0.heap.size 28 i0 (.agg #[.int .i64 0, .int .u64 0, .int .i64 0, .int .i64 0, .int .i64 0, .int .i64 0, .int .i64 0, .int .i64 0, .string ⟨#[]⟩]) 9 80 Tryd.underlying22 Hi.out Hz0.out Hz1.out Hz2.out rfl (by decide) _ (LL.take k).length (rowC bn (LL.take k)) rfl OV12 ⟨n10, 0, none⟩ 1 1 (bn x) rfl rfl (fun j' u hj' => (by rw [Addr.add_mid, Nat.zero_add, blk_cell z10]; simpa using hj')) (bn_one _) (by rw [TKL.out]; unfold maxLen; omega) (by rw [TKL.out]; omega) cV12.size ?_
                  intro v13 V13 ho hg5 _
                  have bV13 : Below w.heap.size w V13 := bV12.grown hg5 bV12.size (fun k e => by have h9 := (OV12.lt k e).1; omega)
                  have cV13 : Below U0.heap.size U0 V13 := cV12.grown hg5 cV12.size (fun k e => (OV12.lt k e).1)
                  refine hK.out _ _ (range_below hbl HG.out bV13) (fun _ => ?_)
                  clear hK K
                  (try simp only [Act.put, List.setIfInBounds_toArray, List.set_cons_zero, List.set_cons_succ, List.getElem_toArray, List.getElem_cons_succ, List.getElem_cons_zero])
                  clear hg5
                  refine wpAnyH_ready (rs := [14]) (by kernel_rfl) (by simp) ?_
                  refine AllReadyH.cons rfl (fun K hK => ?_) AllReadyH.nil
                  refine wp_append_own _ (.tmp 57) (.tmp 60) 22 rfl U0.heap.size 28 i0 (.agg #[.int .i64 0, .int .u64 0, .int .i64 0, .int .i64 0, .int .i64 0, .int .i64 0, .int .i64 0, .int .i64 0, .string ⟨#[]⟩]) 9 80 Tryd.underlying22 Hi.out Hz0.out Hz1.out Hz2.out rfl (by decide) v13 ((LL.take k).length + 1) (rowC bn (LL.take k) ++ bn x) rfl ho ⟨g, k * 9, none⟩ (LL.length - k) (co - k) (rowC bn (LL.drop k)) rfl (by rw [rowC_length bn_len, LD.out]) (fun j' u hj' => (by rw [Addr.add_mid, cV13.cell (p := ⟨g, k * 9 + j', none⟩) gU, blk_cell kg]; have h9 := row_tail HCT.out TD.out hj'; rw [TKL.out] at h9; exact h9)) (row_oneB _) (by rw [TKL.out]; unfold maxLen; omega) (by rw [TKL.out]; omega) cV13.size ?_
                  intro v14 V14 ho2 hg6 _
                  have bV14 : Below w.heap.size w V14 := bV13.grown hg6 bV13.size (fun k e => by have h9 := (ho.lt k e).1; omega)
                  refine hK.out _ _ (range_below hbl HG.out bV14) (fun _ => ?_)
                  clear hK K
                  (try simp only [Act.put, List.setIfInBounds_toArray, List.set_cons_zero, List.set_cons_succ, List.getElem_toArray, List.getElem_cons_succ, List.getElem_cons_zero])
                  refine wpAnyH_take (i := 15) (oi := _) (v := ?_) rfl (by kernel_rfl) (by kernel_rfl) (by kernel_rfl) (fun _ _ _ h => h) (Or.inl ⟨by rfl, ?_⟩) (by assumption) ?_
                  rotate_left
                  focus (intro W hSw; (try dsimp only at hSw); go_simp; (try with_reducible rfl))
                  (try simp only [Act.put, List.setIfInBounds_toArray, List.set_cons_zero, List.set_cons_succ, List.getElem_toArray, List.getElem_cons_succ, List.getElem_cons_zero])
                  refine wpAnyH_done (by kernel_rfl) ?_ _
                  have hN : Hid (V14.ownsRow w.heap.size 28 9 v14 (isort ltB (l.take (j + 1))).length (rowC bn (isort ltB (l.take (j + 1))))) := Lib.hid (by
                    have h9 := owns_base ho2 (show w.heap.size ≤ U0.heap.size from sU)
                    rw [NEXT.out, show LL.take k ++ x :: LL.drop k = LL.take k ++ [x] ++ LL.drop k by simp, rowC_append, rowC_append, rowC_one, List.length_append, List.length_append, List.length_singleton, LD.out]
                    exact h9)
                  have bN := bV14
                  clear ho ho2 hg6
                  go_wp2
                  go_roundw
                  case rel => exact ⟨j + 1, by go_num, by omega, bN, hN⟩
                  case measure => simp [intOf]; omega
        · obtain rfl : j = l.length := by omega
          have ho9 := ho3.out
          rw [List.take_length] at ho9
          have HO9 := Lib.hid ho9
          clear ho9 ho3
          go_wp2
          go_ret2
          rw [E9.out]
          exact ⟨_, rfl, HO9.out, hb3⟩
end Go.Proofs.YtahopnlibmiafaaDoor
