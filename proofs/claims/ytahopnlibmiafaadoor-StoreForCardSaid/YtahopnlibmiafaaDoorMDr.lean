/- Parts of a proof, printed by a program of mine out of my texts: StDel, StDrop, StDrop2. -/
import Derived.Lib.SliceRun
import Derived.OrdersHeld
import Derived.Deep.RegionHeld
import Derived.Test.YtahopnlibmiafaaDoorMX
set_option linter.unusedSimpArgs false
set_option linter.unusedVariables false
namespace Go.Proofs.YtahopnlibmiafaaDoor
open Go.RowKit
abbrev ZZ13 : Array Value := #[.int .i64 0, .int .u64 0, .int .i64 0, .int .i64 0, .int .i64 0, .int .i64 0, .int .i64 0, .int .i64 0, .string ⟨#[]⟩, .int .i64 0, .int .i64 0, .int .u64 0, .int .i64 0]
def OwnB (w : World) (base g cap : Nat) (cur : List Value) : Prop := base ≤ g ∧ w.heap[g]? = some (.cells cur.toArray 67 (0, 0)) ∧ cap ≤ maxLen ∧ cur.length = cap * 13
theorem ownB_of {w : World} {base n cap g : Nat} {xs : List Value} (h : w.ownsRow base 67 13 (.slice (some ⟨g, 0, none⟩) n cap) n xs) : ∃ cur, OwnB w base g cap cur ∧ n ≤ cap ∧ cur.take (n * 13) = xs := by
  obtain ⟨_, h2⟩ := h
  rcases h2 with ⟨h2, _⟩ | ⟨g', cap', cur, h3, h4, h5, h6, h7, h8, h9⟩
  · cases h2
  · simp only [Value.slice.injEq, Option.some.injEq, Addr.mk.injEq] at h3
    obtain ⟨⟨rfl, _⟩, _, rfl⟩ := h3
    exact ⟨cur.toList, ⟨h4, by simpa using h5, h7, by simpa using h8⟩, h6, h9⟩
theorem OwnB.row {w : World} {base g cap : Nat} {cur : List Value} (h : OwnB w base g cap cur) {n : Nat} (hn : n ≤ cap) : w.ownsRow base 67 13 (.slice (some ⟨g, 0, none⟩) n cap) n (cur.take (n * 13)) :=
  ⟨by rw [List.length_take, h.2.2.2]; exact Nat.min_eq_left (Nat.mul_le_mul_right _ hn), .inr ⟨g, cap, cur.toArray, rfl, h.1, h.2.1, hn, h.2.2.1, by simpa using h.2.2.2, rfl⟩⟩
theorem OwnB.cell {w : World} {base g cap : Nat} {cur : List Value} (h : OwnB w base g cap cur) (i : Nat) : w.cell? ⟨g, i, none⟩ = cur[i]? := by
  rw [blk_cell (blk_of h.2.1)]
  simp
section
variable {P : Program} {ops : Array Oper} {rest : List Oper} {o : Oper} {a : Act} {w : World}
theorem wpList_append_room {Q : Exit → Act → World → Prop} (hgd : o.guard = none) (s x : Operand) (t : TypeId) (ho : o.op = .call { callee := .builtin .append, args := #[s, x], argTypes := #[t, t] })
    (e : TypeId) (i : TypeInfo) (size : Nat) (ht : P.underlying t = some (.slice e)) (hi : P.info? e = some i) (hsize : i.size = size)
    (g n cap : Nat) (cur : Array Value) (hg : w.heap[g]? = some (.cells cur e (0, 0))) (hs : a.eval s = .slice (some ⟨g, 0, none⟩) n cap)
    (ad : Addr) (m c : Nat) (news : List Value) (hx : a.eval x = .slice (some ad) m c) (hl : news.length = m * size) (hnews : ∀ j u, news[j]? = some u → w.cell? (ad.add j) = some u) (h1 : ∀ u ∈ news, u.oneCell' = true)
    (hroom : n + m ≤ cap) (hfit : n * size + news.length ≤ cur.size)
    (h : wpList P ops Q rest (a.put o.dst (.slice (some ⟨g, 0, none⟩) (n + m) cap)) (w.setRow g (cur.toList.take (n * size) ++ news ++ cur.toList.drop (n * size + news.length)).toArray)) : wpList P ops Q (o :: rest) a w := by
  subst hsize
  refine wpList_plain hgd fun K hK => ?_
  have hr := run_append_room (P := P) w t o.type e i ht hi g n cap cur hg ad m c news hl hnews h1 hroom hfit
  unfold Oper.wp execOp
  simp only [ho, resolve, invoke, builtin, Sem.run_bind, Sem.run_pure, Result.andThen_ok, List.map_toArray, List.map_cons, List.map_nil, hs, hx, hr]
  exact hK _ _ h
end
theorem OwnB.setRow {w : World} {base g cap : Nat} {cur cur' : List Value} (h : OwnB w base g cap cur) (hl : cur'.length = cap * 13) : OwnB (w.setRow g cur'.toArray) base g cap cur' :=
  ⟨h.1, setRow_heap w g _ _ _ _ h.2.1, h.2.2.1, hl⟩
theorem setL_take (m : Nat) : ∀ (vs : List Value) (xs : List Value) (o : Nat), m ≤ o → (setL xs o vs).take m = xs.take m
  | [], _, _, _ => rfl
  | v :: r, xs, o, h => by
    show (setL (xs.set o v) (o + 1) r).take m = _
    rw [setL_take m r _ _ (by omega), List.take_set_of_le h]
theorem OwnB.setCells {base g cap : Nat} : ∀ (vs : List Value) (o : Nat) (cur : List Value) (w : World), OwnB w base g cap cur → OwnB (w.setCells g o vs) base g cap (setL cur o vs)
  | [], _, _, _, h => h
  | v :: r, o, cur, w, h => by
    refine OwnB.setCells r (o + 1) (cur.set o v) _ ⟨h.1, ?_, h.2.2.1, by rw [List.length_set]; exact h.2.2.2⟩
    obtain ⟨hlt, hk⟩ := Array.getElem?_eq_some_iff.1 h.2.1
    show (w.heap.modify g _)[g]? = _
    rw [Array.getElem?_eq_getElem (by rw [Array.size_modify]; exact hlt), Array.getElem_modify_self, hk]
    simp
theorem zero13 : (Builtin.zeroCells (Value.cells (.agg ZZ13)) 1).toList = ZZ13.toList := by kernel_rfl
section
variable {ops : Array Oper} {rest : List Oper} {o : Oper} {a : Act} {w : World}
theorem wpList_clear1 {Q : Exit → Act → World → Prop} (hgd : o.guard = none) (x : Operand) (ho : o.op = .call { callee := .builtin .clear, args := #[x], argTypes := #[39] })
    (base g cap p c : Nat) (cur : List Value) (hb : OwnB w base g cap cur) (hp : p + 1 ≤ cap) (hx : a.eval x = .slice (some ⟨g, p * 13, none⟩) 1 c)
    (h : wpList Tryd.prog ops Q rest (a.put o.dst (.tuple #[])) (w.setCells g (p * 13) ZZ13.toList)) : wpList Tryd.prog ops Q (o :: rest) a w := by
  refine wpList_plain hgd fun K hK => ?_
  have hz : ∀ w, (zeroValue 67).run Tryd.prog w = .ok (.agg ZZ13) w := fun w => by kernel_rfl
  have hst := run_storeCells_cells (P := Tryd.prog) g (p * 13) ZZ13.toList 0 w (fun j hj => by
    have hj : j < 13 := hj
    rw [hb.cell, List.getElem?_eq_getElem (by rw [hb.2.2.2]; omega)]
    rfl) (fun j hj => blk_frozen (blk_of hb.2.1) _) (by simp [Value.oneCell'])
  simp only [Nat.add_zero] at hst
  have hr : ∀ ty, (Builtin.clear_ #[39] ty #[.slice (some ⟨g, p * 13, none⟩) 1 c]).run Tryd.prog w = .ok (.tuple #[]) (w.setCells g (p * 13) ZZ13.toList) := fun ty => by
    simp only [Builtin.clear_, Sem.run_bind, run_underlying Tryd.underlying39, Result.andThen_ok, hz, List.getElem?_toArray, List.getElem?_cons_zero]
    rw [show (Builtin.zeroCells (Value.cells (.agg ZZ13)) 1).toList = ZZ13.toList from zero13, hst]
    rfl
  unfold Oper.wp execOp
  simp only [ho, resolve, invoke, builtin, Sem.run_bind, Sem.run_pure, Result.andThen_ok, List.map_toArray, List.map_cons, List.map_nil, hx, hr]
  exact hK _ _ h
end
end Go.Proofs.YtahopnlibmiafaaDoor
namespace Go.Proofs.YtahopnlibmiafaaDoor
open Go.RowKit
theorem rowC_drop {α : Type} {enc : α → List Value} {k : Nat} (hk : ∀ x, (enc x).length = k) (l : List α) (i : Nat) (hi : i ≤ l.length) : (rowC enc l).drop (i * k) = rowC enc (l.drop i) := by
  have e : (rowC enc (l.take i)).length = i * k := by rw [rowC_length hk, List.length_take, Nat.min_eq_left hi]
  conv => lhs; rw [← List.take_append_drop i l, rowC_append, ← e]
  rw [List.drop_left]
theorem rowC_take {α : Type} {enc : α → List Value} {k : Nat} (hk : ∀ x, (enc x).length = k) (l : List α) (i : Nat) (hi : i ≤ l.length) : (rowC enc l).take (i * k) = rowC enc (l.take i) := by
  have e : (rowC enc (l.take i)).length = i * k := by rw [rowC_length hk, List.length_take, Nat.min_eq_left hi]
  conv => lhs; rw [← List.take_append_drop i l, rowC_append, ← e]
  rw [List.take_left]
theorem OwnB.below {w w' : World} {base g cap : Nat} {cur : List Value} (h : OwnB w base g cap cur) (hb : Below w.heap.size w w') : OwnB w' base g cap cur :=
  ⟨h.1, (hb.block g (Array.getElem?_eq_some_iff.1 h.2.1).1).trans h.2.1, h.2.2.1, h.2.2.2⟩
set_option maxRecDepth 100000 in
set_option maxHeartbeats 3200000 in
theorem delete_any (base g cap i p : Nat) (l : List Itm) (hl : l.length = p + 1) (hi : i ≤ p) (hp : p ≤ 100000) (w : World) (ho : w.ownsRow base 67 13 (.slice (some ⟨g, 0, none⟩) (p + 1) cap) (p + 1) (rowC itm l)) :
    Calls Tryd.prog 79 #[.slice (some ⟨g, 0, none⟩) (p + 1) cap, .int .i64 (i : Nat), .int .i64 ((i + 1 : Nat) : Int)] w fun e w' =>
      e = .returned (.slice (some ⟨g, 0, none⟩) p cap) ∧ w'.ownsRow base 67 13 (.slice (some ⟨g, 0, none⟩) p cap) p (rowC itm (l.eraseIdx i)) ∧ w.grownBy w' (some g) := by
  obtain ⟨cur, hb, hcap, htk⟩ := ownB_of ho
  have hmax := hb.2.2.1
  unfold maxLen at hmax
  obtain ⟨i0, hi0, hz0, hz1, hz2⟩ := info_parts infoIt
  have Hi := Lib.hid hi0; have Hz1 := Lib.hid hz1
  clear hi0 hz0 hz1 hz2 ho
  obtain ⟨k, hk⟩ : ∃ k, k = i + 1 := ⟨_, rfl⟩
  rw [← hk]
  have e0 : ((i : Int) == (k : Int)) = false := by simp; omega
  obtain ⟨n, hn⟩ : ∃ n, n = p + 1 := ⟨_, rfl⟩
  rw [← hn] at htk hcap ⊢
  have hkn : k ≤ n := by omega
  have h1 : (i : Int) ≤ (k : Int) := by omega
  have h2 : (k : Int) ≤ (n : Int) := by omega
  have h3 : (n : Int) ≤ (cap : Int) := by omega
  have h4 : (k : Int) ≤ (cap : Int) := by omega
  have h5 : (i : Int) ≤ (cap : Int) := by omega
  have h6 : (p : Int) ≤ (n : Int) := by omega
  obtain ⟨m, hm⟩ : ∃ m, m = n - k := ⟨_, rfl⟩
  have him : i + m = p := by omega
  have hnews : (rowC itm (l.drop k)).length = m * 13 := by rw [rowC_length itm_len, List.length_drop]; congr 1; omega
  have hcur : ∀ j u, (rowC itm (l.drop k))[j]? = some u → cur[k * 13 + j]? = some u := fun j u hj => by
    rw [← rowC_drop itm_len l k (by omega), ← htk, List.getElem?_drop] at hj
    rw [hn] at hj
    have hlt := (List.getElem?_eq_some_iff.1 hj).1
    rw [List.length_take] at hlt
    rw [List.getElem?_take_of_lt (by omega)] at hj
    exact hj
  have hti : cur.take (i * 13) = rowC itm (l.take i) := by
    rw [← rowC_take itm_len l i (by omega), ← htk, List.take_take]
    congr 1
    have : i * 13 ≤ n * 13 := Nat.mul_le_mul_right _ (by omega)
    omega
  have her : l.eraseIdx i = l.take i ++ l.drop k := by rw [List.eraseIdx_eq_take_drop_succ, hk]
  have HB := Lib.hid hb; have HN := Lib.hid hn; have HK := Lib.hid hk; have HM := Lib.hid hm; have HIM := Lib.hid him; have HNW := Lib.hid hnews; have HC := Lib.hid hcur; have HTI := Lib.hid hti; have HER := Lib.hid her
  have hps : n - p = 1 := by omega
  have HPS := Lib.hid hps
  clear hb hn hk hm him hnews hcur hti her htk hps
  have l2 : decide ((i : Int) ≤ (k : Int)) = true := decide_eq_true h1
  have g0 : w.grownBy w (some g) := ⟨rfl, rfl, rfl, Nat.le_refl _, fun _ _ _ => rfl⟩
  by_cases hck : cap = k
  · have hck2 : (cap = k) = True := eq_true hck
    have hcz := Lib.hid hck
    clear hck
    go_enter Tryd.func79, Tryd.ntmps79
    go_upto_region 5 with fail
    refine wp_region_tail 6 (by kernel_rfl) (by kernel_rfl) ?_
    intro W0 hE hN
    have HB0 : Hid (OwnB W0 base g cap cur) := Lib.hid (by rw [hE.out]; exact HB.out)
    have g1 : w.grownBy W0 (some g) := (by rw [hE.out]; exact g0)
    clear hE g0
    simp only [List.take_succ_cons, List.take_zero, List.drop_succ_cons, List.drop_zero]
    repeat (go_big_quiet_step (fail))
    refine wpQuiet_nil ?_
    rintro _ ⟨x', rfl⟩
    have HB1 := Lib.hid (HB0.out.below x'.ok)
    have g2 := grown_below g1 x'.ok
    obtain ⟨u, hu⟩ : ∃ u, u = x'.wd := ⟨_, rfl⟩
    rw [← hu] at HB1 g2 ⊢
    clear hu x' hN g1 HB0
    have hlc : cur.length = cap * 13 := HB.out.2.2.2
    refine wpList_append_room rfl (.tmp 22) (.tmp 25) 39 rfl 67 i0 13 Tryd.underlying39 Hi.out Hz1.out g i cap cur.toArray HB1.out.2.1 rfl ⟨g, 0, none⟩ (n - k) (cap - k) (rowC itm (l.drop k)) rfl (by rw [HNW.out, HM.out]) (fun j u hj => (by have h9 := (List.getElem?_eq_some_iff.1 hj).1; rw [HNW.out] at h9; have := HM.out; have := hcz.out; omega)) (rowI_one_cell _) (by have := HIM.out; have := HM.out; omega) (by rw [HNW.out]; have := HIM.out; simp only [List.size_toArray, hlc]; omega) ?_
    have e1 : i + (n - k) = p := by rw [← HM.out]; exact HIM.out
    rw [e1]
    conv => arg 5; simp [Act.put]
    obtain ⟨cur1, hc1⟩ : ∃ c, c = cur.take (i * 13) ++ rowC itm (l.drop k) ++ cur.drop (i * 13 + (rowC itm (l.drop k)).length) := ⟨_, rfl⟩
    obtain ⟨W1, hW1⟩ : ∃ W, W = u.setRow g (cur.toArray.toList.take (i * 13) ++ rowC itm (l.drop k) ++ cur.toArray.toList.drop (i * 13 + (rowC itm (l.drop k)).length)).toArray := ⟨_, rfl⟩
    rw [← hW1]
    have HB2 : Hid (OwnB W1 base g cap cur1) := Lib.hid (by
      rw [hW1, hc1]
      refine HB1.out.setRow ?_
      simp only [List.length_append, List.length_take, List.length_drop, HNW.out, hlc]
      have := HIM.out
      omega)
    have g3 : w.grownBy W1 (some g) := (by rw [hW1]; exact ⟨g2.os, g2.tape, g2.output, by simpa [World.setRow] using g2.size, fun k hk hn => (setRow_other u g k _ (fun e => hn (by rw [e]))).trans (g2.block k hk hn)⟩)
    have hc2 : cur1.take (p * 13) = rowC itm (l.eraseIdx i) := by
      rw [HER.out, rowC_append, hc1, ← HTI.out, List.take_append_of_le_length (by simp only [List.length_append, List.length_take, HNW.out, hlc]; have := HIM.out; omega)]
      refine List.take_of_length_le ?_
      simp only [List.length_append, List.length_take, HNW.out]
      have := HIM.out
      omega
    have HC2 := Lib.hid hc2
    clear hW1 hc1 hc2 e1 HB1 g2 HC HNW HTI HER hlc
    have hps := HPS.out
    have hcp : ¬ (cap = p) := by omega
    have h7 : (p : Int) ≤ (cap : Int) := by omega
    go_upto_region 6 with fail
    refine wp_region_tail0 5 ?_
    intro W0 hE hN
    have HB0 : Hid (OwnB W0 base g cap cur1) := Lib.hid (by rw [hE.out]; exact HB2.out)
    have g1 : w.grownBy W0 (some g) := (by rw [hE.out]; exact g3)
    clear hE g3 HB2
    simp only [List.take_succ_cons, List.take_zero, List.drop_succ_cons, List.drop_zero]
    repeat (go_big_quiet_step (fail))
    refine wpQuiet_nil ?_
    rintro _ ⟨x', rfl⟩
    have HB1 := Lib.hid (HB0.out.below x'.ok)
    have g2 := grown_below g1 x'.ok
    obtain ⟨u2, hu⟩ : ∃ u, u = x'.wd := ⟨_, rfl⟩
    rw [← hu] at HB1 g2 ⊢
    clear hu x' hN g1 HB0
    refine wpList_clear1 rfl (.tmp 31) rfl base g cap p (cap - p) cur1 HB1.out (by omega) rfl ?_
    have HB4 := Lib.hid (HB1.out.setCells ZZ13.toList (p * 13) cur1 u2)
    have g4 := grown_cells (g := g) ZZ13.toList (p * 13) u2 g2
    obtain ⟨W2, hW2⟩ : ∃ W, W = u2.setCells g (p * 13) ZZ13.toList := ⟨_, rfl⟩
    rw [← hW2] at HB4 g4 ⊢
    clear hW2 HB1 g2
    conv => arg 5; simp [Act.put]
    go_wp2
    go_ret
    refine ⟨rfl, ?_, g4⟩
    have := HB4.out.row (n := p) (by omega)
    rw [setL_take _ _ _ _ (Nat.le_refl _), HC2.out] at this
    exact this
  · have hck2 : ¬ (cap = k) := hck
    go_enter Tryd.func79, Tryd.ntmps79
    go_upto_region 5 with fail
    refine wp_region_tail 6 (by kernel_rfl) (by kernel_rfl) ?_
    intro W0 hE hN
    have HB0 : Hid (OwnB W0 base g cap cur) := Lib.hid (by rw [hE.out]; exact HB.out)
    have g1 : w.grownBy W0 (some g) := (by rw [hE.out]; exact g0)
    clear hE g0
    simp only [List.take_succ_cons, List.take_zero, List.drop_succ_cons, List.drop_zero]
    repeat (go_big_quiet_step (fail))
    refine wpQuiet_nil ?_
    rintro _ ⟨x', rfl⟩
    have HB1 := Lib.hid (HB0.out.below x'.ok)
    have g2 := grown_below g1 x'.ok
    obtain ⟨u, hu⟩ : ∃ u, u = x'.wd := ⟨_, rfl⟩
    rw [← hu] at HB1 g2 ⊢
    clear hu x' hN g1 HB0
    have hlc : cur.length = cap * 13 := HB.out.2.2.2
    refine wpList_append_room rfl (.tmp 22) (.tmp 25) 39 rfl 67 i0 13 Tryd.underlying39 Hi.out Hz1.out g i cap cur.toArray HB1.out.2.1 rfl ⟨g, k * 13, none⟩ (n - k) (cap - k) (rowC itm (l.drop k)) rfl (by rw [HNW.out, HM.out]) (fun j u hj => (by rw [Addr.add_mid, HB1.out.cell]; exact HC.out j u hj)) (rowI_one_cell _) (by have := HIM.out; have := HM.out; omega) (by rw [HNW.out]; have := HIM.out; simp only [List.size_toArray, hlc]; omega) ?_
    have e1 : i + (n - k) = p := by rw [← HM.out]; exact HIM.out
    rw [e1]
    conv => arg 5; simp [Act.put]
    obtain ⟨cur1, hc1⟩ : ∃ c, c = cur.take (i * 13) ++ rowC itm (l.drop k) ++ cur.drop (i * 13 + (rowC itm (l.drop k)).length) := ⟨_, rfl⟩
    obtain ⟨W1, hW1⟩ : ∃ W, W = u.setRow g (cur.toArray.toList.take (i * 13) ++ rowC itm (l.drop k) ++ cur.toArray.toList.drop (i * 13 + (rowC itm (l.drop k)).length)).toArray := ⟨_, rfl⟩
    rw [← hW1]
    have HB2 : Hid (OwnB W1 base g cap cur1) := Lib.hid (by
      rw [hW1, hc1]
      refine HB1.out.setRow ?_
      simp only [List.length_append, List.length_take, List.length_drop, HNW.out, hlc]
      have := HIM.out
      omega)
    have g3 : w.grownBy W1 (some g) := (by rw [hW1]; exact ⟨g2.os, g2.tape, g2.output, by simpa [World.setRow] using g2.size, fun k hk hn => (setRow_other u g k _ (fun e => hn (by rw [e]))).trans (g2.block k hk hn)⟩)
    have hc2 : cur1.take (p * 13) = rowC itm (l.eraseIdx i) := by
      rw [HER.out, rowC_append, hc1, ← HTI.out, List.take_append_of_le_length (by simp only [List.length_append, List.length_take, HNW.out, hlc]; have := HIM.out; omega)]
      refine List.take_of_length_le ?_
      simp only [List.length_append, List.length_take, HNW.out]
      have := HIM.out
      omega
    have HC2 := Lib.hid hc2
    clear hW1 hc1 hc2 e1 HB1 g2 HC HNW HTI HER hlc
    have hps := HPS.out
    have hcp : ¬ (cap = p) := by omega
    have h7 : (p : Int) ≤ (cap : Int) := by omega
    go_upto_region 6 with fail
    refine wp_region_tail0 5 ?_
    intro W0 hE hN
    have HB0 : Hid (OwnB W0 base g cap cur1) := Lib.hid (by rw [hE.out]; exact HB2.out)
    have g1 : w.grownBy W0 (some g) := (by rw [hE.out]; exact g3)
    clear hE g3 HB2
    simp only [List.take_succ_cons, List.take_zero, List.drop_succ_cons, List.drop_zero]
    repeat (go_big_quiet_step (fail))
    refine wpQuiet_nil ?_
    rintro _ ⟨x', rfl⟩
    have HB1 := Lib.hid (HB0.out.below x'.ok)
    have g2 := grown_below g1 x'.ok
    obtain ⟨u2, hu⟩ : ∃ u, u = x'.wd := ⟨_, rfl⟩
    rw [← hu] at HB1 g2 ⊢
    clear hu x' hN g1 HB0
    refine wpList_clear1 rfl (.tmp 31) rfl base g cap p (cap - p) cur1 HB1.out (by omega) rfl ?_
    have HB4 := Lib.hid (HB1.out.setCells ZZ13.toList (p * 13) cur1 u2)
    have g4 := grown_cells (g := g) ZZ13.toList (p * 13) u2 g2
    obtain ⟨W2, hW2⟩ : ∃ W, W = u2.setCells g (p * 13) ZZ13.toList := ⟨_, rfl⟩
    rw [← hW2] at HB4 g4 ⊢
    clear hW2 HB1 g2
    conv => arg 5; simp [Act.put]
    go_wp2
    go_ret
    refine ⟨rfl, ?_, g4⟩
    have := HB4.out.row (n := p) (by omega)
    rw [setL_take _ _ _ _ (Nat.le_refl _), HC2.out] at this
    exact this
end Go.Proofs.YtahopnlibmiafaaDoor
namespace Go.Proofs.YtahopnlibmiafaaDoor
open Go.RowKit
theorem dropS_bad {l : List Itm} {k : Id3} (h : (findS l k).2 ≠ 0) : dropS l k = ([], (findS l k).2) := by unfold dropS; rw [if_pos h]
theorem dropS_at {l : List Itm} {k : Id3} {i : Nat} (h : findS l k = ((i : Int), 0)) : dropS l k = (l.eraseIdx i, 0) := by
  unfold dropS
  rw [h, if_neg (fun h => h rfl)]
  simp only [Int.toNat_natCast]
theorem SRow.drop {α : Type} {enc : α → List Value} {k : Nat} {w : World} {b off cap : Nat} {l : List α} (h : SRow enc k w (some ⟨b, off, none⟩) cap l) {i : Nat} (hi : i < l.length) : SRow enc k w (some ⟨b, off + i * k, none⟩) (cap - i) (l.drop i) := by
  obtain ⟨h1, h2, h3, h4⟩ := h
  refine ⟨by rw [List.length_drop]; omega, by omega, (fun h => by cases h), fun h0 => ?_⟩
  obtain ⟨b', off', e, hlt, hc⟩ := h4 (by omega)
  cases e
  refine ⟨b, off + i * k, rfl, hlt, fun j hj => ?_⟩
  have := hc (i + j) (by rw [List.length_drop] at hj; omega)
  rw [List.getElem_drop]
  rwa [Nat.add_mul, ← Nat.add_assoc] at this
set_option maxRecDepth 100000 in
set_option maxHeartbeats 3200000 in
theorem drop_any (a : Option Addr) (cap : Nat) (l : List Itm) (k : Id3) (hd : ∀ x ∈ l, x.b.da.size ≤ maxLen) (w : World) (hrow : SRow itm 13 w a cap l) :
    Calls Tryd.prog 32 #[.slice a l.length cap, .agg (idL k).toArray] w fun e w' => RetS (dropS l k) w e w' := by
  have g1 : ∀ W, Below w.heap.size w W → Calls Tryd.prog 78 #[.slice a l.length cap, .agg #[.int .i64 k.1, .int .u64 k.2.1, .int .i64 k.2.2]] W fun e w' => e = .returned (.tuple #[.int .i64 (findS l k).1, .int .i64 (findS l k).2]) ∧ Below W.heap.size W w' := fun W hB => sfind_any a cap l k hd W (hrow.below hB)
  by_cases hf : (findS l k).2 = 0
  · obtain ⟨i, hi, hf2, _, hv⟩ := findS_ok hf
    rw [dropS_at hf2]
    rw [hf2] at g1
    replace g1 := Lib.hid g1
    have q0 : ((0 : Int) != 0) = false := rfl
    have hcap := hrow.1
    have hmax := hrow.2.1
    unfold maxLen at hmax
    have h1000 := hv.1
    have g2 : ∀ W, Below w.heap.size w W → Calls Tryd.prog 76 #[.slice a l.length cap] W fun e w' => OwnS l W e w' := fun W hB => clone_any a cap l (by omega) W (hrow.below hB)
    replace g2 := Lib.hid g2
    clear hrow hd hf hf2 hv
    obtain ⟨k1, k2, k3⟩ := k
    show Calls Tryd.prog 32 #[.slice a l.length cap, .agg #[.int .i64 k1, .int .u64 k2, .int .i64 k3]] w _
    obtain ⟨p, hp⟩ : ∃ p, l.length = p + 1 := ⟨l.length - 1, by omega⟩
    obtain ⟨kk, hkk⟩ : ∃ k, k = i + 1 := ⟨_, rfl⟩
    have m1 : IntKind.i64.wrap ((i : Int) + 1) = (kk : Int) := (IntWalk.i64_in _ (by omega)).trans (by omega)
    have HKK := Lib.hid hkk
    have HP := Lib.hid hp
    have hle : (l.eraseIdx i).length = p := by rw [List.length_eraseIdx_of_lt hi]; omega
    have HE := Lib.hid hle
    have hip : i ≤ p := by omega
    have hp5 : p ≤ 100000 := by omega
    clear hp hle hkk
    go_enter Tryd.func32, Tryd.ntmps32
    go_wp2_with (first | (go_at_call 78; (with_reducible refine (g1.out _ (by (repeat (first | (with_reducible assumption) | (with_reducible exact Below.refl _ _) | (with_reducible refine beld_drew ?_) | ((with_reducible refine bset' ?_ ?_); (first | (focus (dsimp only; assumption)) | (focus (simp; done)) | (focus (dsimp only; omega)))) | (with_reducible refine belt_alloc ?_) | ((with_reducible refine zeroed_below' ?_ ?_); (first | (focus (simp; done)) | (focus (dsimp only; omega)))) | (with_reducible refine bt ?_ (by assumption)))))).mono ?_); rintro e w2 ⟨rfl, h2'⟩; (have b2 : Below w.heap.size w w2 := (by (repeat (first | (with_reducible assumption) | (with_reducible exact Below.refl _ _) | (with_reducible refine beld_drew ?_) | ((with_reducible refine bset' ?_ ?_); (first | (focus (dsimp only; assumption)) | (focus (simp; done)) | (focus (dsimp only; omega)))) | (with_reducible refine belt_alloc ?_) | ((with_reducible refine zeroed_below' ?_ ?_); (first | (focus (simp; done)) | (focus (dsimp only; omega)))) | (with_reducible refine bt ?_ (by assumption)))))); clear h2') | (go_at_call 76; (with_reducible refine (g2.out _ b2).mono ?_); rintro e w3 ⟨v3, rfl, ho3, hB3⟩; (obtain ⟨g, cap3, rfl, hg3, hl3, hc3, hm3, hcell, hfz⟩ := owns_parts ho3 (by omega)); (have b3 := bt b2 hB3); (rw [HP.out] at ho3); (have gd0 := delete_any _ g cap3 i p l HP.out hip hp5 w3 ho3); (rw [← HKK.out] at gd0); (have gd := Lib.hid gd0); clear gd0; (rw [HP.out]); (have hg0 : w.heap.size ≤ g := Nat.le_trans b2.size hg3); (have s3 := b2.size); clear ho3 hcell hB3) | (go_at_call 79; (with_reducible refine (gd.out).mono ?_); rintro e w4 ⟨rfl, ho4, hg4⟩; (have b4 := b3.grown hg4 b3.size (fun k e => by cases e; exact hg0)); (have HO4 := Lib.hid ho4); clear ho4 hg4))
    go_ret2
    refine ⟨_, rfl, ?_, b4⟩
    show World.ownsRow _ _ _ _ _ (l.eraseIdx i).length _
    rw [HE.out]
    exact owns_base HO4.out s3
  · rw [dropS_bad hf]
    obtain ⟨c, hc⟩ : ∃ c, (findS l k).2 = c := ⟨_, rfl⟩
    obtain ⟨d, hdd⟩ : ∃ c, (findS l k).1 = c := ⟨_, rfl⟩
    rw [hc] at g1 hf ⊢
    rw [hdd] at g1
    have q0 : (c != 0) = true := by simpa using hf
    replace g1 := Lib.hid g1
    clear hc hf hdd hd hrow
    obtain ⟨k1, k2, k3⟩ := k
    show Calls Tryd.prog 32 #[.slice a l.length cap, .agg #[.int .i64 k1, .int .u64 k2, .int .i64 k3]] w _
    go_enter Tryd.func32, Tryd.ntmps32
    go_wp2_with (go_at_call 78; (with_reducible refine (g1.out _ (by (repeat (first | (with_reducible assumption) | (with_reducible exact Below.refl _ _) | (with_reducible refine beld_drew ?_) | ((with_reducible refine bset' ?_ ?_); (first | (focus (dsimp only; assumption)) | (focus (simp; done)) | (focus (dsimp only; omega)))) | (with_reducible refine belt_alloc ?_) | ((with_reducible refine zeroed_below' ?_ ?_); (first | (focus (simp; done)) | (focus (dsimp only; omega)))) | (with_reducible refine bt ?_ (by assumption)))))).mono ?_); rintro e w2 ⟨rfl, h2⟩)
    go_ret2
    exact RetS.err _ (by (repeat (first | (with_reducible assumption) | (with_reducible exact Below.refl _ _) | (with_reducible refine beld_drew ?_) | ((with_reducible refine bset' ?_ ?_); (first | (focus (dsimp only; assumption)) | (focus (simp; done)) | (focus (dsimp only; omega)))) | (with_reducible refine belt_alloc ?_) | ((with_reducible refine zeroed_below' ?_ ?_); (first | (focus (simp; done)) | (focus (dsimp only; omega)))) | (with_reducible refine bt ?_ (by assumption)))))
end Go.Proofs.YtahopnlibmiafaaDoor
