/- Parts of a proof, printed by a program of mine out of my texts: EgMir, EgMir2, EgSameX. -/
import Derived.Test.YtkaehoihpgelnaaDoorMF
import Derived.Test.YtkaehoihpgelnaaDoorMI
import Derived.Test.YtkaehoihpgelnaaDoorML
import Derived.Test.YtkaehoihpgelnaaDoorMW
import Derived.Test.YtkaehoihpgelnaaDoorMX9
set_option linter.unusedSimpArgs false
set_option linter.unusedVariables false
namespace Go.Proofs.YtkaehoihpgelnaaDoor
theorem sorted_unique {α : Type} {R : α → α → Prop} (asym : ∀ a b, R a b → ¬ R b a) : ∀ (xs ys : List α), xs.Pairwise R → ys.Pairwise R → (∀ z, z ∈ xs ↔ z ∈ ys) → xs = ys
  | [], ys, _, _, h => by
    cases ys with
    | nil => rfl
    | cons y r => exact absurd ((h y).2 (by simp)) (by simp)
  | x :: r, [], _, _, h => absurd ((h x).1 (by simp)) (by simp)
  | x :: r, y :: s, h1, h2, h => by
    obtain ⟨a1, a2⟩ := List.pairwise_cons.1 h1
    obtain ⟨b1, b2⟩ := List.pairwise_cons.1 h2
    have e : x = y := by
      rcases List.mem_cons.1 ((h x).1 (by simp)) with e | hx
      · exact e
      · rcases List.mem_cons.1 ((h y).2 (by simp)) with e | hy
        · exact e.symm
        · exact absurd (a1 y hy) (asym _ _ (b1 x hx))
    subst e
    have hr : ∀ z ∈ r, z ≠ x := fun z hz e => by subst e; exact asym _ _ (a1 z hz) (a1 z hz)
    have hs : ∀ z ∈ s, z ≠ x := fun z hz e => by subst e; exact asym _ _ (b1 z hz) (b1 z hz)
    rw [sorted_unique asym r s a2 b2 (fun z => ⟨fun hz => by
      rcases List.mem_cons.1 ((h z).1 (List.mem_cons_of_mem _ hz)) with e | h9
      · exact absurd e (hr z hz)
      · exact h9, fun hz => by
      rcases List.mem_cons.1 ((h z).2 (List.mem_cons_of_mem _ hz)) with e | h9
      · exact absurd e (hs z hz)
      · exact h9⟩)]
structure Mir (s : Int → Int) (w w2 : Wy) : Prop where
  dr : w2.dr = w.dr
  ps : w2.ps = w.ps
  us : w2.us = w.us
  bu : w2.bu = w.bu
  by_ : w2.by' = w.by'
  qu : ∀ p : Int, 0 ≤ p → p ≤ 2 → quA w2 p = (quA w p).map s
  sz : ∀ p : Int, 0 ≤ p → p ≤ 2 → ∀ i ∈ quA w p, at3 w2.sz (s i) = at3 w.sz i
  pos : ∀ p : Int, 0 ≤ p → p ≤ 2 → ∀ i ∈ quA w p, 0 ≤ s i
  inj : ∀ p : Int, 0 ≤ p → p ≤ 2 → ∀ i ∈ quA w p, ∀ j ∈ quA w p, s i = s j → i = j
theorem candQ_map {f f2 : Int → Bool} {blk : Bool} {s : Int → Int} {q : List Int} (h : ∀ i ∈ q, f2 (s i) = f i) (h0 : ∀ i ∈ q, 0 ≤ i) : candQ f2 blk (q.map s) = if candQ f blk q = -1 then -1 else s (candQ f blk q) := by
  cases q with
  | nil => rfl
  | cons i r =>
    have hi := h i (by simp)
    have hr : ∀ j ∈ r, f2 (s j) = f j := fun j hj => h j (List.mem_cons_of_mem _ hj)
    have hr0 : ∀ j ∈ r, 0 ≤ j := fun j hj => h0 j (List.mem_cons_of_mem _ hj)
    rw [List.map_cons]
    cases hf : f i with
    | true =>
      rw [hf] at hi
      rw [candQ_fit hi, candQ_fit hf, if_neg (by have := h0 i (by simp); omega)]
    | false =>
      rw [hf] at hi
      cases blk with
      | true => rw [candQ_blk hi, candQ_blk hf, if_pos rfl]
      | false =>
        rw [candQ_rest hi, candQ_rest hf]
        clear h hi hf h0
        induction r with
        | nil => rfl
        | cons j r ih =>
          rw [List.map_cons, List.find?_cons, List.find?_cons, hr j (by simp)]
          cases hj : f j with
          | true =>
            simp only [Option.getD_some]
            rw [if_neg (by have := hr0 j (by simp); omega)]
          | false => exact ih (fun k hk => hr k (List.mem_cons_of_mem _ hk)) (fun k hk => hr0 k (List.mem_cons_of_mem _ hk))
theorem mem_pos {w : Wy} (h : GdW w) {p : Int} (h0 : 0 ≤ p) (h2 : p ≤ 2) : ∀ i ∈ quA w p, 0 ≤ i := fun i hi => by
  obtain ⟨n, hn, _⟩ := h.mem p h0 h2 i hi
  omega
theorem mir_cand {s : Int → Int} {w w2 : Wy} (m : Mir s w w2) (h : GdW w) {p : Int} (h0 : 0 ≤ p) (h2 : p ≤ 2) : candA w2 p = if candA w p = -1 then -1 else s (candA w p) := by
  unfold candA
  rw [m.qu p h0 h2, m.by_, m.ps]
  refine candQ_map (fun i hi => ?_) (mem_pos h h0 h2)
  unfold fitS
  rw [m.sz p h0 h2 i hi, m.us, m.bu]
theorem mir_head {s : Int → Int} {w w2 : Wy} (m : Mir s w w2) (h : GdW w) {p : Int} (h0 : 0 ≤ p) (h2 : p ≤ 2) : headA w2 p = headA w p := by
  have hc := mir_cand m h h0 h2
  unfold headA
  rcases cand_pos h h0 h2 with h1 | ⟨h1, _, h3, _⟩
  · rw [h1, if_pos rfl] at hc
    rw [hc, h1]; rfl
  · rw [if_neg (by omega)] at hc
    have := m.pos p h0 h2 _ h1
    rw [hc, if_neg (by omega), if_neg (by omega), m.sz p h0 h2 _ h1]
theorem mir_heads {s : Int → Int} {w w2 : Wy} (m : Mir s w w2) (h : GdW w) : headsS w2 = headsS w := by
  unfold headsS
  rw [mir_head m h (p := 0) (by omega) (by omega), mir_head m h (p := 1) (by omega) (by omega), mir_head m h (p := 2) (by omega) (by omega)]
theorem choose_err {w : Wy} : (chooseS w).2.2 = linD w.dr (headsS w) := by
  unfold chooseS
  split
  · rfl
  · rename_i h; exact (Classical.byContradiction fun e => h (fun e2 => e e2.symm))
theorem mir_step {s : Int → Int} {w w2 : Wy} (m : Mir s w w2) (h : GdW w) (h' : GdW w2) (hz : (chooseS w).2.2 = 0) : (chooseS w2).2.2 = 0 ∧ (chooseS w2).1 = s (chooseS w).1 ∧ Mir s (stepW w) (stepW w2) := by
  have hh := mir_heads m h
  have hz2 : (chooseS w2).2.2 = 0 := by rw [choose_err, hh, m.dr, ← choose_err]; exact hz
  refine ⟨hz2, ?_⟩
  obtain ⟨p, h0, h2, hpe, hi, hm, hf, hpos, hw, hok⟩ := choose_some h hz
  obtain ⟨p2, k0, k2, kpe, ki, km, kf, kpos, kw, kok⟩ := choose_some h' hz2
  rw [hh, m.dr, ← hpe] at kpe
  subst kpe
  obtain ⟨q, S⟩ := step_some h hz
  obtain ⟨q2, S2⟩ := step_some h' hz2
  have hq : q = p2 := by
    obtain ⟨_, _, _, e1⟩ := h.mem q S.p0 S.p2 _ S.mem
    obtain ⟨_, _, _, e2⟩ := h.mem p2 h0 h2 _ hm
    rw [← S.i, hi] at e1
    rw [e1] at e2; exact e2
  have hq2 : q2 = p2 := by
    obtain ⟨_, _, _, e1⟩ := h'.mem q2 S2.p0 S2.p2 _ S2.mem
    obtain ⟨_, _, _, e2⟩ := h'.mem p2 h0 h2 _ km
    rw [← S2.i, ki] at e1
    rw [e1] at e2; exact e2
  subst hq
  subst hq2
  have hc := mir_cand m h h0 h2
  rw [if_neg (by omega)] at hc
  refine ⟨by rw [ki, hi, hc], ?_⟩
  have hsub : ∀ p' : Int, 0 ≤ p' → p' ≤ 2 → ∀ i ∈ quA (stepW w) p', i ∈ quA w p' := fun p' a0 a2 i hi => by
    rw [S.qu p' a0 a2] at hi
    split at hi
    · rename_i e; subst e; exact (List.mem_filter.1 hi).1
    · exact hi
  have ehead : (at3 (quA w2 q2) 0 = candA w2 q2) ↔ (at3 (quA w q2) 0 = candA w q2) := by
    rw [m.qu q2 h0 h2, hc]
    have hq0 : 0 < (quA w q2).length := List.length_pos_of_mem hm
    have e1 : at3 ((quA w q2).map s) 0 = s (quA w q2)[0] := by
      unfold at3; rw [List.getD_eq_getElem?_getD]; simp [List.getElem?_eq_getElem hq0]
    have e2 : at3 (quA w q2) 0 = (quA w q2)[0] := by
      unfold at3; rw [List.getD_eq_getElem?_getD]; simp [List.getElem?_eq_getElem hq0]
    rw [e1, e2]
    exact ⟨fun e => m.inj q2 h0 h2 _ (List.getElem_mem hq0) _ hm e, fun e => by rw [e]⟩
  have hd1 : (stepW w).dr = (nextD w.dr (headsS w)).2 := by show (chooseS w).2.1.dr = _; rw [hw]
  have hd2 : (stepW w2).dr = (nextD w2.dr (headsS w2)).2 := by show (chooseS w2).2.1.dr = _; rw [kw]
  have hp1 : (stepW w).ps = w.ps.set q2.toNat (if at3 (quA w q2) 0 = candA w q2 then 0 else at3 w.ps q2 + 1) := by show (chooseS w).2.1.ps = _; rw [hw]
  have hp2 : (stepW w2).ps = w2.ps.set q2.toNat (if at3 (quA w2 q2) 0 = candA w2 q2 then 0 else at3 w2.ps q2 + 1) := by show (chooseS w2).2.1.ps = _; rw [kw]
  refine ⟨by rw [hd1, hd2, hh, m.dr], ?_, by rw [S.us, S2.us, m.us, hc, m.sz q2 h0 h2 _ hm], by rw [S.bu, S2.bu, m.bu, hc, m.sz q2 h0 h2 _ hm], by rw [S.by_, S2.by_, m.by_], fun p' a0 a2 => ?_, fun p' a0 a2 i hi => ?_, fun p' a0 a2 i hi => m.pos p' a0 a2 i (hsub p' a0 a2 i hi), fun p' a0 a2 i hi j hj e => m.inj p' a0 a2 i (hsub p' a0 a2 i hi) j (hsub p' a0 a2 j hj) e⟩
  · rw [hp1, hp2, m.ps]
    by_cases e : at3 (quA w q2) 0 = candA w q2
    · rw [if_pos e, if_pos (ehead.2 e)]
    · rw [if_neg e, if_neg (fun e2 => e (ehead.1 e2))]
  · rw [S.qu p' a0 a2, S2.qu p' a0 a2]
    by_cases e : p' = q2
    · subst e
      rw [if_pos rfl, if_pos rfl, m.qu p' a0 a2, List.filter_map]
      congr 1
      refine List.filter_congr (fun i hi => ?_)
      simp only [Function.comp]
      rw [hc]
      by_cases e9 : i = candA w p'
      · subst e9; simp
      · have : s i ≠ s (candA w p') := fun e8 => e9 (m.inj p' a0 a2 i hi _ hm e8)
        simp [e9, this]
    · rw [if_neg e, if_neg e, m.qu p' a0 a2]
  · rw [S.sz, S2.sz]
    exact m.sz p' a0 a2 i (hsub p' a0 a2 i hi)
theorem mir_all {s : Int → Int} : ∀ (n : Nat) (w w2 : Wy), Mir s w w2 → GdW w → GdW w2 → (allS n w2).1 = (allS n w).1.map s ∧ (allS n w2).2.dr = (allS n w).2.dr ∧ (allS n w2).2.ps = (allS n w).2.ps
  | 0, w, w2, m, _, _ => ⟨rfl, m.dr, m.ps⟩
  | n + 1, w, w2, m, h, h' => by
    by_cases hz : (chooseS w).2.2 = 0
    · obtain ⟨hz2, hi, m2⟩ := mir_step m h h' hz
      obtain ⟨q, S⟩ := step_some h hz
      obtain ⟨q2, S2⟩ := step_some h' hz2
      obtain ⟨i1, i2, i3⟩ := mir_all n _ _ m2 S.gd S2.gd
      rw [allS_succ hz, allS_succ hz2]
      exact ⟨by rw [List.map_cons, hi, i1], i2, i3⟩
    · have hz2 : (chooseS w2).2.2 ≠ 0 := by rw [choose_err, mir_heads m h, m.dr, ← choose_err]; exact hz
      rw [allS_zero hz, allS_zero hz2]
      exact ⟨rfl, m.dr, m.ps⟩
end Go.Proofs.YtkaehoihpgelnaaDoor
namespace Go.Proofs.YtkaehoihpgelnaaDoor
theorem rev_at {l : List Bn} {i : Nat} (hi : i < l.length) : l.reverse[l.length - 1 - i]? = some l[i] := by
  rw [List.getElem?_reverse (by omega), List.getElem?_eq_getElem (by omega)]
  congr 1
  congr 1
  omega
def mirI (n : Nat) (i : Int) : Int := (n : Int) - 1 - i
theorem mirI_nat {n i : Nat} (h : i < n) : mirI n i = ((n - 1 - i : Nat) : Int) := by unfold mirI; omega
theorem bnL_rev {l : List Bn} {i : Nat} (hi : i < l.length) : bnL l.reverse (mirI l.length i) = l[i] := by
  rw [mirI_nat hi]
  unfold bnL
  rw [Int.toNat_natCast, List.getD_eq_getElem?_getD, rev_at hi]; rfl
theorem at_rev {l : List Bn} {i : Nat} (hi : i < l.length) : at3 (sizesE l.reverse) (mirI l.length i) = at3 (sizesE l) i := by
  rw [sizesE_at l i hi, mirI_nat hi]
  unfold at3 sizesE
  rw [Int.toNat_natCast, List.getD_eq_getElem?_getD, List.getElem?_map, rev_at hi]; rfl
theorem rev_get {l : List Bn} {i : Nat} (hi : i < l.reverse.length) : l.reverse[i] = l[l.length - 1 - i]'(by rw [List.length_reverse] at hi; omega) := by
  rw [List.getElem_reverse]
theorem ids_rev {l : List Bn} (h : IdsE l) : IdsE l.reverse := by
  intro i k hi hk h1 h2 h3
  rw [rev_get hi, rev_get hk] at h1 h2 h3
  have := h _ _ _ _ h1 h2 h3
  rw [List.length_reverse] at hi hk
  omega
theorem que_rev {l : List Bn} (h : IdsE l) (p : Int) : queS l.reverse p = (queS l p).map (mirI l.length) := by
  refine sorted_unique (R := fun a b => ltQ l.reverse a b = true) (fun a b h1 h2 => by rw [ltQ_asym _ _ _ h1] at h2; cases h2) _ _ (queS_strict (ids_rev h) p) ?_ (fun z => ?_)
  · rw [List.pairwise_map]
    refine (queS_strict h p).imp_of_mem (fun {a b} ha hb hab => ?_)
    obtain ⟨i, rfl, hi, _⟩ := queS_mem.1 ha
    obtain ⟨k, rfl, hk, _⟩ := queS_mem.1 hb
    unfold ltQ at hab ⊢
    rw [bnL_nat l i hi, bnL_nat l k hk] at hab
    rw [bnL_rev hi, bnL_rev hk]
    exact hab
  · rw [queS_mem, List.mem_map]
    constructor
    · rintro ⟨i, rfl, hi, hp⟩
      rw [rev_get hi] at hp
      rw [List.length_reverse] at hi
      exact ⟨((l.length - 1 - i : Nat) : Int), queS_mem.2 ⟨_, rfl, by omega, hp⟩, by unfold mirI; omega⟩
    · rintro ⟨j, hj, rfl⟩
      obtain ⟨i, rfl, hi, hp⟩ := queS_mem.1 hj
      refine ⟨l.length - 1 - i, mirI_nat hi, by rw [List.length_reverse]; omega, ?_⟩
      rw [rev_get]
      have e : l.length - 1 - (l.length - 1 - i) = i := by omega
      simp only [e]
      exact hp
theorem rev_opn {l : List Bn} (h : MadeE l) {us bu by' : Int} (h1 : 0 ≤ us ∧ us ≤ 18446744073709551615) (h2 : 0 ≤ bu ∧ bu ≤ 9223372036854775807) (h3 : 0 ≤ by' ∧ by' ≤ 100) : OpnG fstR [0, 0, 0] l.reverse us bu by' := by
  have hl := h.len
  have hm : ∀ x ∈ l.reverse, x ∈ l := fun x hx => List.mem_reverse.1 hx
  refine ⟨by rw [List.length_reverse]; omega, by decide, lstE_zero (by rw [List.length_reverse]; omega) (fun i hi => h.codes _ (hm _ (List.getElem_mem hi))) ?_, fun x hx => ?_, h1, h2, h3⟩
  · show (l.reverse.map bid).Nodup
    rw [List.map_reverse]
    have h9 : (l.map bid).Nodup := h.nodup
    exact (List.reverse_perm _).nodup_iff.2 h9
  · obtain ⟨i, hi, rfl⟩ := List.getElem_of_mem (hm x hx)
    rw [h.sq i hi]; omega
theorem rev_gd {l : List Bn} (h : MadeE l) (us bu by' : Int) : GdW (firW l.reverse us bu by') := firW_gd (fun i hi => (bcode_facts (h.codes _ (List.mem_reverse.1 (List.getElem_mem hi)))).2.2.2) us bu by'
theorem rev_mir {l : List Bn} (h : MadeE l) (us bu by' : Int) : Mir (mirI l.length) (firW l us bu by') (firW l.reverse us bu by') := by
  have hq : ∀ p : Int, 0 ≤ p → p ≤ 2 → ∀ i ∈ quA (firW l us bu by') p, ∃ n : Nat, i = n ∧ n < l.length := fun p h0 h2 i hi => by
    rw [firW_qu _ _ _ _ p h0 h2] at hi
    obtain ⟨n, hn, hl, _⟩ := queS_mem.1 hi
    exact ⟨n, hn, hl⟩
  refine ⟨rfl, rfl, rfl, rfl, rfl, fun p h0 h2 => ?_, fun p h0 h2 i hi => ?_, fun p h0 h2 i hi => ?_, fun p h0 h2 i hi j hj e => ?_⟩
  · rw [firW_qu _ _ _ _ p h0 h2, firW_qu _ _ _ _ p h0 h2, que_rev h.ids]
  · obtain ⟨n, rfl, hn⟩ := hq p h0 h2 i hi
    exact at_rev hn
  · obtain ⟨n, rfl, hn⟩ := hq p h0 h2 i hi
    rw [mirI_nat hn]; omega
  · unfold mirI at e; omega
structure OrdE (n : Nat) (L L2 : List Int) : Prop where
  len : L2.length = L.length
  at_ : ∀ i (h : i < L.length), ∃ a b : Nat, L[i] = a ∧ L2[i]'(by rw [len]; exact h) = b ∧ a + b + 1 = n
theorem rev_all {l : List Bn} (h : MadeE l) (us bu by' : Int) : OrdE l.length (allS (l.length + 1) (firW l us bu by')).1 (allS (l.length + 1) (firW l.reverse us bu by')).1 ∧ (allS (l.length + 1) (firW l.reverse us bu by')).2.dr = (allS (l.length + 1) (firW l us bu by')).2.dr ∧ (allS (l.length + 1) (firW l.reverse us bu by')).2.ps = (allS (l.length + 1) (firW l us bu by')).2.ps := by
  obtain ⟨h1, h2, h3⟩ := mir_all (l.length + 1) _ _ (rev_mir h us bu by') (made_gd h us bu by') (rev_gd h us bu by')
  have hs := made_spec h us bu by'
  refine ⟨⟨by rw [h1, List.length_map], fun i hi => ?_⟩, h2, h3⟩
  obtain ⟨p, a0, a2, hm⟩ := hs.mem _ (List.getElem_mem hi)
  rw [firW_qu _ _ _ _ p a0 a2] at hm
  obtain ⟨n, hn, hl, _⟩ := queS_mem.1 hm
  refine ⟨n, l.length - 1 - n, hn, ?_, by omega⟩
  simp only [h1, List.getElem_map]
  rw [hn, mirI_nat hl]
end Go.Proofs.YtkaehoihpgelnaaDoor
namespace Go.Proofs.YtkaehoihpgelnaaDoor
open Go.RowKit
def ExitG (W : World) (c : Array Value) (r : Rr) (ps : List Int) : Prop := ∃ aw cw ad cd ap cp, c = #[.slice aw r.w.length cw, .int .i64 r.q, .slice ad r.d.length cd, .int .i64 r.t, .slice ap ps.length cp] ∧ SRow ic 1 W aw cw r.w ∧ SRow ic 1 W ad cd r.d ∧ SRow ic 1 W ap cp ps
theorem ExitG.below {W W' : World} {c : Array Value} {r : Rr} {ps : List Int} (h : ExitG W c r ps) (hb : Below W.heap.size W W') : ExitG W' c r ps := by
  obtain ⟨aw, cw, ad, cd, ap, cp, e, h1, h2, h3⟩ := h
  exact ⟨aw, cw, ad, cd, ap, cp, e, h1.below hb, h2.below hb, h3.below hb⟩
theorem ExitS.g {S : Nat → Prop} {W : World} {c : Array Value} {r : Rr} {ps : List Int} (h : ExitS S W c r ps) (l1 : r.w.length = 3) (l2 : r.d.length = 3) (l3 : ps.length = 3) : ExitG W c r ps := by
  obtain ⟨aw, cw, ad, cd, ap, cp, e, h1, h2, h3, _⟩ := h
  exact ⟨aw, cw, ad, cd, ap, cp, by rw [l1, l2, l3]; exact e, h1, h2, h3⟩
def eqX (r r2 : Rr) (ps ps2 : List Int) : Bool := decide (r.w = r2.w) && (decide (r.d = r2.d) && ((r.q == r2.q) && ((r.t == r2.t) && decide (ps = ps2))))
theorem eqX_self (r : Rr) (ps : List Int) : eqX r r ps ps = true := by simp [eqX]
set_option maxRecDepth 100000 in
set_option maxHeartbeats 3200000 in
theorem sameX_any (c1 c2 : Array Value) (r r2 : Rr) (ps ps2 : List Int) (w : World) (h1 : ExitG w c1 r ps) (h2 : ExitG w c2 r2 ps2) (l1 : r.w.length ≤ 100000) (l2 : r.d.length ≤ 100000) (l3 : ps.length ≤ 100000) (m1 : r2.w.length ≤ 100000) (m2 : r2.d.length ≤ 100000) (m3 : ps2.length ≤ 100000) :
    Calls Tryd.prog 16 #[.agg c1, .agg c2] w fun e w' => e = .returned (.bool (eqX r r2 ps ps2)) ∧ Below w.heap.size w w' := by
  obtain ⟨aw1, cw1, ad1, cd1, ap1, cp1, rfl, a1, a2, a3⟩ := h1
  obtain ⟨aw2, cw2, ad2, cd2, ap2, cp2, rfl, e1, e2, e3⟩ := h2
  have g1 := Lib.hid (fun W (hB : Below w.heap.size w W) => sameZ_any aw1 aw2 cw1 cw2 r.w r2.w l1 m1 W (a1.below hB) (e1.below hB))
  have g2 := Lib.hid (fun W (hB : Below w.heap.size w W) => sameZ_any ad1 ad2 cd1 cd2 r.d r2.d l2 m2 W (a2.below hB) (e2.below hB))
  have g3 := Lib.hid (fun W (hB : Below w.heap.size w W) => sameZ_any ap1 ap2 cp1 cp2 ps ps2 l3 m3 W (a3.below hB) (e3.below hB))
  clear a1 a2 a3 e1 e2 e3 l1 l2 l3 m1 m2 m3
  unfold eqX
  obtain ⟨b1, hb1⟩ : ∃ b, decide (r.w = r2.w) = b := ⟨_, rfl⟩
  obtain ⟨b2, hb2⟩ : ∃ b, decide (r.d = r2.d) = b := ⟨_, rfl⟩
  obtain ⟨b5, hb5⟩ : ∃ b, decide (ps = ps2) = b := ⟨_, rfl⟩
  rw [hb1] at g1 ⊢; rw [hb2] at g2 ⊢; rw [hb5] at g3 ⊢
  obtain ⟨nw1, hnw1⟩ : ∃ v, v = r.w.length := ⟨_, rfl⟩
  obtain ⟨nd1, hnd1⟩ : ∃ v, v = r.d.length := ⟨_, rfl⟩
  obtain ⟨np1, hnp1⟩ : ∃ v, v = ps.length := ⟨_, rfl⟩
  obtain ⟨q1, hq1⟩ : ∃ v, v = r.q := ⟨_, rfl⟩
  obtain ⟨t1, ht1⟩ : ∃ v, v = r.t := ⟨_, rfl⟩
  obtain ⟨nw2, hnw2⟩ : ∃ v, v = r2.w.length := ⟨_, rfl⟩
  obtain ⟨nd2, hnd2⟩ : ∃ v, v = r2.d.length := ⟨_, rfl⟩
  obtain ⟨np2, hnp2⟩ : ∃ v, v = ps2.length := ⟨_, rfl⟩
  obtain ⟨q2, hq2⟩ : ∃ v, v = r2.q := ⟨_, rfl⟩
  obtain ⟨t2, ht2⟩ : ∃ v, v = r2.t := ⟨_, rfl⟩
  rw [← hnw1, ← hnw2] at g1 ⊢; rw [← hnd1, ← hnd2] at g2 ⊢; rw [← hnp1, ← hnp2] at g3 ⊢; rw [← hq1, ← hq2, ← ht1, ← ht2]
  clear hb1 hb2 hb5 hnw1 hnd1 hnp1 hq1 ht1 hnw2 hnd2 hnp2 hq2 ht2
  obtain ⟨b3, h3⟩ : ∃ b, (q1 == q2) = b := ⟨_, rfl⟩
  obtain ⟨b4, h4⟩ : ∃ b, (t1 == t2) = b := ⟨_, rfl⟩
  rw [h3, h4]
  go_enter Tryd.func16, Tryd.ntmps16
  obtain ⟨u0, hu0⟩ : ∃ v, v = (w.alloc (.cells #[.slice aw1 nw1 cw1, .int .i64 q1, .slice ad1 nd1 cd1, .int .i64 t1, .slice ap1 np1 cp1] 28)).alloc (.cells #[.slice aw2 nw2 cw2, .int .i64 q2, .slice ad2 nd2 cd2, .int .i64 t2, .slice ap2 np2 cp2] 28) := ⟨_, rfl⟩
  have blk_k0a : blk u0 w.heap.size = some #[.slice aw1 nw1 cw1, .int .i64 q1, .slice ad1 nd1 cd1, .int .i64 t1, .slice ap1 np1 cp1] := by rw [hu0]; exact blk_alloc (blk_alloc_new _ _ _ rfl) _
  have blk_k0b : blk u0 (w.heap.size + 1) = some #[.slice aw2 nw2 cw2, .int .i64 q2, .slice ad2 nd2 cd2, .int .i64 t2, .slice ap2 np2 cp2] := by rw [hu0]; exact blk_alloc_new _ _ _ (by simp)
  have B0 : Below w.heap.size w u0 := by rw [hu0]; exact ((Below.refl _ _).alloc (Nat.le_refl _) _).alloc (by simp) _
  have n0a := kn blk_k0a; have n0b := kn blk_k0b
  go_upto_region 1 with fail
  rw [← hu0]
  clear hu0
  have hun : undef = Value.tuple #[] := rfl
  cases b1
  · skip
    go_wp2_with (go_at_call 26; first | (with_reducible refine (g1.out _ B0).mono ?_; rintro e u1 ⟨rfl, h9⟩; (have B1 : Below w.heap.size w u1 := bt B0 h9); (have k1a : blk u1 w.heap.size = some #[.slice aw1 nw1 cw1, .int .i64 q1, .slice ad1 nd1 cd1, .int .i64 t1, .slice ap1 np1 cp1] := blk_below h9 blk_k0a); (have k1b : blk u1 (w.heap.size + 1) = some #[.slice aw2 nw2 cw2, .int .i64 q2, .slice ad2 nd2 cd2, .int .i64 t2, .slice ap2 np2 cp2] := blk_below h9 blk_k0b); (have n1a := kn k1a); (have n1b := kn k1b); clear h9) | (with_reducible refine (g2.out _ B1).mono ?_; rintro e u2 ⟨rfl, h9⟩; (have B2 : Below w.heap.size w u2 := bt B1 h9); (have k2a : blk u2 w.heap.size = some #[.slice aw1 nw1 cw1, .int .i64 q1, .slice ad1 nd1 cd1, .int .i64 t1, .slice ap1 np1 cp1] := blk_below h9 k1a); (have k2b : blk u2 (w.heap.size + 1) = some #[.slice aw2 nw2 cw2, .int .i64 q2, .slice ad2 nd2 cd2, .int .i64 t2, .slice ap2 np2 cp2] := blk_below h9 k1b); (have n2a := kn k2a); (have n2b := kn k2b); clear h9) | (with_reducible refine (g3.out _ B2).mono ?_; rintro e u3 ⟨rfl, h9⟩; (have B3 : Below w.heap.size w u3 := bt B2 h9); (have k3a : blk u3 w.heap.size = some #[.slice aw1 nw1 cw1, .int .i64 q1, .slice ad1 nd1 cd1, .int .i64 t1, .slice ap1 np1 cp1] := blk_below h9 k2a); (have k3b : blk u3 (w.heap.size + 1) = some #[.slice aw2 nw2 cw2, .int .i64 q2, .slice ad2 nd2 cd2, .int .i64 t2, .slice ap2 np2 cp2] := blk_below h9 k2b); (have n3a := kn k3a); (have n3b := kn k3b); clear h9))
    go_ret
    exact ⟨by simp, B1⟩
  · skip
    cases b2
    · skip
      go_wp2_with (go_at_call 26; first | (with_reducible refine (g1.out _ B0).mono ?_; rintro e u1 ⟨rfl, h9⟩; (have B1 : Below w.heap.size w u1 := bt B0 h9); (have k1a : blk u1 w.heap.size = some #[.slice aw1 nw1 cw1, .int .i64 q1, .slice ad1 nd1 cd1, .int .i64 t1, .slice ap1 np1 cp1] := blk_below h9 blk_k0a); (have k1b : blk u1 (w.heap.size + 1) = some #[.slice aw2 nw2 cw2, .int .i64 q2, .slice ad2 nd2 cd2, .int .i64 t2, .slice ap2 np2 cp2] := blk_below h9 blk_k0b); (have n1a := kn k1a); (have n1b := kn k1b); clear h9) | (with_reducible refine (g2.out _ B1).mono ?_; rintro e u2 ⟨rfl, h9⟩; (have B2 : Below w.heap.size w u2 := bt B1 h9); (have k2a : blk u2 w.heap.size = some #[.slice aw1 nw1 cw1, .int .i64 q1, .slice ad1 nd1 cd1, .int .i64 t1, .slice ap1 np1 cp1] := blk_below h9 k1a); (have k2b : blk u2 (w.heap.size + 1) = some #[.slice aw2 nw2 cw2, .int .i64 q2, .slice ad2 nd2 cd2, .int .i64 t2, .slice ap2 np2 cp2] := blk_below h9 k1b); (have n2a := kn k2a); (have n2b := kn k2b); clear h9) | (with_reducible refine (g3.out _ B2).mono ?_; rintro e u3 ⟨rfl, h9⟩; (have B3 : Below w.heap.size w u3 := bt B2 h9); (have k3a : blk u3 w.heap.size = some #[.slice aw1 nw1 cw1, .int .i64 q1, .slice ad1 nd1 cd1, .int .i64 t1, .slice ap1 np1 cp1] := blk_below h9 k2a); (have k3b : blk u3 (w.heap.size + 1) = some #[.slice aw2 nw2 cw2, .int .i64 q2, .slice ad2 nd2 cd2, .int .i64 t2, .slice ap2 np2 cp2] := blk_below h9 k2b); (have n3a := kn k3a); (have n3b := kn k3b); clear h9))
      go_ret
      exact ⟨by simp, B2⟩
    · skip
      cases b3
      · skip
        go_wp2_with (go_at_call 26; first | (with_reducible refine (g1.out _ B0).mono ?_; rintro e u1 ⟨rfl, h9⟩; (have B1 : Below w.heap.size w u1 := bt B0 h9); (have k1a : blk u1 w.heap.size = some #[.slice aw1 nw1 cw1, .int .i64 q1, .slice ad1 nd1 cd1, .int .i64 t1, .slice ap1 np1 cp1] := blk_below h9 blk_k0a); (have k1b : blk u1 (w.heap.size + 1) = some #[.slice aw2 nw2 cw2, .int .i64 q2, .slice ad2 nd2 cd2, .int .i64 t2, .slice ap2 np2 cp2] := blk_below h9 blk_k0b); (have n1a := kn k1a); (have n1b := kn k1b); clear h9) | (with_reducible refine (g2.out _ B1).mono ?_; rintro e u2 ⟨rfl, h9⟩; (have B2 : Below w.heap.size w u2 := bt B1 h9); (have k2a : blk u2 w.heap.size = some #[.slice aw1 nw1 cw1, .int .i64 q1, .slice ad1 nd1 cd1, .int .i64 t1, .slice ap1 np1 cp1] := blk_below h9 k1a); (have k2b : blk u2 (w.heap.size + 1) = some #[.slice aw2 nw2 cw2, .int .i64 q2, .slice ad2 nd2 cd2, .int .i64 t2, .slice ap2 np2 cp2] := blk_below h9 k1b); (have n2a := kn k2a); (have n2b := kn k2b); clear h9) | (with_reducible refine (g3.out _ B2).mono ?_; rintro e u3 ⟨rfl, h9⟩; (have B3 : Below w.heap.size w u3 := bt B2 h9); (have k3a : blk u3 w.heap.size = some #[.slice aw1 nw1 cw1, .int .i64 q1, .slice ad1 nd1 cd1, .int .i64 t1, .slice ap1 np1 cp1] := blk_below h9 k2a); (have k3b : blk u3 (w.heap.size + 1) = some #[.slice aw2 nw2 cw2, .int .i64 q2, .slice ad2 nd2 cd2, .int .i64 t2, .slice ap2 np2 cp2] := blk_below h9 k2b); (have n3a := kn k3a); (have n3b := kn k3b); clear h9))
        go_ret
        exact ⟨by simp, B2⟩
      · skip
        cases b4
        · skip
          go_wp2_with (go_at_call 26; first | (with_reducible refine (g1.out _ B0).mono ?_; rintro e u1 ⟨rfl, h9⟩; (have B1 : Below w.heap.size w u1 := bt B0 h9); (have k1a : blk u1 w.heap.size = some #[.slice aw1 nw1 cw1, .int .i64 q1, .slice ad1 nd1 cd1, .int .i64 t1, .slice ap1 np1 cp1] := blk_below h9 blk_k0a); (have k1b : blk u1 (w.heap.size + 1) = some #[.slice aw2 nw2 cw2, .int .i64 q2, .slice ad2 nd2 cd2, .int .i64 t2, .slice ap2 np2 cp2] := blk_below h9 blk_k0b); (have n1a := kn k1a); (have n1b := kn k1b); clear h9) | (with_reducible refine (g2.out _ B1).mono ?_; rintro e u2 ⟨rfl, h9⟩; (have B2 : Below w.heap.size w u2 := bt B1 h9); (have k2a : blk u2 w.heap.size = some #[.slice aw1 nw1 cw1, .int .i64 q1, .slice ad1 nd1 cd1, .int .i64 t1, .slice ap1 np1 cp1] := blk_below h9 k1a); (have k2b : blk u2 (w.heap.size + 1) = some #[.slice aw2 nw2 cw2, .int .i64 q2, .slice ad2 nd2 cd2, .int .i64 t2, .slice ap2 np2 cp2] := blk_below h9 k1b); (have n2a := kn k2a); (have n2b := kn k2b); clear h9) | (with_reducible refine (g3.out _ B2).mono ?_; rintro e u3 ⟨rfl, h9⟩; (have B3 : Below w.heap.size w u3 := bt B2 h9); (have k3a : blk u3 w.heap.size = some #[.slice aw1 nw1 cw1, .int .i64 q1, .slice ad1 nd1 cd1, .int .i64 t1, .slice ap1 np1 cp1] := blk_below h9 k2a); (have k3b : blk u3 (w.heap.size + 1) = some #[.slice aw2 nw2 cw2, .int .i64 q2, .slice ad2 nd2 cd2, .int .i64 t2, .slice ap2 np2 cp2] := blk_below h9 k2b); (have n3a := kn k3a); (have n3b := kn k3b); clear h9))
          go_ret
          exact ⟨by simp, B2⟩
        · skip
          cases b5
          · skip
            go_wp2_with (go_at_call 26; first | (with_reducible refine (g1.out _ B0).mono ?_; rintro e u1 ⟨rfl, h9⟩; (have B1 : Below w.heap.size w u1 := bt B0 h9); (have k1a : blk u1 w.heap.size = some #[.slice aw1 nw1 cw1, .int .i64 q1, .slice ad1 nd1 cd1, .int .i64 t1, .slice ap1 np1 cp1] := blk_below h9 blk_k0a); (have k1b : blk u1 (w.heap.size + 1) = some #[.slice aw2 nw2 cw2, .int .i64 q2, .slice ad2 nd2 cd2, .int .i64 t2, .slice ap2 np2 cp2] := blk_below h9 blk_k0b); (have n1a := kn k1a); (have n1b := kn k1b); clear h9) | (with_reducible refine (g2.out _ B1).mono ?_; rintro e u2 ⟨rfl, h9⟩; (have B2 : Below w.heap.size w u2 := bt B1 h9); (have k2a : blk u2 w.heap.size = some #[.slice aw1 nw1 cw1, .int .i64 q1, .slice ad1 nd1 cd1, .int .i64 t1, .slice ap1 np1 cp1] := blk_below h9 k1a); (have k2b : blk u2 (w.heap.size + 1) = some #[.slice aw2 nw2 cw2, .int .i64 q2, .slice ad2 nd2 cd2, .int .i64 t2, .slice ap2 np2 cp2] := blk_below h9 k1b); (have n2a := kn k2a); (have n2b := kn k2b); clear h9) | (with_reducible refine (g3.out _ B2).mono ?_; rintro e u3 ⟨rfl, h9⟩; (have B3 : Below w.heap.size w u3 := bt B2 h9); (have k3a : blk u3 w.heap.size = some #[.slice aw1 nw1 cw1, .int .i64 q1, .slice ad1 nd1 cd1, .int .i64 t1, .slice ap1 np1 cp1] := blk_below h9 k2a); (have k3b : blk u3 (w.heap.size + 1) = some #[.slice aw2 nw2 cw2, .int .i64 q2, .slice ad2 nd2 cd2, .int .i64 t2, .slice ap2 np2 cp2] := blk_below h9 k2b); (have n3a := kn k3a); (have n3b := kn k3b); clear h9))
            go_ret
            exact ⟨by simp, B3⟩
          · skip
            go_wp2_with (go_at_call 26; first | (with_reducible refine (g1.out _ B0).mono ?_; rintro e u1 ⟨rfl, h9⟩; (have B1 : Below w.heap.size w u1 := bt B0 h9); (have k1a : blk u1 w.heap.size = some #[.slice aw1 nw1 cw1, .int .i64 q1, .slice ad1 nd1 cd1, .int .i64 t1, .slice ap1 np1 cp1] := blk_below h9 blk_k0a); (have k1b : blk u1 (w.heap.size + 1) = some #[.slice aw2 nw2 cw2, .int .i64 q2, .slice ad2 nd2 cd2, .int .i64 t2, .slice ap2 np2 cp2] := blk_below h9 blk_k0b); (have n1a := kn k1a); (have n1b := kn k1b); clear h9) | (with_reducible refine (g2.out _ B1).mono ?_; rintro e u2 ⟨rfl, h9⟩; (have B2 : Below w.heap.size w u2 := bt B1 h9); (have k2a : blk u2 w.heap.size = some #[.slice aw1 nw1 cw1, .int .i64 q1, .slice ad1 nd1 cd1, .int .i64 t1, .slice ap1 np1 cp1] := blk_below h9 k1a); (have k2b : blk u2 (w.heap.size + 1) = some #[.slice aw2 nw2 cw2, .int .i64 q2, .slice ad2 nd2 cd2, .int .i64 t2, .slice ap2 np2 cp2] := blk_below h9 k1b); (have n2a := kn k2a); (have n2b := kn k2b); clear h9) | (with_reducible refine (g3.out _ B2).mono ?_; rintro e u3 ⟨rfl, h9⟩; (have B3 : Below w.heap.size w u3 := bt B2 h9); (have k3a : blk u3 w.heap.size = some #[.slice aw1 nw1 cw1, .int .i64 q1, .slice ad1 nd1 cd1, .int .i64 t1, .slice ap1 np1 cp1] := blk_below h9 k2a); (have k3b : blk u3 (w.heap.size + 1) = some #[.slice aw2 nw2 cw2, .int .i64 q2, .slice ad2 nd2 cd2, .int .i64 t2, .slice ap2 np2 cp2] := blk_below h9 k2b); (have n3a := kn k3a); (have n3b := kn k3b); clear h9))
            go_ret
            exact ⟨by simp, B3⟩
end Go.Proofs.YtkaehoihpgelnaaDoor
