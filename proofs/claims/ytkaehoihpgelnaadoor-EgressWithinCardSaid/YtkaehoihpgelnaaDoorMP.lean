/- Parts of a proof, printed by a program of mine out of my texts: EgMir, EgLeft. -/
import Derived.Test.YtkaehoihpgelnaaDoorMF
import Derived.Test.YtkaehoihpgelnaaDoorML
import Derived.Test.YtkaehoihpgelnaaDoorMX9
set_option linter.unusedSimpArgs false
set_option linter.unusedVariables false
namespace Go.Proofs.YtkaehoihpgelnaaDoor
theorem sorted_unique {α : Type} {R : α → α → Prop} (asym : ∀ a b, R a b → ¬ R b a) : ∀ (xs ys : List α), xs.Pairwise R → ys.Pairwise R → (∀ z, z ∈ xs ↔ z ∈ ys) → xs = ys
  | [], ys, _, _, h => by
    cases ys with
    | nil => rfl
    | cons y r => exact absurd ((h y).2 (by simp)) (by simp)
  | x :: r, [], _, _, h => absurd ((h x).1 (by simp)) (by simp)
  | x :: r, y :: s, h1, h2, h => by
    obtain ⟨a1, a2⟩ := List.pairwise_cons.1 h1
    obtain ⟨b1, b2⟩ := List.pairwise_cons.1 h2
    have e : x = y := by
      rcases List.mem_cons.1 ((h x).1 (by simp)) with e | hx
      · exact e
      · rcases List.mem_cons.1 ((h y).2 (by simp)) with e | hy
        · exact e.symm
        · exact absurd (a1 y hy) (asym _ _ (b1 x hx))
    subst e
    have hr : ∀ z ∈ r, z ≠ x := fun z hz e => by subst e; exact asym _ _ (a1 z hz) (a1 z hz)
    have hs : ∀ z ∈ s, z ≠ x := fun z hz e => by subst e; exact asym _ _ (b1 z hz) (b1 z hz)
    rw [sorted_unique asym r s a2 b2 (fun z => ⟨fun hz => by
      rcases List.mem_cons.1 ((h z).1 (List.mem_cons_of_mem _ hz)) with e | h9
      · exact absurd e (hr z hz)
      · exact h9, fun hz => by
      rcases List.mem_cons.1 ((h z).2 (List.mem_cons_of_mem _ hz)) with e | h9
      · exact absurd e (hs z hz)
      · exact h9⟩)]
theorem candQ_map {f f2 : Int → Bool} {blk : Bool} {s : Int → Int} {q : List Int} (h : ∀ i ∈ q, f2 (s i) = f i) (h0 : ∀ i ∈ q, 0 ≤ i) : candQ f2 blk (q.map s) = if candQ f blk q = -1 then -1 else s (candQ f blk q) := by
  cases q with
  | nil => rfl
  | cons i r =>
    have hi := h i (by simp)
    have hr : ∀ j ∈ r, f2 (s j) = f j := fun j hj => h j (List.mem_cons_of_mem _ hj)
    have hr0 : ∀ j ∈ r, 0 ≤ j := fun j hj => h0 j (List.mem_cons_of_mem _ hj)
    rw [List.map_cons]
    cases hf : f i with
    | true =>
      rw [hf] at hi
      rw [candQ_fit hi, candQ_fit hf, if_neg (by have := h0 i (by simp); omega)]
    | false =>
      rw [hf] at hi
      cases blk with
      | true => rw [candQ_blk hi, candQ_blk hf, if_pos rfl]
      | false =>
        rw [candQ_rest hi, candQ_rest hf]
        clear h hi hf h0
        induction r with
        | nil => rfl
        | cons j r ih =>
          rw [List.map_cons, List.find?_cons, List.find?_cons, hr j (by simp)]
          cases hj : f j with
          | true =>
            simp only [Option.getD_some]
            rw [if_neg (by have := hr0 j (by simp); omega)]
          | false => exact ih (fun k hk => hr k (List.mem_cons_of_mem _ hk)) (fun k hk => hr0 k (List.mem_cons_of_mem _ hk))
end Go.Proofs.YtkaehoihpgelnaaDoor
namespace Go.Proofs.YtkaehoihpgelnaaDoor
def keepI (L : List Int) (k : Nat) : List Nat := (List.range k).filter (fun i => decide ((i : Int) ∉ L))
def leftE (l : List Bn) (L : List Int) (k : Nat) : List Bn := (keepI L k).map (fun (i : Nat) => bnL l i)
theorem keepI_yes {L : List Int} {k : Nat} (h : (k : Int) ∉ L) : keepI L (k + 1) = keepI L k ++ [k] := by
  unfold keepI; rw [List.range_succ, List.filter_append]; simp [h]
theorem keepI_no {L : List Int} {k : Nat} (h : (k : Int) ∈ L) : keepI L (k + 1) = keepI L k := by
  unfold keepI; rw [List.range_succ, List.filter_append]; simp [h]
theorem leftE_yes {l : List Bn} {L : List Int} {k : Nat} (hk : k < l.length) (h : (k : Int) ∉ L) : leftE l L (k + 1) = leftE l L k ++ [l[k]] := by
  unfold leftE; rw [keepI_yes h, List.map_append]; simp [bnL_nat l k hk]
theorem leftE_no {l : List Bn} {L : List Int} {k : Nat} (h : (k : Int) ∈ L) : leftE l L (k + 1) = leftE l L k := by
  unfold leftE; rw [keepI_no h]
theorem keepI_len (L : List Int) (k : Nat) : (keepI L k).length ≤ k := by
  unfold keepI; exact Nat.le_trans (List.length_filter_le _ _) (by simp)
theorem leftE_len (l : List Bn) (L : List Int) (k : Nat) : (leftE l L k).length ≤ k := by
  unfold leftE; rw [List.length_map]; exact keepI_len L k
theorem keepI_mem {L : List Int} {k i : Nat} : i ∈ keepI L k ↔ i < k ∧ (i : Int) ∉ L := by
  unfold keepI; rw [List.mem_filter]; simp
theorem keepI_pw (L : List Int) (k : Nat) : (keepI L k).Pairwise (fun a b => a < b) := by
  unfold keepI; exact List.pairwise_lt_range.filter _
def tE (L : List Int) (n : Nat) (i : Int) : Int := ((keepI L n).getD i.toNat 0 : Nat)
theorem tE_nat {L : List Int} {n i : Nat} (h : i < (keepI L n).length) : tE L n i = ((keepI L n)[i] : Nat) := by
  unfold tE; rw [Int.toNat_natCast, List.getD_eq_getElem?_getD, List.getElem?_eq_getElem h]; rfl
theorem left_at {l : List Bn} {L : List Int} {n i : Nat} (h : i < (leftE l L n).length) : (leftE l L n)[i] = bnL l (tE L n i) := by
  have h' : i < (keepI L n).length := by unfold leftE at h; rwa [List.length_map] at h
  rw [tE_nat h']
  exact List.getElem_map _
theorem left_mem {l : List Bn} {L : List Int} : ∀ x ∈ leftE l L l.length, x ∈ l := by
  intro x hx
  unfold leftE at hx
  obtain ⟨i, hi, rfl⟩ := List.mem_map.1 hx
  have := (keepI_mem.1 hi).1
  rw [bnL_nat l i this]
  exact List.getElem_mem this
theorem left_idx {l : List Bn} {L : List Int} {i : Nat} (h : i < (leftE l L l.length).length) : ∃ k : Nat, tE L l.length i = k ∧ k < l.length ∧ (k : Int) ∉ L ∧ ∃ hk : k < l.length, (leftE l L l.length)[i] = l[k] := by
  have h' : i < (keepI L l.length).length := by unfold leftE at h; rwa [List.length_map] at h
  obtain ⟨h1, h2⟩ := keepI_mem.1 (List.getElem_mem h')
  refine ⟨(keepI L l.length)[i], tE_nat h', h1, h2, h1, ?_⟩
  rw [left_at h, tE_nat h', bnL_nat l _ h1]
theorem left_inj {l : List Bn} {L : List Int} {i j : Nat} (h : i < (leftE l L l.length).length) (h2 : j < (leftE l L l.length).length) (e : tE L l.length i = tE L l.length j) : i = j := by
  have h' : i < (keepI L l.length).length := by unfold leftE at h; rwa [List.length_map] at h
  have h2' : j < (keepI L l.length).length := by unfold leftE at h2; rwa [List.length_map] at h2
  rw [tE_nat h', tE_nat h2'] at e
  have hp := List.pairwise_iff_getElem.1 (keepI_pw L l.length)
  rcases Nat.lt_trichotomy i j with hij | hij | hij
  · have := hp i j h' h2' hij; omega
  · exact hij
  · have := hp j i h2' h' hij; omega
theorem left_ids {l : List Bn} {L : List Int} (h : IdsE l) : IdsE (leftE l L l.length) := by
  intro i j hi hj e1 e2 e3
  obtain ⟨k, tk, _, _, hk, ek⟩ := left_idx hi
  obtain ⟨m, tm, _, _, hm, em⟩ := left_idx hj
  rw [ek, em] at e1 e2 e3
  have := h k m hk hm e1 e2 e3
  subst this
  exact left_inj hi hj (by rw [tk, tm])
theorem left_que {l : List Bn} {L : List Int} (h : IdsE l) (p : Int) : (queS (leftE l L l.length) p).map (tE L l.length) = (queS l p).filter (fun x => decide (x ∉ L)) := by
  refine sorted_unique (R := fun a b => ltQ l a b = true) (fun a b h1 h2 => by rw [ltQ_asym _ _ _ h1] at h2; cases h2) _ _ ?_ ((queS_strict h p).filter _) (fun z => ?_)
  · rw [List.pairwise_map]
    refine (queS_strict (left_ids h) p).imp_of_mem (fun {a b} ha hb hab => ?_)
    obtain ⟨i, rfl, hi, _⟩ := queS_mem.1 ha
    obtain ⟨k, rfl, hk, _⟩ := queS_mem.1 hb
    unfold ltQ at hab ⊢
    rw [bnL_nat _ i hi, bnL_nat _ k hk, left_at hi, left_at hk] at hab
    exact hab
  · rw [List.mem_map, List.mem_filter, queS_mem]
    constructor
    · rintro ⟨x, hx, rfl⟩
      obtain ⟨i, rfl, hi, hp⟩ := queS_mem.1 hx
      obtain ⟨k, tk, hk, hn, hk2, ek⟩ := left_idx hi
      rw [ek] at hp
      exact ⟨⟨k, tk, hk2, hp⟩, by rw [tk]; simpa using hn⟩
    · rintro ⟨⟨k, rfl, hk, hp⟩, hn⟩
      have hn' : (k : Int) ∉ L := by simpa using hn
      obtain ⟨i, hi, e⟩ := List.getElem_of_mem (keepI_mem.2 ⟨hk, hn'⟩)
      have hi' : i < (leftE l L l.length).length := by unfold leftE; rw [List.length_map]; exact hi
      have et : tE L l.length i = k := by rw [tE_nat hi, e]
      refine ⟨i, queS_mem.2 ⟨i, rfl, hi', ?_⟩, et⟩
      rw [left_at hi', et, bnL_nat l k hk]; exact hp
theorem sumZ_snoc {sz : List Int} {L : List Int} {i : Nat} (h : i < L.length) : sumZ sz (L.take (i + 1)) = sumZ sz (L.take i) + at3 sz L[i] := by
  rw [List.take_succ_eq_append_getElem h]
  unfold sumZ
  rw [List.map_append, List.foldr_append]
  generalize (L.take i).map (at3 sz) = M
  induction M with
  | nil => simp
  | cons x M ih => simp only [List.map_cons, List.map_nil, List.foldr_cons, List.foldr_nil] at ih ⊢; omega
theorem gd_all : ∀ (n : Nat) (w : Wy), GdAll w → GdAll (allS n w).2
  | 0, w, h => h
  | n + 1, w, h => by
    by_cases hz : (chooseS w).2.2 = 0
    · rw [allS_succ hz]
      obtain ⟨_, _, _, _, s⟩ := step_gd h hz
      exact gd_all n _ s.gd
    · rw [allS_zero hz]; exact h
theorem chkX_ok {r : Rr} {ps : List Int} (h1 : okD r) (h2 : ps.length = 3) (h3 : okP ps) : chkX r ps = 0 := by
  unfold chkX
  rw [chkD_ok h1, if_neg (by simp), if_neg (by omega), if_pos h3]
structure WitE (l : List Bn) (us bu by' : Int) (R : List Int × Wy) : Prop where
  mem : ∀ i (h : i < R.1.length), ∃ m : Nat, R.1[i] = m ∧ m < l.length
  nd : R.1.Nodup
  sz : ∀ m : Nat, m < l.length → 1 ≤ at3 (sizesE l) m ∧ at3 (sizesE l) m ≤ 1200
  leU : sumZ (sizesE l) R.1 ≤ us
  leB : sumZ (sizesE l) R.1 ≤ bu
  gd : GdAll R.2
  opn : OpnG R.2.dr R.2.ps (leftE l R.1 l.length) (us - sumZ (sizesE l) R.1) (bu - sumZ (sizesE l) R.1) by'
  non : candsS (opnW R.2.dr R.2.ps (leftE l R.1 l.length) (us - sumZ (sizesE l) R.1) (bu - sumZ (sizesE l) R.1) by') = [-1, -1, -1]
theorem sumZ_pos {sz : List Int} : ∀ {L : List Int}, (∀ x ∈ L, 0 ≤ at3 sz x) → 0 ≤ sumZ sz L
  | [], _ => Int.le_refl _
  | x :: L, h => by
    have h1 := h x (by simp)
    have h2 := sumZ_pos (L := L) (fun y hy => h y (List.mem_cons_of_mem _ hy))
    rw [sumZ_cons]; omega
theorem within_all {l : List Bn} (h : MadeE l) {us bu by' : Int} (h1 : 0 ≤ us ∧ us ≤ 900) (h2 : 0 ≤ bu ∧ bu ≤ 900) (h3 : 0 ≤ by' ∧ by' ≤ 100) : WitE l us bu by' (allS (l.length + 1) (firW l us bu by')) := by
  have hl := h.len
  have hs := made_spec h us bu by'
  have hg := gd_all (l.length + 1) _ (opnW_gda (made_opn h (us := us) (bu := bu) (by' := by') (by omega) (by omega) h3)).1
  rw [opn_fir] at hg
  obtain ⟨R, hR⟩ : ∃ R, R = allS (l.length + 1) (firW l us bu by') := ⟨_, rfl⟩
  rw [← hR] at hs hg ⊢
  have hmem : ∀ i (h : i < R.1.length), ∃ m : Nat, R.1[i] = m ∧ m < l.length := fun i hi => by
    obtain ⟨p, a0, a2, hm⟩ := hs.mem _ (List.getElem_mem hi)
    rw [firW_qu _ _ _ _ p a0 a2] at hm
    obtain ⟨n, hn, hl, _⟩ := queS_mem.1 hm
    exact ⟨n, hn, hl⟩
  have hsz : ∀ m : Nat, m < l.length → 1 ≤ at3 (sizesE l) m ∧ at3 (sizesE l) m ≤ 1200 := fun m hm => by
    rw [sizesE_at l m hm]; exact (bcode_facts (h.ok m hm)).2.2.2
  have hu : R.2.us = us - sumZ (sizesE l) R.1 := hs.us
  have hb : R.2.bu = bu - sumZ (sizesE l) R.1 := hs.bu
  have hu0 := hs.us0 h1.1
  have hb0 := hs.bu0 h2.1
  have hp0 : 0 ≤ sumZ (sizesE l) R.1 := sumZ_pos (fun x hx => by
    obtain ⟨i, hi, rfl⟩ := List.getElem_of_mem hx
    obtain ⟨m, hm, hml⟩ := hmem i hi
    rw [hm]; have := (hsz m hml).1; omega)
  have hopn : OpnG R.2.dr R.2.ps (leftE l R.1 l.length) (us - sumZ (sizesE l) R.1) (bu - sumZ (sizesE l) R.1) by' := by
    have hll := leftE_len l R.1 l.length
    refine ⟨by omega, chkX_ok hg.gd.dr hg.gd.ps3 hg.ps, lstE_zero (by omega) (fun i hi => h.codes _ (left_mem _ (List.getElem_mem hi))) ?_, fun x hx => ?_, by omega, by omega, h3⟩
    · show ((leftE l R.1 l.length).map bid).Nodup
      rw [List.Nodup, List.pairwise_iff_getElem]
      intro i j hi hj hij e
      simp only [List.length_map] at hi hj
      rw [List.getElem_map, List.getElem_map] at e
      simp only [bid, Prod.mk.injEq] at e
      exact absurd (left_ids h.ids i j hi hj e.1 e.2.1 e.2.2) (by omega)
    · obtain ⟨i, hi, rfl⟩ := List.getElem_of_mem (left_mem _ hx)
      rw [h.sq i hi]; omega
  refine ⟨hmem, hs.nd, hsz, by omega, by omega, hg, hopn, ?_⟩
  have hc : ∀ p : Int, 0 ≤ p → p ≤ 2 → candA (opnW R.2.dr R.2.ps (leftE l R.1 l.length) (us - sumZ (sizesE l) R.1) (bu - sumZ (sizesE l) R.1) by') p = -1 := fun p a0 a2 => by
    have hf := hs.fin p a0 a2
    have eq : quA (opnW R.2.dr R.2.ps (leftE l R.1 l.length) (us - sumZ (sizesE l) R.1) (bu - sumZ (sizesE l) R.1) by') p = queS (leftE l R.1 l.length) p := by
      rcases (by omega : p = 0 ∨ p = 1 ∨ p = 2) with rfl | rfl | rfl <;> rfl
    unfold candA at hf ⊢
    rw [eq]
    have e9 : quA R.2 p = (queS (leftE l R.1 l.length) p).map (tE R.1 l.length) := by
      rw [hs.qu p a0 a2, firW_qu _ _ _ _ p a0 a2, left_que h.ids]
    have hpos : ∀ i ∈ queS (leftE l R.1 l.length) p, 0 ≤ i := fun i hi => by obtain ⟨n, rfl, _⟩ := queS_mem.1 hi; omega
    rw [e9, candQ_map (f := fitS (sizesE (leftE l R.1 l.length)) (us - sumZ (sizesE l) R.1) (bu - sumZ (sizesE l) R.1)) (fun i hi => ?_) hpos, hs.by_] at hf
    · show candQ (fitS (sizesE (leftE l R.1 l.length)) (us - sumZ (sizesE l) R.1) (bu - sumZ (sizesE l) R.1)) (decide (by' ≤ at3 R.2.ps p)) (queS (leftE l R.1 l.length) p) = -1
      split at hf
      · rename_i h9; exact h9
      · exfalso
        unfold tE at hf
        omega
    · obtain ⟨n, rfl, hn, _⟩ := queS_mem.1 hi
      obtain ⟨k, tk, hk, _, hk2, ek⟩ := left_idx hn
      unfold fitS
      rw [hs.sz, hu, hb, tk, sizesE_at _ n hn, ek]
      show (decide (at3 (sizesE l) k ≤ _) && decide (at3 (sizesE l) k ≤ _)) = _
      rw [sizesE_at l k hk2]
  unfold candsS
  rw [hc 0 (by omega) (by omega), hc 1 (by omega) (by omega), hc 2 (by omega) (by omega)]
end Go.Proofs.YtkaehoihpgelnaaDoor
