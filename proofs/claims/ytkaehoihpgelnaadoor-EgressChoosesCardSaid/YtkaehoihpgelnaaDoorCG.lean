/- Parts of a proof, printed by a program of mine out of my texts: EgRAsk, EgRCan, EgRAll, EgRCn. -/
import Derived.Test.YtkaehoihpgelnaaDoorCH
import Derived.Test.YtkaehoihpgelnaaDoorCP
import Derived.Test.YtkaehoihpgelnaaDoorCT
set_option linter.unusedSimpArgs false
set_option linter.unusedVariables false
set_option maxRecDepth 100000
namespace Go.Proofs.YtkaehoihpgelnaaDoor
open Go.RowKit
set_option maxHeartbeats 800000 in
theorem rsize_any (x : Bn) (hda : x.da.size ≤ maxLen) (hsq : 0 ≤ x.sq) (h0 : 0 ≤ szB x ∧ szB x ≤ 9223372036854775807) (w : World) : Calls Tryd.prog 59 #[.agg #[.int .i64 x.no,.int .u64 x.sq,.int .i64 x.of,.int .i64 x.de,.int .i64 x.pr,.int .i64 x.bo,.int .i64 x.li,.int .i64 x.to,.string x.da]] w fun e w' => e = .returned (.int .u64 (szB x)) ∧ Below w.heap.size w w':=by
  obtain ⟨s,hs⟩ : ∃ s,szB x = s:=⟨_,rfl⟩
  have G : Hid (∀ W,Calls Tryd.prog 54 #[.agg #[.int .i64 x.no,.int .u64 x.sq,.int .i64 x.of,.int .i64 x.de,.int .i64 x.pr,.int .i64 x.bo,.int .i64 x.li,.int .i64 x.to,.string x.da]] W fun e w' => ∃ z,e = .returned (.tuple #[.int .i64 s,.int .i64 z]) ∧ Below W.heap.size W w'):=Lib.hid (fun W => by
    have h9:=refSizeB_any x.no x.sq x.of x.de x.pr x.bo x.li x.to x.da hda hsq W
    rw [← hs]
    exact h9.mono fun e w' h => ⟨_,h.1,h.2⟩)
  rw [hs] at h0 ⊢
  have v9 : IntKind.u64.wrap s = s:=by unfold IntKind.wrap;simp [IntKind.bits];omega
  clear hs hda hsq
  go_enter Tryd.func59,Tryd.ntmps59
  go_wp2_with (go_at_call 54;(with_reducible refine (G.out _).mono ?_);rintro e w1 ⟨z,rfl,h1⟩)
  go_ret
  exact ⟨rfl,bta h1⟩
theorem be1 {w : World} {a : Obj} : Below w.heap.size w (w.alloc a):=(Below.refl _ _).alloc (Nat.le_refl _) _
theorem be2 {w : World} {a b : Obj} : Below w.heap.size w ((w.alloc a).alloc b):=((Below.refl _ _).alloc (Nat.le_refl _) _).alloc (by simp) _
def asksE (x : Rr) (ps : List Int) (l : List Bn) (bu by' : Int) : Int:=if chkX x ps ≠ 0 then chkX x ps else if lstE l ≠ 0 then lstE l else if bu < 0 ∨ by' < 0 ∨ 100 < by' then 2 else 0
set_option maxHeartbeats 3200000 in
theorem asks_any (aw : Option Addr) (cw : Nat) (ad : Option Addr) (cd : Nat) (ap : Option Addr) (cp : Nat) (x : Rr) (ps : List Int) (al : Option Addr) (cl : Nat) (l : List Bn) (bu by' : Int) (hda : ∀ x ∈ l,x.da.size ≤ maxLen) (w : World) (hw : SRow ic 1 w aw cw x.w) (hd : SRow ic 1 w ad cd x.d) (hp : SRow ic 1 w ap cp ps) (hrow : SRow bn 9 w al cl l) :
    Calls Tryd.prog 56 #[.agg #[.slice aw x.w.length cw,.int .i64 x.q,.slice ad x.d.length cd,.int .i64 x.t,.slice ap ps.length cp],.slice al l.length cl,.int .i64 bu,.int .i64 by'] w fun e w' => e = .returned (.int .i64 (asksE x ps l bu by')) ∧ Below w.heap.size w w':=by
  have GK:=Lib.hid (fun W (hB : Below w.heap.size w W) => rxchk_any aw cw ad cd ap cp x ps W (hw.below hB) (hd.below hB) (hp.below hB))
  have GL:=Lib.hid (fun W (hB : Below w.heap.size w W) => rlist_any al cl l hda W (hrow.below hB))
  unfold asksE
  obtain ⟨c1,hc1⟩ : ∃ c,chkX x ps = c:=⟨_,rfl⟩
  obtain ⟨c2,hc2⟩ : ∃ c,lstE l = c:=⟨_,rfl⟩
  rw [hc1] at GK ⊢
  rw [hc2] at GL ⊢
  clear hc1 hc2 hda hw hd hp hrow
  by_cases z1 : c1 = 0
  · subst z1
    rw [if_neg (show ¬ ((0 : Int) ≠ 0) by decide)]
    have t1 : ((0 : Int) == 0) = true:=rfl
    by_cases z2 : c2 = 0
    · subst z2
      rw [if_neg (show ¬ ((0 : Int) ≠ 0) by decide)]
      by_cases b1 : bu < 0
      · rw [if_pos (.inl b1)]
        have s1 : decide (bu < 0) = true:=decide_eq_true b1
        clear b1
        go_enter Tryd.func56,Tryd.ntmps56
        go_wp2_with (first|(go_at_call 25;(with_reducible refine (GK.out _ be1).mono ?_);rintro e w1 ⟨rfl,h1⟩;(have b1:=bt be1 h1))|(go_at_call 47;(with_reducible refine (GL.out _ b1).mono ?_);rintro e w2 ⟨rfl,h2⟩))
        go_ret
        exact ⟨rfl,bt b1 h2⟩
      · have s1 : decide (bu < 0) = false:=decide_eq_false b1
        by_cases b2 : by' < 0
        · rw [if_pos (.inr (.inl b2))]
          have s2 : decide (by' < 0) = true:=decide_eq_true b2
          clear b1 b2
          go_enter Tryd.func56,Tryd.ntmps56
          go_wp2_with (first|(go_at_call 25;(with_reducible refine (GK.out _ be1).mono ?_);rintro e w1 ⟨rfl,h1⟩;(have b1:=bt be1 h1))|(go_at_call 47;(with_reducible refine (GL.out _ b1).mono ?_);rintro e w2 ⟨rfl,h2⟩))
          go_ret
          exact ⟨rfl,bt b1 h2⟩
        · have s2 : decide (by' < 0) = false:=decide_eq_false b2
          by_cases b3 : 100 < by'
          · rw [if_pos (.inr (.inr b3))]
            have s3 : decide (100 < by') = true:=decide_eq_true b3
            clear b1 b2 b3
            go_enter Tryd.func56,Tryd.ntmps56
            go_wp2_with (first|(go_at_call 25;(with_reducible refine (GK.out _ be1).mono ?_);rintro e w1 ⟨rfl,h1⟩;(have b1:=bt be1 h1))|(go_at_call 47;(with_reducible refine (GL.out _ b1).mono ?_);rintro e w2 ⟨rfl,h2⟩))
            go_ret
            exact ⟨rfl,bt b1 h2⟩
          · rw [if_neg (by omega)]
            have s3 : decide (100 < by') = false:=decide_eq_false b3
            clear b1 b2 b3
            go_enter Tryd.func56,Tryd.ntmps56
            go_wp2_with (first|(go_at_call 25;(with_reducible refine (GK.out _ be1).mono ?_);rintro e w1 ⟨rfl,h1⟩;(have b1:=bt be1 h1))|(go_at_call 47;(with_reducible refine (GL.out _ b1).mono ?_);rintro e w2 ⟨rfl,h2⟩))
            go_ret
            exact ⟨rfl,bt b1 h2⟩
    · rw [if_pos z2]
      have t2 : (c2 == 0) = false:=by simpa using z2
      clear z2
      go_enter Tryd.func56,Tryd.ntmps56
      go_wp2_with (first|(go_at_call 25;(with_reducible refine (GK.out _ be1).mono ?_);rintro e w1 ⟨rfl,h1⟩;(have b1:=bt be1 h1))|(go_at_call 47;(with_reducible refine (GL.out _ b1).mono ?_);rintro e w2 ⟨rfl,h2⟩))
      go_ret
      exact ⟨rfl,bt b1 h2⟩
  · rw [if_pos z1]
    have t2 : (c1 == 0) = false:=by simpa using z1
    clear z1
    go_enter Tryd.func56,Tryd.ntmps56
    go_wp2_with (go_at_call 25;(with_reducible refine (GK.out _ be1).mono ?_);rintro e w1 ⟨rfl,h1⟩;(have b1:=bt be1 h1))
    go_ret
    exact ⟨rfl,b1⟩
end Go.Proofs.YtkaehoihpgelnaaDoor
namespace Go.Proofs.YtkaehoihpgelnaaDoor
open Go.RowKit
theorem candQ_neg {f : Int → Bool} {b : Bool} {q : List Int} (h : ∀ x ∈ q,0 ≤ x) (h2 : candQ f b q < 0) : candQ f b q = -1:=by
  cases q with
  | nil => rfl
  | cons i r =>
    have e : candQ f b (i :: r) = if f i then i else if b then -1 else (r.find? f).getD (-1):=rfl
    rw [e] at h2 ⊢
    cases hfi : f i with
    | true => rw [hfi] at h2;simp at h2;have:=h i (by simp);omega
    | false =>
      rw [hfi] at h2
      cases b with
      | true => rfl
      | false =>
        cases hf : r.find? f with
        | none => rfl
        | some y =>
          rw [hf] at h2
          have:=h y (List.mem_cons_of_mem _ (List.mem_of_find?_eq_some hf))
          simp at h2;omega
theorem candQ_snoc {f : Int → Bool} {b : Bool} {a : List Int} {x : Int} (h : ∀ y ∈ a,0 ≤ y) :
    candQ f b (a ++ [x]) = if 0 ≤ candQ f b a then candQ f b a else if f x && (a.isEmpty || !b) then x else -1:=by
  cases a with
  | nil => simp [candQ]
  | cons i r =>
    have hi:=h i (by simp)
    show (if f i then i else if b then -1 else ((r ++ [x]).find? f).getD (-1)) = _
    have e : candQ f b (i :: r) = if f i then i else if b then -1 else (r.find? f).getD (-1):=rfl
    rw [e]
    cases hfi : f i with
    | true => simp [hi]
    | false =>
      cases b with
      | true => simp
      | false =>
        simp only [Bool.false_eq_true,if_false,List.find?_append,List.isEmpty_cons,Bool.false_or,Bool.not_false,Bool.and_true]
        cases hr : r.find? f with
        | none =>
          simp only [Option.none_or,Option.getD_none]
          rw [if_neg (by omega)]
          cases hx : f x <;> simp [List.find?_cons,hx]
        | some y =>
          have hy:=h y (List.mem_cons_of_mem _ (List.mem_of_find?_eq_some hr))
          simp [hy]
theorem candQ_app {f : Int → Bool} {b : Bool} : ∀ {c a : List Int},(∀ y ∈ a ++ c,0 ≤ y) → 0 ≤ candQ f b a → candQ f b (a ++ c) = candQ f b a
  | [],a,_,_ => by rw [List.append_nil]
  | x :: c,a,h,h0 => by
    have e : a ++ x :: c = (a ++ [x]) ++ c:=by simp
    have h1 : candQ f b (a ++ [x]) = candQ f b a:=by rw [candQ_snoc (fun y hy => h y (by simp [hy])),if_pos h0]
    rw [e,candQ_app (by rw [← e];exact h) (by rw [h1];exact h0),h1]
theorem candQ_step {f : Int → Bool} {b : Bool} {q : List Int} {k : Nat} (hk : k < q.length) (h : ∀ y ∈ q,0 ≤ y) (hc : candQ f b (q.take k) < 0) :
    candQ f b (q.take (k + 1)) = if f q[k] && (decide (k = 0) || !b) then q[k] else -1:=by
  rw [List.take_succ_eq_append_getElem hk,candQ_snoc (fun y hy => h y (List.mem_of_mem_take hy)),if_neg (by omega)]
  have e : (q.take k).isEmpty = decide (k = 0):=by
    cases k with
    | zero => simp
    | succ n =>
      have : q.take (n + 1) ≠ []:=by
        intro h9
        have h8:=congrArg List.length h9
        rw [List.length_take,List.length_nil] at h8
        omega
      cases ht : q.take (n + 1) with
      | nil => exact absurd ht this
      | cons a b => rfl
  rw [e]
theorem candQ_full {f : Int → Bool} {b : Bool} {q : List Int} {k : Nat} (h : ∀ y ∈ q,0 ≤ y) (hc : 0 ≤ candQ f b (q.take k)) : candQ f b q = candQ f b (q.take k):=by
  conv => lhs;rw [← List.take_append_drop k q]
  exact candQ_app (by rw [List.take_append_drop];exact h) hc
end Go.Proofs.YtkaehoihpgelnaaDoor
namespace Go.Proofs.YtkaehoihpgelnaaDoor
def refW (r : Rr) (ps : List Int) (l : List Bn) (tk : List Bool) (us bu by' : Int) : Wy:=⟨r,ps,l,[queT l tk 0 l.length,queT l tk 1 l.length,queT l tk 2 l.length],sizesE l,us,bu,by'⟩
theorem refW_none (r : Rr) (ps : List Int) (l : List Bn) (us bu by' : Int) : refW r ps l (List.replicate l.length false) us bu by' = opnW r ps l us bu by':=by
  unfold refW opnW;rw [queT_none,queT_none,queT_none]
theorem refW_qu {r : Rr} {ps : List Int} {l : List Bn} {tk : List Bool} {us bu by' p : Int} (h0 : 0 ≤ p) (h2 : p ≤ 2) : quA (refW r ps l tk us bu by') p = queT l tk p l.length:=by
  rcases (by omega : p = 0 ∨ p = 1 ∨ p = 2) with rfl|rfl|rfl <;> rfl
theorem idxT_nodup (l : List Bn) (tk : List Bool) (p : Int) : ∀ j,(idxT l tk p j).Nodup
  | 0 => by rw [idxT_zero];exact List.nodup_nil
  | j + 1 => by
    have ih:=idxT_nodup l tk p j
    by_cases h : j < l.length
    · by_cases hp : tk.getD j false = false ∧ l[j].pr = p
      · rw [idxT_yes h hp.1 hp.2,List.nodup_append]
        refine ⟨ih,by simp,?_⟩
        intro a ha b hb
        simp only [List.mem_singleton] at hb
        obtain ⟨i,rfl,hi,_⟩:=idxT_mem.1 ha
        omega
      · rw [idxT_no h (by
          cases ht : tk.getD j false with
          | true => exact .inl rfl
          | false => exact .inr (fun e => hp ⟨ht,e⟩))];exact ih
    · have e : idxT l tk p (j + 1) = idxT l tk p j:=by
        unfold idxT
        rw [List.range_succ,List.filterMap_append]
        have : l[j]? = none:=List.getElem?_eq_none (by omega)
        simp [this]
      rw [e];exact ih
theorem queT_nodup (l : List Bn) (tk : List Bool) (p : Int) (j : Nat) : (queT l tk p j).Nodup:=(isort_perm _ _).nodup_iff.2 (idxT_nodup l tk p _)
theorem queT_strict {l : List Bn} (hv : IdsE l) (tk : List Bool) (p : Int) (j : Nat) : (queT l tk p j).Pairwise (fun a b => ltQ l a b = true):=by
  rw [List.pairwise_iff_getElem]
  intro i k hi hk hik
  have h1:=List.pairwise_iff_getElem.1 (show Srt (ltQ l) (queT l tk p j) from isort_srt (ltQ l) (ltQ_asym l) (ltQ_nn l) _) i k hi hk hik
  have h2:=List.pairwise_iff_getElem.1 (queT_nodup l tk p j) i k hi hk hik
  obtain ⟨a,ha,_,_,hal,_⟩:=queT_mem.1 (List.getElem_mem hi)
  obtain ⟨b,hb,_,_,hbl,_⟩:=queT_mem.1 (List.getElem_mem hk)
  rw [ha,hb] at h1 h2 ⊢
  exact ltQ_tot hv hbl hal (fun e => h2 (by rw [e])) h1
theorem queT_take {l : List Bn} (hv : IdsE l) {tk : List Bool} {i : Nat} (hi : i < tk.length) (p : Int) (j : Nat) : queT l (tk.set i true) p j = (queT l tk p j).filter (· ≠ (i : Int)):=by
  refine sorted_unique (R:=fun a b => ltQ l a b = true) (fun a b h h2 => by rw [ltQ_asym l a b h] at h2;cases h2) _ _ (queT_strict hv _ p j) ((queT_strict hv tk p j).sublist List.filter_sublist) (fun z => ?_)
  rw [List.mem_filter,queT_mem,queT_mem]
  constructor
  · rintro ⟨k,rfl,h1,h2,h3⟩
    rw [List.getD_eq_getElem?_getD] at h2
    by_cases e : k = i
    · subst e
      rw [List.getElem?_set_self hi] at h2;cases h2
    · rw [List.getElem?_set_ne (fun h => e h.symm)] at h2
      refine ⟨⟨k,rfl,h1,by rw [List.getD_eq_getElem?_getD];exact h2,h3⟩,?_⟩
      simp only [ne_eq,decide_not,Bool.not_eq_true',decide_eq_false_iff_not]
      omega
  · rintro ⟨⟨k,rfl,h1,h2,h3⟩,h4⟩
    simp only [ne_eq,decide_not,Bool.not_eq_true',decide_eq_false_iff_not] at h4
    refine ⟨k,rfl,h1,?_,h3⟩
    rw [List.getD_eq_getElem?_getD,List.getElem?_set_ne (by omega),← List.getD_eq_getElem?_getD]
    exact h2
theorem step_ref {r : Rr} {ps : List Int} {l : List Bn} {tk : List Bool} {us bu by' : Int} (hv : IdsE l) (ht : tk.length = l.length) (h : GdW (refW r ps l tk us bu by')) (hz : (chooseS (refW r ps l tk us bu by')).2.2 = 0) :
    ∃ i : Nat,∃ hi : i < l.length,(chooseS (refW r ps l tk us bu by')).1 = i ∧ tk.getD i false = false ∧ szB l[i] ≤ us ∧ szB l[i] ≤ bu ∧
      stepW (refW r ps l tk us bu by') = refW (chooseS (refW r ps l tk us bu by')).2.1.dr (chooseS (refW r ps l tk us bu by')).2.1.ps l (tk.set i true) (us - szB l[i]) (bu - szB l[i]) by':=by
  obtain ⟨p,h0,h2,hpe,hc,hm,hf,hpos,hw,hok⟩:=choose_some h hz
  obtain ⟨n,hn,hnl,hnp⟩:=h.mem p h0 h2 _ hm
  obtain ⟨k,hk,_,hk2,hk3⟩:=(by rw [refW_qu h0 h2] at hm;exact queT_mem.1 hm)
  have e : k = n:=by omega
  subst e
  have hs : at3 (sizesE l) (k : Int) = szB l[k]:=sizesE_at l k hnl
  unfold fitS at hf
  simp only [Bool.and_eq_true,decide_eq_true_eq] at hf
  rw [hn] at hf
  have hf1 : szB l[k] ≤ us:=by rw [← hs];exact hf.1
  have hf2 : szB l[k] ≤ bu:=by rw [← hs];exact hf.2
  refine ⟨k,hnl,by rw [hc,hn],hk2,hf1,hf2,?_⟩
  obtain ⟨W,hW⟩ : ∃ W,W = refW r ps l tk us bu by':=⟨_,rfl⟩
  have hq : ∀ p' : Int,0 ≤ p' → p' ≤ 2 → queT l (tk.set k true) p' l.length = if p' = p then (quA (refW r ps l tk us bu by') p).filter (· ≠ (k : Int)) else queT l tk p' l.length:=by
    intro p' a0 a2
    rw [queT_take hv (by rw [ht];exact hnl)]
    split
    · rename_i e;subst e;rw [refW_qu h0 h2]
    · rename_i hne
      refine List.filter_eq_self.2 (fun x hx => ?_)
      obtain ⟨m,hm1,_,_,hm2,hm3⟩:=queT_mem.1 hx
      simp only [ne_eq,decide_not,Bool.not_eq_true',decide_eq_false_iff_not]
      intro e
      have e2 : m = k:=by omega
      subst e2
      obtain ⟨_,hk4⟩:=hk3
      omega
  have e1 : (chooseS (refW r ps l tk us bu by')).2.1.l = l:=by rw [hw];rfl
  show withoutS _ _ = _
  rw [hc,hn]
  unfold withoutS
  have e2 : (bnL (chooseS (refW r ps l tk us bu by')).2.1.l (k : Int)).pr = p:=by rw [e1,← hn];exact hnp
  have e3 : (chooseS (refW r ps l tk us bu by')).2.1.sz = sizesE l:=by rw [hw];rfl
  have e4 : (chooseS (refW r ps l tk us bu by')).2.1.us = us:=by rw [hw];rfl
  have e5 : (chooseS (refW r ps l tk us bu by')).2.1.bu = bu:=by rw [hw];rfl
  have e6 : (chooseS (refW r ps l tk us bu by')).2.1.by' = by':=by rw [hw];rfl
  have e7 : (chooseS (refW r ps l tk us bu by')).2.1.qs = (refW r ps l tk us bu by').qs:=by rw [hw]
  have e8 : quA (chooseS (refW r ps l tk us bu by')).2.1 p = quA (refW r ps l tk us bu by') p:=by unfold quA;rw [e7]
  rw [e2,e3,e4,e5,hs,e7,e8]
  obtain ⟨c,hcc⟩ : ∃ c,c = (chooseS (refW r ps l tk us bu by')).2.1:=⟨_,rfl⟩
  rw [← hcc] at e1 e3 e6 ⊢
  obtain ⟨cdr,cps,cl,cqs,csz,cus,cbu,cby⟩:=c
  simp only at e1 e3 e6
  subst e1;subst e3;subst e6
  show Wy.mk _ _ _ _ _ _ _ _ = Wy.mk _ _ _ _ _ _ _ _
  congr 1
  rw [hq 0 (by omega) (by omega),hq 1 (by omega) (by omega),hq 2 (by omega) (by omega)]
  rcases (by omega : p = 0 ∨ p = 1 ∨ p = 2) with rfl|rfl|rfl <;> rfl
end Go.Proofs.YtkaehoihpgelnaaDoor
namespace Go.Proofs.YtkaehoihpgelnaaDoor
open Go.RowKit
def RetRC (x : Wy) (w : World) (e : Ending) (w' : World) : Prop:=∃ fb,e = .returned (.slice (some ⟨fb,0,none⟩) 3 3) ∧ w.heap.size ≤ fb ∧ blk w' fb = some #[.int .i64 (candA x 0),.int .i64 (candA x 1),.int .i64 (candA x 2)] ∧ Below w.heap.size w w'
set_option maxHeartbeats 6400000 in
theorem rcand_any (x : Wy) (hg : GdW x) (hsz : x.sz = sizesE x.l) (hda : ∀ y ∈ x.l,y.da.size ≤ maxLen) (hsq : ∀ y ∈ x.l,0 ≤ y.sq) (hus : 0 ≤ x.us ∧ x.us ≤ 18446744073709551615) (hbu : 0 ≤ x.bu ∧ x.bu ≤ 9223372036854775807)
  (aw : Option Addr) (cw : Nat) (ad : Option Addr) (cd : Nat) (ap : Option Addr) (cp : Nat) (al : Option Addr) (cl : Nat) (ob : Nat) (w : World) (Rp : SRow ic 1 w ap cp x.ps) (Rl : SRow bn 9 w al cl x.l) (Rq : QAt w ob (quA x 0) (quA x 1) (quA x 2)) :
  Calls Tryd.prog 57 #[.agg #[.slice aw 3 cw,.int .i64 x.dr.q,.slice ad 3 cd,.int .i64 x.dr.t,.slice ap 3 cp],.slice al x.l.length cl,.slice (some ⟨ob,0,none⟩) 3 3,.int .u64 x.us,.int .i64 x.bu,.int .i64 x.by'] w fun e w' => RetRC x w e w':=by
 obtain ⟨cs,hQ,lob,hrg⟩:=qrow_of Rq
 have GQ : Hid (∀ k,k < 3 → ∃ a c,w.cell? ⟨ob,k,none⟩ = some (.slice a (quA x k).length c) ∧ SRow ic 1 w a c (quA x k)):=Lib.hid (fun k hk => by
  obtain ⟨a,c,h1,h2⟩:=hQ.get hk
  have e : q3 (quA x 0) (quA x 1) (quA x 2) k = quA x k:=by
   match k,hk with
   | 0,_ => rfl
   | 1,_ => rfl
   | 2,_ => rfl
  rw [e] at h1 h2
  exact ⟨a,c,by have:=hrg k _ h1;rw [Nat.zero_add] at this;exact this,h2⟩)
 have hp3:=hg.ps3
 obtain ⟨bp,op,rfl,lbp,_⟩:=Rp.2.2.2 (by omega)
 have GP : Hid (∀ k,k < 3 → w.cell? ⟨bp,op + k,none⟩ = some (.int .i64 (at3 x.ps k))):=Lib.hid (fun k hk => by
  have e9 : at3 x.ps k = x.ps[k]'(by omega):=by unfold at3;rw [Int.toNat_natCast,List.getD_eq_getElem?_getD,List.getElem?_eq_getElem (by omega)];rfl
  rw [e9];exact (srow_cellE Rp (j:=k) (by omega)).2)
 have GM0 : Hid (∀ k : Nat,k < 3 → ∀ i ∈ quA x k,∃ m : Nat,i = m ∧ m < x.l.length):=Lib.hid (fun k hk i hi => by
  obtain ⟨m,hm,hl,_⟩:=hg.mem k (by omega) (by omega) i hi
  exact ⟨m,hm,hl⟩)
 have HSZ : Hid (∀ m (h : m < x.l.length),1 ≤ szB x.l[m] ∧ szB x.l[m] ≤ 1200):=Lib.hid (fun m h => by
  have h9:=hg.szs m h
  rw [hsz,sizesE_at x.l m h] at h9
  exact h9)
 have FIN : Hid (∀ W fb,w.heap.size ≤ fb → Below w.heap.size w W → blk W fb = some (rowC ic (cF x 3) ++ []).toArray → RetRC x w (.returned (.slice (some ⟨fb,0,none⟩) 3 3)) W):=Lib.hid (fun W fb hl hB hf => ⟨fb,rfl,hl,hf,hB⟩)
 have HL:=Lib.hid Rl;have HDA:=Lib.hid hda;have HSQ:=Lib.hid hsq;have HZ:=Lib.hid hsz
 have OBL:=Lib.hid lob;have BPL:=Lib.hid lbp
 have hcp:=Rp.1
 rw [hp3] at hcp
 have hlc:=Rl.1
 have hlm:=Rl.2.1
 unfold maxLen at hlm
 obtain ⟨us,eu⟩ : ∃ z,z = x.us:=⟨_,rfl⟩
 obtain ⟨bu,eb⟩ : ∃ z,z = x.bu:=⟨_,rfl⟩
 obtain ⟨by0,ey⟩ : ∃ z,z = x.by':=⟨_,rfl⟩
 obtain ⟨q0,eq0⟩ : ∃ z,z = x.dr.q:=⟨_,rfl⟩
 obtain ⟨t0,et0⟩ : ∃ z,z = x.dr.t:=⟨_,rfl⟩
 obtain ⟨nl,hnl⟩ : ∃ n,n = x.l.length:=⟨_,rfl⟩
 have HU : Hid (us = x.us ∧ bu = x.bu ∧ by0 = x.by'):=Lib.hid ⟨eu,eb,ey⟩
 have HNL:=Lib.hid hnl
 rw [← hnl] at hlc
 rw [← eu] at hus
 rw [← eb] at hbu
 rw [← eu,← eb,← ey,← eq0,← et0,← hnl]
 obtain ⟨fb,efb⟩ : ∃ v,v = w.heap.size + 1:=⟨_,rfl⟩
 have FIN2:=Lib.hid (fun W => FIN.out W fb (by omega))
 clear FIN
 have FIN:=FIN2
 clear FIN2
 clear hQ hrg Rp Rl Rq hg hsz hda hsq hp3 eu eb ey eq0 et0 hnl lob lbp
 go_enter Tryd.func57,Tryd.ntmps57
 go_wp2
 go_upto_region 2 with fail
 obtain ⟨V,eV⟩ : ∃ v,v = (w.alloc (.cells #[.slice aw 3 cw,.int .i64 q0,.slice ad 3 cd,.int .i64 t0,.slice (some ⟨bp,op,none⟩) 3 cp] 28)).alloc (.cells #[.int .i64 (-1),.int .i64 (-1),.int .i64 (-1)] 3):=⟨_,rfl⟩
 have kV : blk V w.heap.size = some #[.slice aw 3 cw,.int .i64 q0,.slice ad 3 cd,.int .i64 t0,.slice (some ⟨bp,op,none⟩) 3 cp]:=(by rw [eV];exact blk_alloc (blk_alloc_new _ _ _ rfl) _)
 have fV : blk V fb = some (rowC ic (cF x 0) ++ []).toArray:=(by rw [eV];exact blk_alloc_new _ _ _ (by simp [efb]))
 have bV : Below w.heap.size w V:=(by rw [eV];(repeat(first|(with_reducible first|assumption|exact Below.refl _ _|refine je ?_|refine jl ?_)|((with_reducible refine jp ?_ ?_);first|focus(dsimp only;assumption)|focus(simp;done)|focus(dsimp only;omega))|(with_reducible refine bt ?_ (by assumption)))))
 have HKV:=Lib.hid (And.intro kV fV)
 have HFB:=Lib.hid efb
 rw [← eV,← efb]
 clear eV kV fV efb
 go_wp2
 go_loopw [14] (fun p wr => ∃ k : Nat,p = .int .i64 k ∧ k ≤ 3 ∧ Below w.heap.size w wr ∧ Hid (blk wr w.heap.size = some #[.slice aw 3 cw,.int .i64 q0,.slice ad 3 cd,.int .i64 t0,.slice (some ⟨bp,op,none⟩) 3 cp] ∧ blk wr fb = some (rowC ic (cF x k) ++ []).toArray)) (fun p _ => 3 - (intOf p).toNat)
 case atStart => exact ⟨0,rfl,by omega,bV,HKV⟩
 case round =>
  clear bV HKV
  obtain ⟨k,rfl,hk,hB,HK⟩:=hrel
  by_cases hk3 : k < 3
  ·have hkz : (k : Int) < 3:=by omega
   have dk : decide ((k : Int) < 3) = true:=decide_eq_true hkz
   obtain ⟨aq,cqq,hco,RQ0⟩:=GQ.out k hk3
   obtain ⟨Q,hQ⟩ : ∃ q,quA x k = q:=⟨_,rfl⟩
   obtain ⟨f,hf⟩ : ∃ f,f = fitS x.sz us bu:=⟨_,rfl⟩
   obtain ⟨pk,hpk⟩ : ∃ p,p = at3 x.ps k:=⟨_,rfl⟩
   obtain ⟨b0,hb0⟩ : ∃ b,b = decide (by0 ≤ pk):=⟨_,rfl⟩
   obtain ⟨lq,hlq⟩ : ∃ n,n = Q.length:=⟨_,rfl⟩
   have HCA : Hid (candQ f b0 Q = candA x k):=Lib.hid (by rw [hf,hb0,hpk,← hQ,HU.out.1,HU.out.2.1,HU.out.2.2];rfl)
   have GM:=Lib.hid (GM0.out k hk3)
   rw [hQ] at GM RQ0 hco
   rw [← hlq] at hco
   have RQ:=Lib.hid RQ0
   have COB:=Lib.hid hco
   have HLQ:=Lib.hid hlq
   have HF:=Lib.hid hf
   have HB0:=Lib.hid hb0
   have HQ0 : Hid (∀ y ∈ Q,0 ≤ y):=Lib.hid (fun y hy => by obtain ⟨m,h1,_⟩:=GM.out y hy;omega)
   have CP:=Lib.hid (GP.out k hk3)
   rw [← hpk] at CP
   have lqb : lq ≤ cqq ∧ cqq ≤ 9223372036854775807:=by have h1:=RQ0.1;have h2:=RQ0.2.1;unfold maxLen at h2;omega
   have INI : Hid (blk wr w.heap.size = some #[.slice aw 3 cw,.int .i64 q0,.slice ad 3 cd,.int .i64 t0,.slice (some ⟨bp,op,none⟩) 3 cp] ∧ blk wr fb = some (rowC ic ((cF x k).set k (candQ f b0 (Q.take 0))) ++ []).toArray):=Lib.hid ⟨HK.out.1,by
    have h9:=HK.out.2
    have e9 : (cF x k).set k (candQ f b0 (Q.take 0)) = cF x k:=by
     show (cF x k).set k (-1) = cF x k
     match k,hk3 with
     | 0,_ => rfl
     | 1,_ => rfl
     | 2,_ => rfl
    rw [e9];exact h9⟩
   clear HK RQ0 hco hlq hf hb0 hpk hQ GQ
   go_wp2
   go_loopw [15] (fun i wr2 => ∃ j : Nat,i = .int .i64 j ∧ j ≤ lq ∧ Below w.heap.size w wr2 ∧ Hid (blk wr2 w.heap.size = some #[.slice aw 3 cw,.int .i64 q0,.slice ad 3 cd,.int .i64 t0,.slice (some ⟨bp,op,none⟩) 3 cp] ∧ blk wr2 fb = some (rowC ic ((cF x k).set k (candQ f b0 (Q.take j))) ++ []).toArray)) (fun i _ => lq - (intOf i).toNat)
   case atStart => exact ⟨0,rfl,by omega,hB,INI⟩
   case round =>
    clear INI hB
    obtain ⟨j,rfl,hj,hB2,HJ⟩:=hrel
    have cob2 : wr.cell? ⟨ob,k,none⟩ = some (.slice aq lq cqq):=(hB2.cell (p:=⟨ob,k,none⟩) OBL.out).trans COB.out
    by_cases hlt : j < lq
    ·have hltz : (j : Int) < (lq : Int):=by omega
     have d0 : decide ((j : Int) < (lq : Int)) = true:=decide_eq_true hltz
     obtain ⟨bq,oq,rfl⟩ : ∃ bq oq,aq = some ⟨bq,oq,none⟩:=by obtain ⟨b,o,h,_⟩:=RQ.out.2.2.2 (by rw [← HLQ.out];omega);exact ⟨b,o,h⟩
     have hlt2 : j < Q.length:=by rw [← HLQ.out];exact hlt
     obtain ⟨cur,hcc⟩ : ∃ c,candQ f b0 (Q.take j) = c:=⟨_,rfl⟩
     have cc2 : wr.cell? ⟨fb,k,none⟩ = some (.int .i64 cur):=blk_cellI (by rw [List.getElem?_set_self (by simp [cF];omega),hcc]) HJ.out.2
     by_cases hcur : cur < 0
     ·have d1 : decide (cur < 0) = true:=decide_eq_true hcur
      rw [← hcc] at hcur
      have hlt:=hlt2
      have c1 : candQ f b0 (Q.take j) = -1:=candQ_neg (fun y hy => HQ0.out y (List.mem_of_mem_take hy)) hcur
      rw [c1] at HJ
      obtain ⟨m,hm⟩ : ∃ m : Nat,Q[j] = m:=by obtain ⟨m,h1,_⟩:=GM.out _ (List.getElem_mem hlt);exact ⟨m,h1⟩
      have hml : m < x.l.length:=by obtain ⟨m2,h1,h2⟩:=GM.out _ (List.getElem_mem hlt);omega
      have hmz : (m : Int) < (nl : Int):=by have:=HNL.out;omega
      obtain ⟨y,hy⟩ : ∃ y,y = x.l[m]:=⟨_,rfl⟩
      have gs:=fun W => rsize_any y (HDA.out y (by rw [hy];exact List.getElem_mem _)) (HSQ.out y (by rw [hy];exact List.getElem_mem _)) (by have:=HSZ.out m hml;rw [← hy] at this;omega) W
      obtain ⟨s,hs⟩ : ∃ s,szB y = s:=⟨_,rfl⟩
      rw [hs] at gs
      have GS:=Lib.hid gs
      have s1 : 1 ≤ s ∧ s ≤ 1200:=by have:=HSZ.out m hml;rw [← hy,hs] at this;exact this
      have HS : Hid (f Q[j] = (decide (s ≤ us) && decide (s ≤ bu))):=Lib.hid (by rw [hm,HF.out];unfold fitS;rw [HZ.out,sizesE_at x.l m hml,← hy,hs])
      have HST:=Lib.hid (candQ_step (f:=f) (b:=b0) hlt HQ0.out (by rw [c1];decide))
      obtain ⟨bl,ol,hal,lbl,hcs⟩:=HL.out.2.2.2 (by omega)
      subst hal
      have hr:=hcs m hml
      rw [← hy] at hr
      have HRY:=Lib.hid hr
      have LBL:=Lib.hid lbl
      have HMJ:=Lib.hid hm
      have cq:=(srow_cellE RQ.out hlt).2
      rw [hm] at cq
      have CQ:=Lib.hid cq
      have bqw:=(srow_cellE RQ.out hlt).1
      clear hcs hr gs hs hy cq hm c1 hcur hml lbl
      go_upto_region 8 with fail
      refine wp_region_tail0 9 ?_
      intro W0 hE hN
      have hBW : Below w.heap.size w W0:=(by rw [hE.out];exact hB2)
      have kW : blk W0 w.heap.size = some #[.slice aw 3 cw,.int .i64 q0,.slice ad 3 cd,.int .i64 t0,.slice (some ⟨bp,op,none⟩) 3 cp]:=(by rw [hE.out];exact HJ.out.1)
      have fW : blk W0 fb = some (rowC ic ((cF x k).set k (-1)) ++ []).toArray:=(by rw [hE.out];exact HJ.out.2)
      have n1:=calm_cellR (b:=ob) (o:=k) (W0:=W0) (Nat.lt_of_lt_of_le OBL.out hBW.size) ((hBW.cell (p:=⟨ob,k,none⟩) OBL.out).trans COB.out)
      have n2:=calm_cellR (b:=bq) (o:=oq + j) (W0:=W0) (Nat.lt_of_lt_of_le bqw hBW.size) ((hBW.cell (p:=⟨bq,oq + j,none⟩) bqw).trans CQ.out)
      have hrW:=range_below LBL.out HRY.out hBW
      have lbW : bl < W0.heap.size:=Nat.lt_of_lt_of_le LBL.out hBW.size
      clear hE HJ hB2
      simp only [List.take_succ_cons,List.take_zero,List.drop_succ_cons,List.drop_zero]
      repeat (go_big_quiet_step (fail))
      refine wpQuiet_nil ?_
      rintro _ ⟨x',rfl⟩
      have hr1:=range_below lbW hrW x'.ok
      have hB3:=bt hBW x'.ok
      have k3:=blk_below x'.ok kW
      have f3:=blk_below x'.ok fW
      obtain ⟨u,hu⟩ : ∃ u,u = x'.wd:=⟨_,rfl⟩
      rw [← hu] at hr1 hB3 k3 f3 ⊢
      clear hu x' hN hrW hBW lbW n1 n2 kW fW
      refine wpList_load_mid rfl 38 (.tmp 46) rfl bl (ol + m * 9) rfl [.int .i64 y.no,.int .u64 y.sq,.int .i64 y.of,.int .i64 y.de,.int .i64 y.pr,.int .i64 y.bo,.int .i64 y.li,.int .i64 y.to,.string y.da] _ hr1 Tryd.underlying38 rfl (by kernel_rfl) ?_
      conv => arg 5;simp [Act.put]
      clear hr1
      go_wp2_with fail
      (with_reducible refine (GS.out _).mono ?_)
      rintro e u2 ⟨rfl,h2⟩
      have hB4:=bt hB3 h2
      have k4:=blk_below h2 k3
      have f4:=blk_below h2 f3
      clear h2 k3 f3 hB3 GS
      have HB4:=Lib.hid hB4
      have HK4:=Lib.hid (And.intro k4 f4)
      have cp4 : u2.cell? ⟨bp,op + k,none⟩ = some (.int .i64 pk):=(hB4.cell (p:=⟨bp,op + k,none⟩) BPL.out).trans CP.out
      have cob4 : u2.cell? ⟨ob,k,none⟩ = some (.slice (some ⟨bq,oq,none⟩) lq cqq):=(hB4.cell (p:=⟨ob,k,none⟩) OBL.out).trans COB.out
      have cq4 : u2.cell? ⟨bq,oq + j,none⟩ = some (.int .i64 (m : Int)):=(hB4.cell (p:=⟨bq,oq + j,none⟩) bqw).trans CQ.out
      have nk4:=kn k4
      have fz4:=blk_frozen f4 k
      have cf4 : u2.cell? ⟨fb,k,none⟩ = some (.int .i64 (-1)):=blk_cellI (by rw [List.getElem?_set_self (by simp [cF];omega)]) f4
      clear k4 f4 hB4
      have w1 : IntKind.u64.wrap bu = bu:=by unfold IntKind.wrap;simp [IntKind.bits];omega
      by_cases d1 : s ≤ us
      ·have e1 : decide (s ≤ us) = true:=decide_eq_true d1
       by_cases d2 : s ≤ bu
       ·have e2 : decide (s ≤ bu) = true:=decide_eq_true d2
        by_cases d3 : j = 0
        ·have e3 : ((j : Int) == 0) = true:=by simpa using (by omega : (j : Int) = 0)
         have e4 : (decide (j = 0) || !b0) = true:=by simp [d3]
         clear d3
         have NEW : Hid (blk (u2.setCell ⟨fb,k,none⟩ (.int .i64 (m : Int))) w.heap.size = some #[.slice aw 3 cw,.int .i64 q0,.slice ad 3 cd,.int .i64 t0,.slice (some ⟨bp,op,none⟩) 3 cp] ∧ blk (u2.setCell ⟨fb,k,none⟩ (.int .i64 (m : Int))) fb = some (rowC ic ((cF x k).set k (candQ f b0 (Q.take (j + 1)))) ++ []).toArray):=Lib.hid ⟨blk_other HK4.out.1 (show w.heap.size ≠ fb by have:=HFB.out;omega),by
          have h9:=blk_setI (k:=k) (x:=-1) (y:=(m : Int)) (by rw [List.getElem?_set_self (by simp [cF];omega)]) HK4.out.2
          rw [List.set_set] at h9
          rw [HST.out,HS.out,HMJ.out,e1,e2,e4,if_pos (by rfl)]
          exact h9⟩
         have HBX:=Lib.hid (HB4.out.setCell (p:=⟨fb,k,none⟩) (show w.heap.size ≤ fb by have:=HFB.out;omega) (.int .i64 (m : Int)))
         go_wp2
         go_roundw
         case rel => exact ⟨j + 1,by go_num,by omega,HBX.out,NEW⟩
         case measure => simp [intOf];omega
        ·have e3 : ((j : Int) == 0) = false:=by simpa using (by omega : ¬ (j : Int) = 0)
         by_cases d4 : pk < by0
         ·have e5 : decide (pk < by0) = true:=decide_eq_true d4
          have e4 : (decide (j = 0) || !b0) = true:=by rw [HB0.out];simp;omega
          have NEW : Hid (blk (u2.setCell ⟨fb,k,none⟩ (.int .i64 (m : Int))) w.heap.size = some #[.slice aw 3 cw,.int .i64 q0,.slice ad 3 cd,.int .i64 t0,.slice (some ⟨bp,op,none⟩) 3 cp] ∧ blk (u2.setCell ⟨fb,k,none⟩ (.int .i64 (m : Int))) fb = some (rowC ic ((cF x k).set k (candQ f b0 (Q.take (j + 1)))) ++ []).toArray):=Lib.hid ⟨blk_other HK4.out.1 (show w.heap.size ≠ fb by have:=HFB.out;omega),by
           have h9:=blk_setI (k:=k) (x:=-1) (y:=(m : Int)) (by rw [List.getElem?_set_self (by simp [cF];omega)]) HK4.out.2
           rw [List.set_set] at h9
           rw [HST.out,HS.out,HMJ.out,e1,e2,e4,if_pos (by rfl)]
           exact h9⟩
          have HBX:=Lib.hid (HB4.out.setCell (p:=⟨fb,k,none⟩) (show w.heap.size ≤ fb by have:=HFB.out;omega) (.int .i64 (m : Int)))
          go_wp2
          go_roundw
          case rel => exact ⟨j + 1,by go_num,by omega,HBX.out,NEW⟩
          case measure => simp [intOf];omega
         ·have e5 : decide (pk < by0) = false:=decide_eq_false d4
          have e4 : (decide (j = 0) || !b0) = false:=by rw [HB0.out];simp;omega
          have NEW : Hid (blk u2 w.heap.size = some #[.slice aw 3 cw,.int .i64 q0,.slice ad 3 cd,.int .i64 t0,.slice (some ⟨bp,op,none⟩) 3 cp] ∧ blk u2 fb = some (rowC ic ((cF x k).set k (candQ f b0 (Q.take (j + 1)))) ++ []).toArray):=Lib.hid ⟨HK4.out.1,by
           rw [HST.out,HS.out,e1,e2,e4,if_neg (by decide)]
           exact HK4.out.2⟩
          go_wp2
          go_roundw
          case rel => exact ⟨j + 1,by go_num,by omega,HB4.out,NEW⟩
          case measure => simp [intOf];omega
       ·have e2 : decide (s ≤ bu) = false:=decide_eq_false d2
        have NEW : Hid (blk u2 w.heap.size = some #[.slice aw 3 cw,.int .i64 q0,.slice ad 3 cd,.int .i64 t0,.slice (some ⟨bp,op,none⟩) 3 cp] ∧ blk u2 fb = some (rowC ic ((cF x k).set k (candQ f b0 (Q.take (j + 1)))) ++ []).toArray):=Lib.hid ⟨HK4.out.1,by
         rw [HST.out,HS.out,e1,e2,if_neg (by simp)]
         exact HK4.out.2⟩
        go_wp2
        go_roundw
        case rel => exact ⟨j + 1,by go_num,by omega,HB4.out,NEW⟩
        case measure => simp [intOf];omega
      ·have e1 : decide (s ≤ us) = false:=decide_eq_false d1
       have NEW : Hid (blk u2 w.heap.size = some #[.slice aw 3 cw,.int .i64 q0,.slice ad 3 cd,.int .i64 t0,.slice (some ⟨bp,op,none⟩) 3 cp] ∧ blk u2 fb = some (rowC ic ((cF x k).set k (candQ f b0 (Q.take (j + 1)))) ++ []).toArray):=Lib.hid ⟨HK4.out.1,by
        rw [HST.out,HS.out,e1,if_neg (by simp)]
        exact HK4.out.2⟩
       go_wp2
       go_roundw
       case rel => exact ⟨j + 1,by go_num,by omega,HB4.out,NEW⟩
       case measure => simp [intOf];omega
     ·have d1 : decide (cur < 0) = false:=decide_eq_false hcur
      have OUT : Hid (blk wr w.heap.size = some #[.slice aw 3 cw,.int .i64 q0,.slice ad 3 cd,.int .i64 t0,.slice (some ⟨bp,op,none⟩) 3 cp] ∧ blk wr fb = some (rowC ic (cF x (k + 1)) ++ []).toArray):=Lib.hid ⟨HJ.out.1,by
       have h9:=HJ.out.2
       rw [← candQ_full HQ0.out (by rw [hcc];omega),HCA.out,cF_some hk3] at h9
       exact h9⟩
      clear HJ hcc
      go_wp2
      go_roundw
      case rel => exact ⟨k + 1,by go_num,by omega,hB2,OUT⟩
      case measure => simp [intOf];omega
    ·obtain rfl : j = lq:=by omega
     have d0 : decide ((j : Int) < (j : Int)) = false:=decide_eq_false (by omega)
     have OUT : Hid (blk wr w.heap.size = some #[.slice aw 3 cw,.int .i64 q0,.slice ad 3 cd,.int .i64 t0,.slice (some ⟨bp,op,none⟩) 3 cp] ∧ blk wr fb = some (rowC ic (cF x (k + 1)) ++ []).toArray):=Lib.hid ⟨HJ.out.1,by
      have h9:=HJ.out.2
      rw [HLQ.out,List.take_length,HCA.out,cF_some hk3] at h9
      exact h9⟩
     clear HJ
     go_wp2
     go_roundw
     case rel => exact ⟨k + 1,by go_num,by omega,hB2,OUT⟩
     case measure => simp [intOf];omega
  ·obtain rfl : k = 3:=by omega
   have dk : decide (((3 : Nat) : Int) < 3) = false:=rfl
   go_wp2
   go_ret
   exact FIN.out _ hB HK.out.2
end Go.Proofs.YtkaehoihpgelnaaDoor
