/- Parts of a proof, printed by a program of mine out of my texts: EgMath, EgPlain, EgAll, EgLst. -/
import Derived.Test.YtkaehoihpgelnaaDoorCD
import Derived.Test.YtkaehoihpgelnaaDoorCU
set_option linter.unusedSimpArgs false
set_option linter.unusedVariables false
namespace Go.Proofs.YtkaehoihpgelnaaDoor
structure Rr where
  (w d : List Int)
  (q t : Int)
def at3 (l : List Int) (i : Int) : Int:=l.getD i.toNat 0
def okW (w : List Int) : Prop:=∀ v ∈ w,1 ≤ v ∧ v ≤ 100
def okF (d : List Int) : Prop:=∀ v ∈ d,0 ≤ v ∧ v ≤ 1099511627776
def okD (x : Rr) : Prop:=x.w.length = 3 ∧ x.d.length = 3 ∧ okW x.w ∧ (1 ≤ x.q ∧ x.q ≤ 1200) ∧ okF x.d ∧ 0 ≤ x.t ∧ x.t ≤ 2
instance (w : List Int) : Decidable (okW w):=by unfold okW;infer_instance
instance (d : List Int) : Decidable (okF d):=by unfold okF;infer_instance
def weiS (w : List Int) (q : Int) : Int:=if okW w then (if q < 1 ∨ 1200 < q then 2 else 0) else 2
def chkD (x : Rr) : Int :=
  if x.w.length ≠ 3 ∨ x.d.length ≠ 3 then 3 else if weiS x.w x.q ≠ 0 then weiS x.w x.q else if ¬ okF x.d then 2 else if x.t < 0 ∨ 3 ≤ x.t then 2 else 0
theorem weiS_zero {w : List Int} {q : Int} (h : weiS w q = 0) : okW w ∧ 1 ≤ q ∧ q ≤ 1200:=by
  unfold weiS at h
  split at h
  · rename_i h1
    split at h
    · cases h
    · exact ⟨h1,by omega⟩
  · cases h
theorem weiS_ok {w : List Int} {q : Int} (h : okW w) (h2 : 1 ≤ q) (h3 : q ≤ 1200) : weiS w q = 0:=by
  unfold weiS
  rw [if_pos h,if_neg (by omega)]
theorem chkD_zero {x : Rr} (h : chkD x = 0) : okD x:=by
  unfold chkD at h
  split at h
  · cases h
  · rename_i h1
    split at h
    · rename_i h2;exact absurd h h2
    · rename_i h2
      split at h
      · cases h
      · rename_i h3
        split at h
        · cases h
        · have h4:=weiS_zero (by omega : weiS x.w x.q = 0)
          exact ⟨by omega,by omega,h4.1,h4.2,by simpa using h3,by omega,by omega⟩
theorem chkD_ok {x : Rr} (h : okD x) : chkD x = 0:=by
  obtain ⟨h1,h2,h3,h4,h5,h6,h7⟩:=h
  unfold chkD
  rw [if_neg (by omega),weiS_ok h3 h4.1 h4.2,if_neg (by simp),if_neg (by simpa using h5),if_neg (by omega)]
def passD (x : Rr) (h : List Int) : Rr :=
  let d1:=if at3 h x.t = 0 then x.d.set x.t.toNat 0 else x.d
  let t':=(x.t + 2) % 3
  ⟨x.w,d1.set t'.toNat (if at3 h t' = 0 then 0 else min 1099511627776 (at3 d1 t' + at3 x.w t' * x.q)),x.q,t'⟩
def stopD (x : Rr) (h : List Int) : Bool:=decide (at3 h x.t ≠ 0) && decide (at3 h x.t ≤ at3 x.d x.t)
def serveD : Nat → Rr → List Int → Rr
  | 0,x,_ => x
  | n + 1,x,h => if stopD x h then x else serveD n (passD x h) h
def takeD (x : Rr) (h : List Int) : Rr:=⟨x.w,x.d.set x.t.toNat (at3 x.d x.t - at3 h x.t),x.q,x.t⟩
def fuelD : Nat:=4000
def nextD (x : Rr) (h : List Int) : Int × Rr:=((serveD fuelD x h).t,takeD (serveD fuelD x h) h)
theorem at3_0 (a b c : Int) : at3 [a,b,c] 0 = a:=rfl
theorem at3_1 (a b c : Int) : at3 [a,b,c] 1 = b:=rfl
theorem at3_2 (a b c : Int) : at3 [a,b,c] 2 = c:=rfl
theorem list3 {l : List Int} (h : l.length = 3) : ∃ a b c,l = [a,b,c]:=by
  match l,h with
  | [a,b,c],_ => exact ⟨a,b,c,rfl⟩
theorem okD_pass {x : Rr} {h : List Int} (hx : okD x) : okD (passD x h):=by
  obtain ⟨h1,h2,h3,h4,h5,h6,h7⟩:=hx
  obtain ⟨w,d,q,t⟩:=x
  simp only at h1 h2 h3 h4 h5 h6 h7
  have h8 : okF (if at3 h t = 0 then d.set t.toNat 0 else d):=by
    split
    · intro v hv
      rcases List.mem_or_eq_of_mem_set hv with h9|rfl
      · exact h5 v h9
      · omega
    · exact h5
  have hl : (if at3 h t = 0 then d.set t.toNat 0 else d).length = 3:=by split <;> simp [h2]
  obtain ⟨d1,hd1⟩ : ∃ d1,d1 = (if at3 h t = 0 then d.set t.toNat 0 else d):=⟨_,rfl⟩
  rw [← hd1] at h8 hl
  have e : passD ⟨w,d,q,t⟩ h = ⟨w,d1.set ((t + 2) % 3).toNat (if at3 h ((t + 2) % 3) = 0 then 0 else min 1099511627776 (at3 d1 ((t + 2) % 3) + at3 w ((t + 2) % 3) * q)),q,(t + 2) % 3⟩:=by
    unfold passD
    simp only [← hd1]
  rw [e]
  refine ⟨h1,by simpa using hl,h3,h4,fun v hv => ?_,(by show 0 ≤ (t + 2) % 3;omega),(by show (t + 2) % 3 ≤ 2;omega)⟩
  rcases List.mem_or_eq_of_mem_set hv with h9|rfl
  · exact h8 v h9
  · split
    · omega
    · have k : 0 ≤ (t + 2) % 3 ∧ (t + 2) % 3 ≤ 2:=by omega
      obtain ⟨a,b,c,rfl⟩:=list3 h1
      obtain ⟨a',b',c',rfl⟩:=list3 hl
      have ha:=h3 a (by simp);have hb:=h3 b (by simp);have hc:=h3 c (by simp)
      have ha':=h8 a' (by simp);have hb':=h8 b' (by simp);have hc':=h8 c' (by simp)
      have ma : 0 ≤ a * q:=Int.mul_nonneg (by omega) (by omega)
      have mb : 0 ≤ b * q:=Int.mul_nonneg (by omega) (by omega)
      have mc : 0 ≤ c * q:=Int.mul_nonneg (by omega) (by omega)
      rcases (by omega : (t + 2) % 3 = 0 ∨ (t + 2) % 3 = 1 ∨ (t + 2) % 3 = 2) with e|e|e <;> rw [e]
      · rw [at3_0,at3_0];omega
      · rw [at3_1,at3_1];omega
      · rw [at3_2,at3_2];omega
def distD (t p : Int) : Nat:=((t - p) % 3).toNat
def remD (x : Rr) (h : List Int) (p : Int) : Nat:=(at3 h p - at3 x.d p).toNat
def muD (x : Rr) (h : List Int) (p : Int) : Nat:=if remD x h p = 0 then distD x.t p else 3 * remD x h p + (distD x.t p + 2) % 3 + 1
theorem muD_pass {x : Rr} {h : List Int} {p : Int} (hx : okD x) (hl : h.length = 3) (hp : 0 ≤ p ∧ p ≤ 2) (hh : 0 < at3 h p ∧ at3 h p ≤ 1200) (hs : stopD x h = false) : muD (passD x h) h p < muD x h p:=by
  obtain ⟨h1,h2,h3,h4,h5,h6,h7⟩:=hx
  obtain ⟨w,d,q,t⟩:=x
  simp only at h1 h2 h3 h4 h5 h6 h7
  obtain ⟨w0,w1,w2,rfl⟩:=list3 h1
  obtain ⟨d0,d1,d2,rfl⟩:=list3 h2
  obtain ⟨a0,a1,a2,rfl⟩:=list3 hl
  have ha:=h3 w0 (by simp);have hb:=h3 w1 (by simp);have hc:=h3 w2 (by simp)
  have ha':=h5 d0 (by simp);have hb':=h5 d1 (by simp);have hc':=h5 d2 (by simp)
  have ma : 1 ≤ w0 * q:=Int.mul_pos (by omega) (by omega)
  have mb : 1 ≤ w1 * q:=Int.mul_pos (by omega) (by omega)
  have mc : 1 ≤ w2 * q:=Int.mul_pos (by omega) (by omega)
  obtain ⟨m0,hm0⟩ : ∃ m,m = w0 * q:=⟨_,rfl⟩
  obtain ⟨m1,hm1⟩ : ∃ m,m = w1 * q:=⟨_,rfl⟩
  obtain ⟨m2,hm2⟩ : ∃ m,m = w2 * q:=⟨_,rfl⟩
  rw [← hm0] at ma;rw [← hm1] at mb;rw [← hm2] at mc
  rcases (by omega : t = 0 ∨ t = 1 ∨ t = 2) with rfl|rfl|rfl <;> rcases (by omega : p = 0 ∨ p = 1 ∨ p = 2) with rfl|rfl|rfl <;>
    simp [stopD,at3] at hs hh <;> simp only [muD,remD,distD,passD,at3,← hm0,← hm1,← hm2] <;>
    (by_cases c0 : a0 = 0) <;> (by_cases c1 : a1 = 0) <;> (by_cases c2 : a2 = 0) <;> simp [c0,c1,c2] at hs hh ⊢ <;> (repeat' split) <;> omega
theorem muD_le {x : Rr} {h : List Int} {p : Int} (hx : okD x) (hp : 0 ≤ p ∧ p ≤ 2) (hh : at3 h p ≤ 1200) : muD x h p < fuelD:=by
  obtain ⟨h1,h2,h3,h4,h5,h6,h7⟩:=hx
  have hd : 0 ≤ at3 x.d p:=by
    unfold at3
    by_cases hi : p.toNat < x.d.length
    · rw [List.getD_eq_getElem?_getD,List.getElem?_eq_getElem hi];exact (h5 _ (List.getElem_mem hi)).1
    · rw [List.getD_eq_getElem?_getD,List.getElem?_eq_none (by omega)];exact Int.le_refl _
  have hr : remD x h p ≤ 1200:=by unfold remD;omega
  have hds : distD x.t p ≤ 2:=by unfold distD;omega
  unfold muD fuelD
  split <;> omega
theorem serveD_ok (h : List Int) : ∀ (n : Nat) (x : Rr),okD x → okD (serveD n x h)
  | 0,x,hx => hx
  | n + 1,x,hx => by
    unfold serveD
    split
    · exact hx
    · exact serveD_ok h n _ (okD_pass hx)
theorem serveD_stop {h : List Int} {p : Int} (hl : h.length = 3) (hp : 0 ≤ p ∧ p ≤ 2) (hh : 0 < at3 h p ∧ at3 h p ≤ 1200) : ∀ (n : Nat) (x : Rr),okD x → muD x h p < n → stopD (serveD n x h) h = true
  | 0,x,_,hm => absurd hm (by omega)
  | n + 1,x,hx,hm => by
    unfold serveD
    split
    · rename_i h1;exact h1
    · rename_i h1
      have h2:=muD_pass hx hl hp hh (by simpa using h1)
      exact serveD_stop hl hp hh n _ (okD_pass hx) (by omega)
theorem stop_serve {n : Nat} {x : Rr} {h : List Int} (hs : stopD x h = true) : serveD n x h = x:=by
  cases n with
  | zero => rfl
  | succ n => unfold serveD;rw [if_pos hs]
theorem pass_serve {n : Nat} {x : Rr} {h : List Int} (hs : stopD x h = false) : serveD (n + 1) x h = serveD n (passD x h) h:=by
  show (if stopD x h then x else serveD n (passD x h) h) = _
  rw [hs];rfl
theorem okD_take {x : Rr} {h : List Int} (hx : okD x) (hs : stopD x h = true) (hh : 0 ≤ at3 h x.t) : okD (takeD x h):=by
  obtain ⟨h1,h2,h3,h4,h5,h6,h7⟩:=hx
  refine ⟨h1,by simp [takeD,h2],h3,h4,fun v hv => ?_,h6,h7⟩
  rcases List.mem_or_eq_of_mem_set hv with h9|rfl
  · exact h5 v h9
  · unfold stopD at hs
    simp only [Bool.and_eq_true,decide_eq_true_eq] at hs
    have hi : x.t.toNat < x.d.length:=by omega
    have hd : at3 x.d x.t = x.d[x.t.toNat]:=by unfold at3;rw [List.getD_eq_getElem?_getD,List.getElem?_eq_getElem hi];rfl
    have:=h5 _ (List.getElem_mem hi)
    omega
def okH (h : List Int) : Prop:=h.length = 3 ∧ (∀ v ∈ h,0 ≤ v ∧ v ≤ 1200)
theorem okH_at {h : List Int} (hh : okH h) (p : Int) : 0 ≤ at3 h p ∧ at3 h p ≤ 1200:=by
  unfold at3
  by_cases hi : p.toNat < h.length
  · rw [List.getD_eq_getElem?_getD,List.getElem?_eq_getElem hi];exact hh.2 _ (List.getElem_mem hi)
  · rw [List.getD_eq_getElem?_getD,List.getElem?_eq_none (by omega)];simp
theorem okH_pos {h : List Int} (hh : okH h) (hn : ¬ ∀ v ∈ h,v = 0) : ∃ p : Int,(0 ≤ p ∧ p ≤ 2) ∧ 0 < at3 h p:=by
  obtain ⟨a,b,c,rfl⟩:=list3 hh.1
  have ha:=hh.2 a (by simp);have hb:=hh.2 b (by simp);have hc:=hh.2 c (by simp)
  by_cases h1 : a = 0
  · by_cases h2 : b = 0
    · by_cases h3 : c = 0
      · exact absurd (by simp [h1,h2,h3]) hn
      · exact ⟨2,by omega,by rw [at3_2];omega⟩
    · exact ⟨1,by omega,by rw [at3_1];omega⟩
  · exact ⟨0,by omega,by rw [at3_0];omega⟩
theorem nextD_spec {x : Rr} {h : List Int} (hx : okD x) (hh : okH h) (hn : ¬ ∀ v ∈ h,v = 0) : (0 ≤ (nextD x h).1 ∧ (nextD x h).1 ≤ 2) ∧ at3 h (nextD x h).1 ≠ 0 ∧ okD (nextD x h).2:=by
  obtain ⟨p,hp,hpp⟩:=okH_pos hh hn
  have h1:=serveD_ok h fuelD x hx
  have h2:=serveD_stop hh.1 hp ⟨hpp,(okH_at hh p).2⟩ fuelD x hx (muD_le hx hp (okH_at hh p).2)
  have h3:=h2
  unfold stopD at h3
  simp only [Bool.and_eq_true,decide_eq_true_eq] at h3
  exact ⟨h1.2.2.2.2.2,h3.1,okD_take h1 h2 (okH_at hh _).1⟩
end Go.Proofs.YtkaehoihpgelnaaDoor
namespace Go.Proofs.YtkaehoihpgelnaaDoor
def zBn : Bn:=⟨0,0,0,0,0,0,0,0,⟨#[]⟩⟩
def bnL (l : List Bn) (i : Int) : Bn:=l.getD i.toNat zBn
theorem bnL_nat (l : List Bn) (i : Nat) (hi : i < l.length) : bnL l (i : Int) = l[i]:=by
  unfold bnL
  rw [Int.toNat_natCast,List.getD_eq_getElem?_getD,List.getElem?_eq_getElem hi];rfl
def ltQ (l : List Bn) (i k : Int) : Bool:=ltB (bnL l i) (bnL l k)
def cmQ (l : List Bn) (i k : Int) : Int:=if ltB (bnL l i) (bnL l k) then -1 else if ltB (bnL l k) (bnL l i) then 1 else 0
theorem ltQ_cm (l : List Bn) (i k : Int) : ltQ l i k = decide (cmQ l i k < 0):=by
  unfold ltQ cmQ
  cases ltB (bnL l i) (bnL l k)
  · cases ltB (bnL l k) (bnL l i) <;> rfl
  · rfl
theorem ltQ_asym (l : List Bn) (a b : Int) (h : ltQ l a b = true) : ltQ l b a = false:=ltB_asymO _ _ h
theorem ltQ_nn (l : List Bn) (a b c : Int) (h1 : ltQ l a b = false) (h2 : ltQ l b c = false) : ltQ l a c = false:=ltB_nnO _ _ _ h1 h2
def idxQ (l : List Bn) (p : Int) (j : Nat) : List Int:=(List.range j).filterMap fun (i : Nat) => (l[i]?).bind fun (x : Bn) => if x.pr = p then some (i : Int) else none
theorem idxQ_zero (l : List Bn) (p : Int) : idxQ l p 0 = []:=rfl
theorem idxQ_yes {l : List Bn} {p : Int} {j : Nat} (h : j < l.length) (hp : l[j].pr = p) : idxQ l p (j + 1) = idxQ l p j ++ [(j : Int)]:=by
  unfold idxQ
  rw [List.range_succ,List.filterMap_append]
  simp [h,hp]
theorem idxQ_no {l : List Bn} {p : Int} {j : Nat} (h : j < l.length) (hp : l[j].pr ≠ p) : idxQ l p (j + 1) = idxQ l p j:=by
  unfold idxQ
  rw [List.range_succ,List.filterMap_append]
  simp [h,hp]
theorem idxQ_len (l : List Bn) (p : Int) (j : Nat) : (idxQ l p j).length ≤ j:=by
  unfold idxQ
  exact Nat.le_trans (List.length_filterMap_le _ _) (by simp)
theorem idxQ_mem {l : List Bn} {p : Int} {j : Nat} {x : Int} : x ∈ idxQ l p j ↔ ∃ i : Nat,x = i ∧ i < j ∧ ∃ h : i < l.length,l[i].pr = p:=by
  unfold idxQ
  rw [List.mem_filterMap]
  constructor
  · rintro ⟨i,hr,h⟩
    by_cases hi : i < l.length
    · rw [List.getElem?_eq_getElem hi] at h
      simp only [Option.bind_some] at h
      split at h
      · rename_i hp;exact ⟨i,(Option.some.inj h).symm,List.mem_range.1 hr,hi,hp⟩
      · cases h
    · rw [List.getElem?_eq_none (by omega)] at h;simp at h
  · rintro ⟨i,rfl,hr,hi,hp⟩
    exact ⟨i,List.mem_range.2 hr,by rw [List.getElem?_eq_getElem hi];simp [hp]⟩
def queS (l : List Bn) (p : Int) : List Int:=isort (ltQ l) (idxQ l p l.length)
theorem queS_mem {l : List Bn} {p x : Int} : x ∈ queS l p ↔ ∃ i : Nat,x = i ∧ ∃ h : i < l.length,l[i].pr = p:=by
  unfold queS
  rw [(isort_perm _ _).mem_iff,idxQ_mem]
  exact ⟨fun ⟨i,h1,_,h3⟩ => ⟨i,h1,h3⟩,fun ⟨i,h1,h2,h3⟩ => ⟨i,h1,h2,h2,h3⟩⟩
def fitS (sz : List Int) (us bu i : Int) : Bool:=decide (at3 sz i ≤ us) && decide (at3 sz i ≤ bu)
def candQ (f : Int → Bool) (blk : Bool) : List Int → Int
  | [] => -1
  | i :: r => if f i then i else if blk then -1 else (r.find? f).getD (-1)
structure Wy where
  dr : Rr
  ps : List Int
  l : List Bn
  qs : List (List Int)
  sz : List Int
  (us bu by' : Int)
def quA (w : Wy) (p : Int) : List Int:=w.qs.getD p.toNat []
def candA (w : Wy) (p : Int) : Int:=candQ (fitS w.sz w.us w.bu) (decide (w.by' ≤ at3 w.ps p)) (quA w p)
def headA (w : Wy) (p : Int) : Int:=if candA w p < 0 then 0 else at3 w.sz (candA w p)
def candsS (w : Wy) : List Int:=[candA w 0,candA w 1,candA w 2]
def headsS (w : Wy) : List Int:=[headA w 0,headA w 1,headA w 2]
def linD (x : Rr) (h : List Int) : Int:=if chkD x ≠ 0 then chkD x else if h.length ≠ 3 then 3 else if ¬ (∀ v ∈ h,0 ≤ v ∧ v ≤ 1200) then 2 else if ∀ v ∈ h,v = 0 then 8 else 0
theorem linD_zero {x : Rr} {h : List Int} (hz : linD x h = 0) : okD x ∧ okH h ∧ ¬ ∀ v ∈ h,v = 0:=by
  unfold linD at hz
  split at hz
  · rename_i h1;exact absurd hz h1
  · rename_i h1
    split at hz
    · cases hz
    · rename_i h2
      split at hz
      · cases hz
      · rename_i h3
        split at hz
        · cases hz
        · rename_i h4
          exact ⟨chkD_zero (by simpa using h1),⟨by simpa using h2,by simpa using h3⟩,h4⟩
def chooseS (w : Wy) : Int × Wy × Int :=
  if linD w.dr (headsS w) ≠ 0 then (0,w,linD w.dr (headsS w)) else
    let r:=nextD w.dr (headsS w)
    let i:=candA w r.1
    (i,{ w with dr:=r.2,ps:=w.ps.set r.1.toNat (if at3 (quA w r.1) 0 = i then 0 else at3 w.ps r.1 + 1) },0)
def withoutS (w : Wy) (i : Int) : Wy :=
  { w with qs:=w.qs.set (bnL w.l i).pr.toNat ((quA w (bnL w.l i).pr).filter (· ≠ i)),us:=w.us - at3 w.sz i,bu:=w.bu - at3 w.sz i }
def allS : Nat → Wy → List Int × Wy
  | 0,w => ([],w)
  | n + 1,w => if (chooseS w).2.2 ≠ 0 then ([],w) else ((chooseS w).1 :: (allS n (withoutS (chooseS w).2.1 (chooseS w).1)).1,(allS n (withoutS (chooseS w).2.1 (chooseS w).1)).2)
end Go.Proofs.YtkaehoihpgelnaaDoor
namespace Go.Proofs.YtkaehoihpgelnaaDoor
theorem candQ_fit {f : Int → Bool} {blk : Bool} {i : Int} {r : List Int} (h : f i = true) : candQ f blk (i :: r) = i:=by
  show (if f i = true then i else _) = i
  rw [if_pos h]
theorem candQ_blk {f : Int → Bool} {i : Int} {r : List Int} (h : f i = false) : candQ f true (i :: r) = -1:=by
  show (if f i = true then i else if true = true then -1 else _) = -1
  rw [if_neg (by rw [h];simp),if_pos rfl]
theorem candQ_rest {f : Int → Bool} {i : Int} {r : List Int} (h : f i = false) : candQ f false (i :: r) = (r.find? f).getD (-1):=by
  show (if f i = true then i else if false = true then -1 else (r.find? f).getD (-1)) = _
  rw [if_neg (by rw [h];simp),if_neg (by simp)]
theorem candQ_cases (f : Int → Bool) (blk : Bool) (q : List Int) : (candQ f blk q = -1 ∧ ∀ i r,q = i :: r → f i = false) ∨ (candQ f blk q ∈ q ∧ f (candQ f blk q) = true ∧ (blk = true → q.head? = some (candQ f blk q))):=by
  cases q with
  | nil => exact .inl ⟨rfl,by simp⟩
  | cons i r =>
    cases hf : f i with
    | true => exact .inr (by rw [candQ_fit hf];exact ⟨by simp,hf,by simp⟩)
    | false =>
      cases blk with
      | true => exact .inl ⟨candQ_blk hf,fun j s e => by cases e;exact hf⟩
      | false =>
        rw [candQ_rest hf]
        cases hr : r.find? f with
        | none => exact .inl ⟨rfl,fun j s e => by cases e;exact hf⟩
        | some x =>
          right
          have h1:=List.mem_of_find?_eq_some hr
          have h2:=List.find?_some hr
          exact ⟨List.mem_cons_of_mem _ h1,h2,fun h => by cases h⟩
structure GdW (w : Wy) : Prop where
  dr : okD w.dr
  ps3 : w.ps.length = 3
  qs3 : w.qs.length = 3
  mem : ∀ p : Int,0 ≤ p → p ≤ 2 → ∀ i ∈ quA w p,∃ n : Nat,i = n ∧ n < w.l.length ∧ (bnL w.l i).pr = p
  szs : ∀ i : Nat,i < w.l.length → 1 ≤ at3 w.sz i ∧ at3 w.sz i ≤ 1200
theorem cand_pos {w : Wy} (h : GdW w) {p : Int} (h0 : 0 ≤ p) (h2 : p ≤ 2) : candA w p = -1 ∨ (candA w p ∈ quA w p ∧ fitS w.sz w.us w.bu (candA w p) = true ∧ 0 ≤ candA w p ∧ 1 ≤ at3 w.sz (candA w p) ∧ at3 w.sz (candA w p) ≤ 1200):=by
  rcases candQ_cases (fitS w.sz w.us w.bu) (decide (w.by' ≤ at3 w.ps p)) (quA w p) with h1|h1
  · exact .inl h1.1
  · right
    obtain ⟨n,hn,hl,_⟩:=h.mem p h0 h2 _ h1.1
    have hs:=h.szs n hl
    rw [← hn] at hs
    exact ⟨h1.1,h1.2.1,by show 0 ≤ candA w p;unfold candA;omega,hs⟩
theorem head_cand {w : Wy} (h : GdW w) {p : Int} (h0 : 0 ≤ p) (h2 : p ≤ 2) : (candA w p = -1 ∧ headA w p = 0) ∨ (0 ≤ candA w p ∧ headA w p = at3 w.sz (candA w p) ∧ 1 ≤ headA w p ∧ headA w p ≤ 1200):=by
  rcases cand_pos h h0 h2 with h1|⟨_,_,h1,h3,h4⟩
  · exact .inl ⟨h1,by unfold headA;rw [h1];rfl⟩
  · have e : headA w p = at3 w.sz (candA w p):=by unfold headA;rw [if_neg (by omega)]
    exact .inr ⟨h1,e,by omega,by omega⟩
theorem heads_ok {w : Wy} (h : GdW w) : okH (headsS w):=by
  refine ⟨rfl,fun v hv => ?_⟩
  unfold headsS at hv
  simp only [List.mem_cons,List.not_mem_nil,or_false] at hv
  rcases hv with rfl|rfl|rfl
  · rcases head_cand h (p:=0) (by omega) (by omega) with h1|h1 <;> omega
  · rcases head_cand h (p:=1) (by omega) (by omega) with h1|h1 <;> omega
  · rcases head_cand h (p:=2) (by omega) (by omega) with h1|h1 <;> omega
theorem linD_eq {w : Wy} (h : GdW w) : linD w.dr (headsS w) = if ∀ v ∈ headsS w,v = 0 then 8 else 0:=by
  have h1:=heads_ok h
  unfold linD
  rw [chkD_ok h.dr,if_neg (by simp),if_neg (by simp [headsS]),if_neg (by simpa using h1.2)]
theorem at_heads {w : Wy} {p : Int} (h0 : 0 ≤ p) (h2 : p ≤ 2) : at3 (headsS w) p = headA w p:=by
  rcases (by omega : p = 0 ∨ p = 1 ∨ p = 2) with rfl|rfl|rfl <;> rfl
theorem choose_none {w : Wy} (h : GdW w) (hn : (chooseS w).2.2 ≠ 0) : ∀ p : Int,0 ≤ p → p ≤ 2 → candA w p = -1:=by
  have h1 : linD w.dr (headsS w) ≠ 0:=by
    intro e
    apply hn
    unfold chooseS
    rw [if_neg (by simpa using e)]
  rw [linD_eq h] at h1
  intro p h0 h2
  by_cases hz : ∀ v ∈ headsS w,v = 0
  · rcases head_cand h h0 h2 with ⟨h3,_⟩|⟨_,_,h3,_⟩
    · exact h3
    · have h4 : headA w p ∈ headsS w:=by
        unfold headsS
        rcases (by omega : p = 0 ∨ p = 1 ∨ p = 2) with rfl|rfl|rfl <;> simp
      have:=hz _ h4
      omega
  · rw [if_neg hz] at h1;exact absurd rfl h1
theorem choose_some {w : Wy} (h : GdW w) (hn : (chooseS w).2.2 = 0) : ∃ p : Int,0 ≤ p ∧ p ≤ 2 ∧ p = (nextD w.dr (headsS w)).1 ∧ (chooseS w).1 = candA w p ∧ candA w p ∈ quA w p ∧ fitS w.sz w.us w.bu (candA w p) = true ∧ 0 ≤ candA w p ∧
    (chooseS w).2.1 = { w with dr:=(nextD w.dr (headsS w)).2,ps:=w.ps.set p.toNat (if at3 (quA w p) 0 = candA w p then 0 else at3 w.ps p + 1) } ∧ okD (nextD w.dr (headsS w)).2:=by
  have h1 : linD w.dr (headsS w) = 0:=by
    refine Classical.byContradiction fun e => ?_
    unfold chooseS at hn
    rw [if_pos e] at hn
    exact e hn
  obtain ⟨_,h3,h4⟩:=linD_zero h1
  obtain ⟨hp,hne,hok⟩:=nextD_spec h.dr h3 h4
  refine ⟨(nextD w.dr (headsS w)).1,hp.1,hp.2,rfl,?_,?_⟩
  · unfold chooseS;rw [if_neg (by simpa using h1)]
  · rw [at_heads hp.1 hp.2] at hne
    rcases cand_pos h hp.1 hp.2 with h5|⟨h5,h6,h7,_⟩
    · exfalso;apply hne;unfold headA;rw [h5];rfl
    · exact ⟨h5,h6,h7,by unfold chooseS;rw [if_neg (by simpa using h1)],hok⟩
def cntW (w : Wy) : Nat:=(quA w 0).length + (quA w 1).length + (quA w 2).length
theorem quA_set {w : Wy} (h3 : w.qs.length = 3) {p p' : Int} (h0 : 0 ≤ p) (h2 : p ≤ 2) (h0' : 0 ≤ p') (h2' : p' ≤ 2) (q : List Int) : (w.qs.set p.toNat q).getD p'.toNat [] = if p' = p then q else quA w p':=by
  unfold quA
  rw [List.getD_eq_getElem?_getD,List.getD_eq_getElem?_getD]
  by_cases e : p' = p
  · subst e
    rw [if_pos rfl,List.getElem?_set_self (by omega)];rfl
  · rw [if_neg e,List.getElem?_set_ne (by omega)]
def stepW (w : Wy) : Wy:=withoutS (chooseS w).2.1 (chooseS w).1
structure StepW (w : Wy) (p : Int) : Prop where
  p0 : 0 ≤ p
  p2 : p ≤ 2
  i : (chooseS w).1 = candA w p
  mem : candA w p ∈ quA w p
  fit : fitS w.sz w.us w.bu (candA w p) = true
  pos : 0 ≤ candA w p
  gd : GdW (stepW w)
  l : (stepW w).l = w.l
  sz : (stepW w).sz = w.sz
  us : (stepW w).us = w.us - at3 w.sz (candA w p)
  bu : (stepW w).bu = w.bu - at3 w.sz (candA w p)
  by_ : (stepW w).by' = w.by'
  qu : ∀ p' : Int,0 ≤ p' → p' ≤ 2 → quA (stepW w) p' = if p' = p then (quA w p).filter (· ≠ candA w p) else quA w p'
theorem step_some {w : Wy} (h : GdW w) (hn : (chooseS w).2.2 = 0) : ∃ p,StepW w p:=by
  obtain ⟨p,h0,h2,hpe,hi,hm,hf,hpos,hw,hok⟩:=choose_some h hn
  obtain ⟨n,hn1,hn2,hn3⟩:=h.mem p h0 h2 _ hm
  have e : stepW w = { w with dr:=(nextD w.dr (headsS w)).2,ps:=w.ps.set p.toNat (if at3 (quA w p) 0 = candA w p then 0 else at3 w.ps p + 1),qs:=w.qs.set p.toNat ((quA w p).filter (· ≠ candA w p)),us:=w.us - at3 w.sz (candA w p),bu:=w.bu - at3 w.sz (candA w p) }:=by
    unfold stepW withoutS
    rw [hi,hw]
    show Wy.mk _ _ _ (w.qs.set (bnL w.l (candA w p)).pr.toNat ((quA _ (bnL w.l (candA w p)).pr).filter _)) _ _ _ _ = _
    rw [hn3]
    rfl
  have hq : ∀ p' : Int,0 ≤ p' → p' ≤ 2 → quA (stepW w) p' = if p' = p then (quA w p).filter (· ≠ candA w p) else quA w p':=by
    intro p' h0' h2'
    rw [e]
    exact quA_set h.qs3 h0 h2 h0' h2' _
  refine ⟨p,h0,h2,hi,hm,hf,hpos,⟨by rw [e];exact hok,by rw [e];simp [h.ps3],by rw [e];simp [h.qs3],fun p' h0' h2' i hi' => ?_,by rw [e];exact h.szs⟩,by rw [e],by rw [e],by rw [e],by rw [e],by rw [e],hq⟩
  rw [hq p' h0' h2'] at hi'
  have hl : (stepW w).l = w.l:=by rw [e]
  rw [hl]
  split at hi'
  · rename_i hp
    subst hp
    exact h.mem p' h0' h2' i ((List.mem_filter.1 hi').1)
  · exact h.mem p' h0' h2' i hi'
def sumZ (sz : List Int) (l : List Int) : Int:=(l.map (at3 sz)).foldr (· + ·) 0
theorem sumZ_cons (sz : List Int) (i : Int) (l : List Int) : sumZ sz (i :: l) = at3 sz i + sumZ sz l:=rfl
structure AllW (w : Wy) (r : List Int × Wy) : Prop where
  gd : GdW r.2
  l : r.2.l = w.l
  sz : r.2.sz = w.sz
  by_ : r.2.by' = w.by'
  fin : ∀ p : Int,0 ≤ p → p ≤ 2 → candA r.2 p = -1
  mem : ∀ x ∈ r.1,∃ p : Int,0 ≤ p ∧ p ≤ 2 ∧ x ∈ quA w p
  nd : r.1.Nodup
  qu : ∀ p : Int,0 ≤ p → p ≤ 2 → quA r.2 p = (quA w p).filter (fun x => decide (x ∉ r.1))
  us : r.2.us = w.us - sumZ w.sz r.1
  bu : r.2.bu = w.bu - sumZ w.sz r.1
  us0 : 0 ≤ w.us → 0 ≤ r.2.us
  bu0 : 0 ≤ w.bu → 0 ≤ r.2.bu
theorem pr_mem {w : Wy} (h : GdW w) {p : Int} (h0 : 0 ≤ p) (h2 : p ≤ 2) {x : Int} (hx : x ∈ quA w p) : (bnL w.l x).pr = p:=by
  obtain ⟨_,_,_,h3⟩:=h.mem p h0 h2 x hx
  exact h3
theorem len_filter_lt {q : List Int} {i : Int} (h : i ∈ q) : (q.filter (· ≠ i)).length < q.length:=by
  induction q with
  | nil => cases h
  | cons a q ih =>
    by_cases e : a = i
    · subst e
      have:=List.length_filter_le (· ≠ a) q
      simp only [List.filter_cons,ne_eq,not_true_eq_false,decide_false,Bool.false_eq_true,if_false,List.length_cons]
      simp only [ne_eq] at this
      omega
    · have h9:=ih (by rcases List.mem_cons.1 h with h|h;exact absurd h.symm e;exact h)
      simp only [List.filter_cons,ne_eq,e,not_false_eq_true,decide_true,if_true,List.length_cons]
      simp only [ne_eq] at h9
      omega
theorem cnt_step {w : Wy} {p : Int} (h : StepW w p) : cntW (stepW w) < cntW w:=by
  have h1:=len_filter_lt h.mem
  have q0:=h.qu 0 (by omega) (by omega)
  have q1:=h.qu 1 (by omega) (by omega)
  have q2:=h.qu 2 (by omega) (by omega)
  have h0:=h.p0;have h2:=h.p2
  unfold cntW
  rw [q0,q1,q2]
  rcases (by omega : p = 0 ∨ p = 1 ∨ p = 2) with rfl|rfl|rfl
  · rw [if_pos rfl,if_neg (by omega),if_neg (by omega)];omega
  · rw [if_neg (by omega),if_pos rfl,if_neg (by omega)];omega
  · rw [if_neg (by omega),if_neg (by omega),if_pos rfl];omega
theorem all_spec : ∀ (n : Nat) (w : Wy),GdW w → cntW w < n → AllW w (allS n w)
  | 0,w,_,hc => absurd hc (by omega)
  | n + 1,w,h,hc => by
    unfold allS
    by_cases hn : (chooseS w).2.2 = 0
    · rw [if_neg (by simpa using hn)]
      obtain ⟨p,st⟩:=step_some h hn
      have ih:=all_spec n (stepW w) st.gd (by have:=cnt_step st;omega)
      show AllW w ((chooseS w).1 :: (allS n (stepW w)).1,(allS n (stepW w)).2)
      obtain ⟨r,hr⟩ : ∃ r,r = allS n (stepW w):=⟨_,rfl⟩
      rw [← hr] at ih ⊢
      rw [st.i]
      have hpm:=pr_mem h st.p0 st.p2 st.mem
      have hfit:=st.fit
      unfold fitS at hfit
      simp only [Bool.and_eq_true,decide_eq_true_eq] at hfit
      have hnot : candA w p ∉ r.1:=by
        intro hx
        obtain ⟨p',h0',h2',hx'⟩:=ih.mem _ hx
        rw [st.qu p' h0' h2'] at hx'
        split at hx'
        · have:=(List.mem_filter.1 hx').2;simp at this
        · rename_i hne
          have:=pr_mem h h0' h2' hx'
          omega
      refine ⟨ih.gd,ih.l.trans st.l,ih.sz.trans st.sz,ih.by_.trans st.by_,ih.fin,fun x hx => ?_,List.nodup_cons.2 ⟨hnot,ih.nd⟩,fun p' h0' h2' => ?_,?_,?_,fun h9 => ih.us0 (by rw [st.us];omega),fun h9 => ih.bu0 (by rw [st.bu];omega)⟩
      · rcases List.mem_cons.1 hx with rfl|hx
        · exact ⟨p,st.p0,st.p2,st.mem⟩
        · obtain ⟨p',h0',h2',hx'⟩:=ih.mem _ hx
          refine ⟨p',h0',h2',?_⟩
          rw [st.qu p' h0' h2'] at hx'
          split at hx'
          · rename_i e;subst e;exact (List.mem_filter.1 hx').1
          · exact hx'
      · rw [ih.qu p' h0' h2',st.qu p' h0' h2']
        split
        · rename_i e
          subst e
          rw [List.filter_filter]
          refine List.filter_congr fun x hx => ?_
          simp only [List.mem_cons,not_or,ne_eq]
          by_cases h8 : x = candA w p' <;> by_cases h7 : x ∈ r.1 <;> simp [h8,h7]
        · rename_i hne
          refine List.filter_congr fun x hx => ?_
          have h8 : x ≠ candA w p:=by
            intro e
            have:=pr_mem h h0' h2' hx
            rw [e] at this;omega
          simp [h8]
      · rw [ih.us,st.us,st.sz,sumZ_cons];omega
      · rw [ih.bu,st.bu,st.sz,sumZ_cons];omega
    · rw [if_pos (by simpa using hn)]
      exact ⟨h,rfl,rfl,rfl,choose_none h hn,by simp,List.nodup_nil,fun p h0 h2 => (List.filter_eq_self.2 (by simp)).symm,by simp [sumZ],by simp [sumZ],fun h => h,fun h => h⟩
end Go.Proofs.YtkaehoihpgelnaaDoor
namespace Go.Proofs.YtkaehoihpgelnaaDoor
structure MadeE (l : List Bn) : Prop where
  len : l.length ≤ 12
  ok : ∀ i (h : i < l.length),bcode l[i] = 0
  no : ∀ i (h : i < l.length),l[i].no = 1
  sq : ∀ i (h : i < l.length),l[i].sq = i
  pr : ∀ i (h : i < l.length),0 ≤ l[i].pr ∧ l[i].pr ≤ 2
def IdsE (l : List Bn) : Prop:=∀ i k (h : i < l.length) (h2 : k < l.length),l[i].no = l[k].no → l[i].sq = l[k].sq → l[i].of = l[k].of → i = k
theorem ltQ_tot {l : List Bn} (hv : IdsE l) {i k : Nat} (hi : i < l.length) (hk : k < l.length) (hne : i ≠ k) (h : ltQ l i k = false) : ltQ l k i = true:=by
  cases hl : ltQ l k i with
  | true => rfl
  | false =>
    exfalso
    unfold ltQ at h hl
    rw [bnL_nat l i hi,bnL_nat l k hk] at h hl
    have h3:=(less_lawsO l[i].no l[i].sq l[i].of l[i].pr l[i].bo l[i].li l[k].no l[k].sq l[k].of l[k].pr l[k].bo l[k].li 0 0 0 0 0 0).2.2 h hl
    exact hne (hv i k hi hk h3.1 h3.2.1 h3.2.2)
theorem idxQ_nodup (l : List Bn) (p : Int) : ∀ j,(idxQ l p j).Nodup
  | 0 => by rw [idxQ_zero];exact List.nodup_nil
  | j + 1 => by
    have ih:=idxQ_nodup l p j
    by_cases h : j < l.length
    · by_cases hp : l[j].pr = p
      · rw [idxQ_yes h hp,List.nodup_append]
        refine ⟨ih,by simp,?_⟩
        intro a ha b hb
        simp only [List.mem_singleton] at hb
        obtain ⟨i,rfl,hi,_⟩:=idxQ_mem.1 ha
        omega
      · rw [idxQ_no h hp];exact ih
    · have e : idxQ l p (j + 1) = idxQ l p j:=by
        unfold idxQ
        rw [List.range_succ,List.filterMap_append]
        have : l[j]? = none:=List.getElem?_eq_none (by omega)
        simp [this]
      rw [e];exact ih
theorem queS_nodup (l : List Bn) (p : Int) : (queS l p).Nodup:=(isort_perm _ _).nodup_iff.2 (idxQ_nodup l p _)
def szB (b : Bn) : Int:=(sizeC b.no b.sq b.of b.de b.pr b.bo b.li b.to b.da.size).1
def sizesE (l : List Bn) : List Int:=l.map szB
theorem sizesE_at (l : List Bn) (i : Nat) (hi : i < l.length) : at3 (sizesE l) i = szB l[i]:=by
  unfold at3 sizesE
  rw [Int.toNat_natCast,List.getD_eq_getElem?_getD,List.getElem?_map,List.getElem?_eq_getElem hi];rfl
def firW (l : List Bn) (us bu by' : Int) : Wy:=⟨⟨[1,2,4],[0,0,4800],1200,2⟩,[0,0,0],l,[queS l 0,queS l 1,queS l 2],sizesE l,us,bu,by'⟩
theorem firW_qu (l : List Bn) (us bu by' p : Int) (h0 : 0 ≤ p) (h2 : p ≤ 2) : quA (firW l us bu by') p = queS l p:=by
  rcases (by omega : p = 0 ∨ p = 1 ∨ p = 2) with rfl|rfl|rfl <;> rfl
theorem idxQ_cnt (l : List Bn) (hp : ∀ i (h : i < l.length),0 ≤ l[i].pr ∧ l[i].pr ≤ 2) : ∀ j,j ≤ l.length → (idxQ l 0 j).length + (idxQ l 1 j).length + (idxQ l 2 j).length = j
  | 0,_ => rfl
  | j + 1,h => by
    have ih:=idxQ_cnt l hp j (by omega)
    have h9:=hp j (by omega)
    rcases (by omega : l[j].pr = 0 ∨ l[j].pr = 1 ∨ l[j].pr = 2) with e|e|e
    · rw [idxQ_yes (by omega) e,idxQ_no (by omega) (by omega),idxQ_no (by omega) (by omega)];simp;omega
    · rw [idxQ_no (by omega) (by omega),idxQ_yes (by omega) e,idxQ_no (by omega) (by omega)];simp;omega
    · rw [idxQ_no (by omega) (by omega),idxQ_no (by omega) (by omega),idxQ_yes (by omega) e];simp;omega
theorem firW_cnt {l : List Bn} (hp : ∀ i (h : i < l.length),0 ≤ l[i].pr ∧ l[i].pr ≤ 2) (us bu by' : Int) : cntW (firW l us bu by') = l.length:=by
  unfold cntW
  rw [firW_qu _ _ _ _ 0 (by omega) (by omega),firW_qu _ _ _ _ 1 (by omega) (by omega),firW_qu _ _ _ _ 2 (by omega) (by omega)]
  unfold queS
  rw [isort_length,isort_length,isort_length]
  exact idxQ_cnt l hp l.length (Nat.le_refl _)
end Go.Proofs.YtkaehoihpgelnaaDoor
