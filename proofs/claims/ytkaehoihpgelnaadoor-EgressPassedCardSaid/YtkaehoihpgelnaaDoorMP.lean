/- Parts of a proof, printed by a program of mine out of my texts: EgMir, EgLeft, EgPas. -/
import Derived.Test.YtkaehoihpgelnaaDoorMF
import Derived.Test.YtkaehoihpgelnaaDoorML
import Derived.Test.YtkaehoihpgelnaaDoorMX9
set_option linter.unusedSimpArgs false
set_option linter.unusedVariables false
namespace Go.Proofs.YtkaehoihpgelnaaDoor
theorem choose_err {w : Wy} : (chooseS w).2.2 = linD w.dr (headsS w) := by
  unfold chooseS
  split
  · rfl
  · rename_i h; exact (Classical.byContradiction fun e => h (fun e2 => e e2.symm))
end Go.Proofs.YtkaehoihpgelnaaDoor
namespace Go.Proofs.YtkaehoihpgelnaaDoor
theorem chkX_ok {r : Rr} {ps : List Int} (h1 : okD r) (h2 : ps.length = 3) (h3 : okP ps) : chkX r ps = 0 := by
  unfold chkX
  rw [chkD_ok h1, if_neg (by simp), if_neg (by omega), if_pos h3]
end Go.Proofs.YtkaehoihpgelnaaDoor
namespace Go.Proofs.YtkaehoihpgelnaaDoor
theorem lstE_nodup {l : List Bn} (h : lstE l = 0) : (l.map bid).Nodup := by
  unfold lstE at h
  split at h
  · cases h
  · split at h
    · rename_i h1; exact absurd h h1
    · split at h
      · rename_i h1; exact h1
      · cases h
theorem lstE_sub {l m : List Bn} (h : lstE l = 0) (hs : m.Sublist l) (hl : m.length ≤ 1000) : lstE m = 0 := by
  refine lstE_zero (by omega) (fun i hi => lstE_codes h _ (hs.subset (List.getElem_mem hi))) ?_
  exact List.Nodup.sublist (hs.map bid) (lstE_nodup h)
structure PasG (l : List Bn) (r : Rr) (ps : List Int) (us by' : Int) : Prop where
  opn : OpnG r ps l us 1000 by'
  len : l.length ≤ 12
  byS : by' ≤ 10
structure PasS (l : List Bn) (r : Rr) (ps : List Int) (us by' : Int) (n pn : Nat) (hd pv nv : Int) : Prop where
  i : (chooseS (opnW r ps l us 1000 by')).1 = n
  nl : n < l.length
  pr : ∀ h : n < l.length, l[n].pr = pn
  pn3 : pn < 3
  q0 : 0 < (queS l pn).length
  hdq : at3 (queS l pn) 0 = hd
  pv_ : ps[pn]? = some pv
  nv_ : nv = if hd = (n : Int) then 0 else pv + 1
  nvb : 0 ≤ pv ∧ pv ≤ 100 ∧ 0 ≤ nv ∧ nv ≤ by'
  psn : (chooseS (opnW r ps l us 1000 by')).2.1.ps = ps.set pn nv
  next : PasG (l.take n ++ l.drop (n + 1)) (chooseS (opnW r ps l us 1000 by')).2.1.dr (ps.set pn nv) us by'
theorem pas_step {l : List Bn} {r : Rr} {ps : List Int} {us by' : Int} (h : PasG l r ps us by') (hz : (chooseS (opnW r ps l us 1000 by')).2.2 = 0) : ∃ n pn hd pv nv, PasS l r ps us by' n pn hd pv nv := by
  obtain ⟨hg, _⟩ := opnW_gda h.opn
  obtain ⟨p, h0, h2, hpe, hi, hm, hf, hpos, hw, hok⟩ := choose_some hg.gd hz
  obtain ⟨pn, n, A, B, sg⟩ := step_gd hg hz
  have eq : quA (opnW r ps l us 1000 by') p = queS l p := by rcases (by omega : p = 0 ∨ p = 1 ∨ p = 2) with rfl | rfl | rfl <;> rfl
  obtain ⟨n', hn1, hn2, hn3⟩ := hg.gd.mem p h0 h2 _ hm
  have hnn : n' = n := by
    have h8 := sg.i
    rw [hi, hn1] at h8
    omega
  subst hnn
  have hn2' : n' < l.length := hn2
  have hnp : l[n'].pr = p := by
    have h8 : (bnL l (candA (opnW r ps l us 1000 by') p)).pr = p := hn3
    rw [hn1, bnL_nat l n' hn2'] at h8; exact h8
  have hps3 : ps.length = 3 := hg.gd.ps3
  have hpt : ((p.toNat : Nat) : Int) = p := by omega
  have hpl : p.toNat < ps.length := by omega
  have e3 : at3 ps p = ps[p.toNat] := by unfold at3; rw [List.getD_eq_getElem?_getD, List.getElem?_eq_getElem hpl]; rfl
  have hb := hg.ps _ (List.getElem_mem hpl)
  have hps2 : (chooseS (opnW r ps l us 1000 by')).2.1.ps = ps.set p.toNat (if at3 (queS l p) 0 = (n' : Int) then 0 else ps[p.toNat] + 1) := by
    rw [hw]
    show ps.set p.toNat (if at3 (quA (opnW r ps l us 1000 by') p) 0 = candA (opnW r ps l us 1000 by') p then 0 else at3 ps p + 1) = _
    rw [eq, hn1, e3]
  have hq0 : 0 < (queS l p).length := by rw [← eq]; exact List.length_pos_of_mem hm
  have hby := h.opn.by0
  have hnv : 0 ≤ (if at3 (queS l p) 0 = (n' : Int) then (0 : Int) else ps[p.toNat] + 1) ∧ (if at3 (queS l p) 0 = (n' : Int) then (0 : Int) else ps[p.toNat] + 1) ≤ by' := by
    split
    · omega
    · rename_i hne
      have h8 := cand_head hm (by rw [eq, hn1]; exact hne) hf hpos
      have h7 : at3 ps p < by' := h8
      omega
  have hsub : (l.take n' ++ l.drop (n' + 1)).Sublist l := by
    rw [← List.eraseIdx_eq_take_drop_succ]
    exact List.eraseIdx_sublist l n'
  have hlen := h.len
  have hsl := hsub.length_le
  refine ⟨n', p.toNat, at3 (queS l p) 0, ps[p.toNat], if at3 (queS l p) 0 = (n' : Int) then (0 : Int) else ps[p.toNat] + 1, sg.i, hn2', fun _ => by rw [hpt]; exact hnp, by omega, by rw [hpt]; exact hq0, by rw [hpt], List.getElem?_eq_getElem hpl, rfl, ⟨hb.1, hb.2, hnv⟩, hps2, ⟨⟨by omega, ?_, lstE_sub h.opn.lst hsub (by omega), fun x hx => h.opn.sq x (hsub.subset hx), h.opn.us0, h.opn.bu0, hby⟩, by omega, h.byS⟩⟩
  have h6 : okP (stepW (opnW r ps l us 1000 by')).ps := sg.gd.ps
  have h5 : (stepW (opnW r ps l us 1000 by')).ps = (chooseS (opnW r ps l us 1000 by')).2.1.ps := rfl
  rw [h5, hps2] at h6
  have h4 : (chooseS (opnW r ps l us 1000 by')).2.1.dr = (nextD (opnW r ps l us 1000 by').dr (headsS (opnW r ps l us 1000 by'))).2 := by rw [hw]
  rw [h4]
  exact chkX_ok hok (by rw [List.length_set]; exact hps3) h6
theorem pas_err {l : List Bn} {r : Rr} {ps : List Int} {us by' : Int} (h : PasG l r ps us by') (hz : (chooseS (opnW r ps l us 1000 by')).2.2 ≠ 0) : (chooseS (opnW r ps l us 1000 by')).2.2 = 8 := by
  rw [choose_err, linD_eq (opnW_gd h.opn)] at hz ⊢
  split
  · rfl
  · rename_i h1; rw [if_neg h1] at hz; exact absurd rfl hz
end Go.Proofs.YtkaehoihpgelnaaDoor
