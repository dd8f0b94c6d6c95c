/- Parts of a proof, printed by a program of mine out of my texts: StBks. -/
import Derived.Test.YtahopnlibmiafaaDoorMStDrp
import Derived.Test.YtahopnlibmiafaaDoorMY
set_option linter.unusedSimpArgs false
set_option linter.unusedVariables false
namespace Go.Proofs.YtahopnlibmiafaaDoor
open Go.RowKit
theorem retS_row {R : List Itm × Int} {n : Nat} (hn : R.1.length = n) {w w' : World} {e : Ending} (h : RetS R w e w') : ∃ a c, e = .returned (.tuple #[.slice a n c, .int .i64 R.2]) ∧ SRow itm 13 w' a c R.1 ∧ Below w.heap.size w w' := by
  obtain ⟨v, rfl, ho, hB⟩ := h
  obtain ⟨a, c, rfl, hS, _⟩ := srow_of_owns itm_len ho
  exact ⟨a, c, by rw [hn], hS, hB⟩
def keyI (x : Itm) : Id3 × Int := (bid x.b, x.od)
theorem keys_bid (p : List Itm) : p.map (bid ·.b) = (p.map keyI).map (·.1) := by simp [keyI, Function.comp_def]
theorem keys_od (p : List Itm) (d : Int) : (p.getLast?.elim false fun y => decide (d ≤ y.od)) = ((p.map keyI).getLast?.elim false fun y => decide (d ≤ y.2)) := by
  rw [List.getLast?_map]
  cases p.getLast? <;> rfl
theorem itF_keys {p q : List Itm} (h : p.map keyI = q.map keyI) (x : Itm) : itF x p = itF x q := by
  unfold itF
  rw [keys_bid, keys_bid, keys_od, keys_od, h]
theorem itF_put {p : List Itm} {x y : Itm} (h : itF x p = 0) (hk : keyI y = keyI x) (hy : itE y = 0) : itF y p = 0 := by
  have hb : bid y.b = bid x.b := (Prod.mk.inj hk).1
  have ho : y.od = x.od := (Prod.mk.inj hk).2
  have hx := itF_e h
  unfold itF at h ⊢
  rw [hx] at h
  rw [hy, hb, ho]
  exact h
theorem set_keys {l : List Itm} {j : Nat} (hj : j < l.length) {y : Itm} (hk : keyI y = keyI l[j]) : (l.set j y).map keyI = l.map keyI := by
  rw [List.map_set, hk]
  apply List.ext_getElem (by simp)
  intro i h1 h2
  rw [List.getElem_set]
  split
  · subst j; simp
  · rfl
theorem StV.put {l : List Itm} (h : StV l) {j : Nat} (hj : j < l.length) {y : Itm} (hk : keyI y = keyI l[j]) (hy : itE y = 0) : StV (l.set j y) := by
  refine ⟨by simpa using h.1, fun i hi => ?_⟩
  have hi' : i < l.length := by simpa using hi
  have ht : ((l.set j y).take i).map keyI = (l.take i).map keyI := by rw [List.map_take, set_keys hj hk, List.map_take]
  rw [fltS_at hi, itF_keys ht]
  have h0 := h.2 i hi'
  rw [fltS_at hi'] at h0
  rw [List.getElem_set]
  split
  · subst i; exact itF_put h0 hk hy
  · exact h0
theorem StV.ne {l : List Itm} (h : StV l) {i j : Nat} (hj : j < l.length) (hij : i < j) : bid (l[i]'(by omega)).b ≠ bid l[j].b := by
  have h0 := h.2 j hj
  rw [fltS_at hj] at h0
  intro e
  refine itF_id h0 ?_
  rw [← e]
  exact List.mem_map.2 ⟨l[i]'(by omega), List.mem_take_iff_getElem.2 ⟨i, by omega, rfl⟩, rfl⟩
theorem b_find {l : List Itm} (h : StV l) {j : Nat} (hj : j < l.length) : findS l (bid l[j].b) = ((j : Int), 0) := by
  unfold findS
  have hp : placeS l (bid l[j].b) = (j : Int) := placeS_some hj (fun i hi => h.ne hj hi) rfl
  rw [chkS_good h, if_neg (by simp), hp, if_neg (by omega)]
theorem StV.at {l : List Itm} (h : StV l) {j : Nat} (hj : j < l.length) : itE l[j] = 0 := by
  have h0 := h.2 j hj
  rw [fltS_at hj] at h0
  exact itF_e h0
theorem itE_st {x : Itm} (h : itE x = 0) : (x.st = 1 ∧ x.to = 0 ∧ x.off = 0) ∨ (x.st = 2 ∧ 1 ≤ x.to ∧ x.to ≤ 16) := by
  unfold itE at h
  by_cases c1 : bcode x.b ≠ 0
  · rw [if_pos c1] at h; exact absurd h c1
  · rw [if_neg c1] at h
    by_cases c2 : x.st ≠ 1 ∧ x.st ≠ 2
    · rw [if_pos c2] at h; exact absurd h (by decide)
    · rw [if_neg c2] at h
      by_cases c3 : x.st = 2 ∧ (x.to < 1 ∨ 16 < x.to)
      · rw [if_pos c3] at h; exact absurd h (by decide)
      · rw [if_neg c3] at h
        by_cases c4 : x.st = 1 ∧ (x.to ≠ 0 ∨ x.off ≠ 0)
        · rw [if_pos c4] at h; exact absurd h (by decide)
        · omega
def offI (x : Itm) (t : Int) : Itm := ⟨x.b, 2, t, 7, x.od⟩
theorem offI_e {x : Itm} (h : itE x = 0) {t : Int} (h1 : 1 ≤ t) (h2 : t ≤ 4) : itE (offI x t) = 0 := by
  have hb := itE_b h
  have ho := itE_od h
  unfold itE
  have hb' : bcode (offI x t).b = 0 := hb
  rw [hb', if_neg (by simp)]
  show (if (2 : Int) ≠ 1 ∧ (2 : Int) ≠ 2 then (12 : Int) else if (2 : Int) = 2 ∧ (t < 1 ∨ 16 < t) then 2 else if (2 : Int) = 1 ∧ (t ≠ 0 ∨ (7 : Int) ≠ 0) then 12 else if x.od < 0 ∨ 1099511627776 < x.od then 2 else 0) = 0
  rw [if_neg (by omega), if_neg (by omega), if_neg (by omega), if_neg (by omega)]
theorem b_off2 {l : List Itm} (h : StV l) {j : Nat} (hj : j < l.length) (t : Int) (hs : l[j].st = 2) : offerS l (bid l[j].b) t 7 = ([], 12) := by
  rw [offerS_at t 7 hj (b_find h hj), if_pos (by rw [hs]; decide)]
theorem b_off1 {l : List Itm} (h : StV l) {j : Nat} (hj : j < l.length) {t : Int} (h1 : 1 ≤ t) (h2 : t ≤ 4) (hs : l[j].st = 1) : offerS l (bid l[j].b) t 7 = (l.set j (offI l[j] t), 0) := by
  rw [offerS_at t 7 hj (b_find h hj), if_neg (by rw [hs]; decide), if_neg (by omega)]
  rfl
theorem b_back {l : List Itm} (h : StV l) {j : Nat} (hj : j < l.length) {t : Int} (h1 : 1 ≤ t) (h2 : t ≤ 4) (hs : l[j].st = 1) : backS (l.set j (offI l[j] t)) (bid l[j].b) = (l, 0) := by
  obtain ⟨x, hx⟩ : ∃ x, x = l[j] := ⟨_, rfl⟩
  have hk : keyI (offI x t) = keyI l[j] := by rw [hx]; rfl
  have hv := h.put hj hk (by rw [hx]; exact offI_e (h.at hj) h1 h2)
  rw [← hx] at hs ⊢
  have hj' : j < (l.set j (offI x t)).length := by simpa using hj
  have e : (l.set j (offI x t))[j] = offI x t := by simp
  have hf := b_find hv hj'
  rw [e] at hf
  have hr := itE_st (h.at hj)
  rw [← hx] at hr
  rw [backS_at hj' (show findS (l.set j (offI x t)) (bid x.b) = _ from hf), e, if_neg (show ¬ (offI x t).st ≠ 2 from fun h => h rfl), List.set_set]
  have : heldI (offI x t) = x := by
    obtain ⟨b, st, to, off, od⟩ := x
    simp only at hr hs
    show (⟨b, 1, 0, 0, od⟩ : Itm) = ⟨b, st, to, off, od⟩
    have : to = 0 ∧ off = 0 := by omega
    rw [this.1, this.2, hs]
  rw [this, hx, List.set_getElem_self]
theorem b_all {l : List Itm} (h : StV l) {t : Int} (h1 : 1 ≤ t) (h2 : t ≤ 4) : backAllS l t = (l.map (back1 t), 0) := by
  unfold backAllS
  rw [chkS_good h, if_neg (by simp), if_neg (by omega)]
end Go.Proofs.YtahopnlibmiafaaDoor
