/- The wire form of bundles in plain Lean: what is written, what is read, and how the two belong together. No program in sight. -/
import Derived.Test.YtiphddlakbbfiaaDoorWiSeal
import Derived.Test.YtiphddlakbbfiaaDoorNumText
import Derived.Test.YtiphddlakbbfiaaDoorBuMath
namespace Go.Proofs.YtiphddlakbbfiaaDoor
set_option linter.unusedVariables false
open Go.RowKit

def wholeB (of to : Int) (n : Nat) : Bool := decide (of = 0 ∧ to = (n : Int))
/-- The first pieces of the form of a bundle. -/
def frontL (no sq of de pr bo li to : Nat) (wh : Bool) : List UInt8 :=
  UInt8.ofNat (176 + pr + if wh then 4 else 0) :: (putN no ++ putN sq ++ putN de ++ putN bo ++ putN li ++ if wh then [] else putN of ++ putN to)
/-- The form of a bundle. -/
def encL (no sq of de pr bo li to : Nat) (da : List UInt8) : List UInt8 :=
  sealL (frontL no sq of de pr bo li to (wholeB of to da.length) ++ putTextN da)

/-! ### Reading -/
/-- The state of a reader. -/
structure Rs where
  pos : Int
  err : Int
  fat : Int
def rdI (l : List UInt8) (m : Int) (r : Rs) : Int × Rs :=
  if r.err ≠ 0 then (0, r) else ((intN l r.pos m).1, ⟨(intN l r.pos m).2.1, (intN l r.pos m).2.2, if (intN l r.pos m).2.2 ≠ 0 then (intN l r.pos m).2.1 else r.fat⟩)
def hdB (h : Nat) : Bool := decide (176 ≤ h ∧ h ≤ 182 ∧ h ≠ 179)
def startR : List UInt8 → Int × Bool × Rs
  | [] => (0, false, ⟨0, 11, 0⟩)
  | h :: _ => if hdB h.toNat then (((h.toNat - 176) % 4 : Nat), decide (180 ≤ h.toNat), ⟨1, 0, 0⟩) else (0, false, ⟨0, 3, 0⟩)
/-- What stands behind the head. -/
structure Fl where
  no : Int
  sq : Int
  of : Int
  de : Int
  bo : Int
  li : Int
  to : Int
  r : Rs
def fieldsR (l : List UInt8) (fu : Bool) (r0 : Rs) : Fl :=
  let x1 := rdI l 16 r0
  let x2 := rdI l 1099511627776 x1.2
  let x3 := rdI l 16 x2.2
  let x4 := rdI l 1099511627776 x3.2
  let x5 := rdI l 1048576 x4.2
  let x6 := if fu then (0, x5.2) else rdI l 20000 x5.2
  let x7 := if fu then (0, x6.2) else rdI l 20000 x6.2
  ⟨x1.1, x2.1, x6.1, x3.1, x4.1, x5.1, x7.1, x7.2⟩
/-- What Decode gives. -/
structure Dr where
  no : Int
  sq : Int
  of : Int
  de : Int
  pr : Int
  bo : Int
  li : Int
  to : Int
  da : List UInt8
  err : Int
  fat : Int
def Dr.bad (e a : Int) : Dr := ⟨0, 0, 0, 0, 0, 0, 0, 0, [], e, a⟩
/-- What is left to ask when all fields are read. -/
def decT (l : List UInt8) (pr : Int) (fu : Bool) (f : Fl) (t : List UInt8 × Int × Int) : Dr :=
  if t.2.2 ≠ 0 then .bad t.2.2 t.2.1
  else if (l.length : Int) - t.2.1 < 4 then .bad 11 l.length
  else if (l.drop t.2.1.toNat).take 4 ≠ four (crcN (l.take t.2.1.toNat)) then .bad 10 t.2.1
  else if t.2.1 + 4 < l.length then .bad 4 (t.2.1 + 4)
  else if buC f.no f.sq f.of f.de pr f.bo f.li (if fu then (t.1.length : Int) else f.to) t.1.length ≠ 0 then .bad (buC f.no f.sq f.of f.de pr f.bo f.li (if fu then (t.1.length : Int) else f.to) t.1.length) 0
  else if fu = false ∧ wholeB f.of (if fu then (t.1.length : Int) else f.to) t.1.length = true then .bad 3 0
  else ⟨f.no, f.sq, f.of, f.de, pr, f.bo, f.li, if fu then (t.1.length : Int) else f.to, t.1, 0, 0⟩
def decF (l : List UInt8) (pr : Int) (fu : Bool) (f : Fl) : Dr :=
  if f.r.err ≠ 0 then .bad f.r.err f.r.fat else decT l pr fu f (getTextN l f.r.pos 1000)
def decL (l : List UInt8) : Dr := decF l (startR l).1 (startR l).2.1 (fieldsR l (startR l).2.1 (startR l).2.2)

/-! ### One number -/
theorem intN_put (l : List UInt8) (q n : Nat) (m : Int) (rest : List UInt8) (h : l.drop q = putN n ++ rest) (hq : q ≤ l.length) (hn : (n : Int) ≤ m) (hn2 : n < 18446744073709551616) :
    intN l q m = ((n : Int), ((q + (putN n).length : Nat) : Int), 0) := by
  have hg : getN l q = (n, q + (putN n).length, 0) := by
    unfold getN
    rw [if_neg (by omega), show ((q : Int)).toNat = q by omega, h, getGo_put n rest q hn2]
  unfold intN
  rw [hg]
  rw [if_neg (by simp), if_neg (by simp only; omega)]
theorem intN_only (l : List UInt8) (q m n p : Int) (h : intN l q m = (n, p, 0)) :
    ∃ k j : Nat, n = (k : Int) ∧ q = (j : Int) ∧ p = ((j + (putN k).length : Nat) : Int) ∧ j + (putN k).length ≤ l.length ∧ n ≤ m ∧ l.drop j = putN k ++ l.drop (j + (putN k).length) := by
  have h0 := intN_ok l q m n p h
  unfold intN at h
  split at h
  · rename_i he
    simp only [Prod.mk.injEq] at h
    exact absurd (by omega) he
  · rename_i he
    split at h
    · simp at h
    · simp only [Prod.mk.injEq, and_true] at h
      obtain ⟨rfl, rfl⟩ := h
      unfold getN at he ⊢ h0
      by_cases hq : q < 0 ∨ q > l.length
      · rw [if_pos hq] at he; simp at he
      · rw [if_neg hq] at he ⊢ h0
        obtain ⟨⟨a, b, c⟩, hr⟩ : ∃ r, getGo (l.drop q.toNat) q.toNat true 0 = r := ⟨_, rfl⟩
        rw [hr] at he ⊢ h0
        have hc : c = 0 := by simpa using he
        subst hc
        obtain ⟨k, h1, h2, h3, h4⟩ := getGo_only _ _ _ _ hr
        have hk : k = (putN a).length := by
          rw [← h4, List.length_take, List.length_drop]
          rw [List.length_drop] at h2
          omega
        rw [List.length_drop] at h2
        refine ⟨a, q.toNat, rfl, by omega, by simp only; omega, by omega, h0.2.1, ?_⟩
        rw [← hk, ← h4, ← List.drop_drop, List.take_append_drop]
theorem rdI_put (l : List UInt8) (q n : Nat) (m : Int) (rest : List UInt8) (h : l.drop q = putN n ++ rest) (hq : q ≤ l.length) (hn : (n : Int) ≤ m) (hn2 : n < 18446744073709551616) :
    rdI l m ⟨q, 0, 0⟩ = ((n : Int), ⟨((q + (putN n).length : Nat) : Int), 0, 0⟩) ∧ l.drop (q + (putN n).length) = rest ∧ q + (putN n).length ≤ l.length := by
  refine ⟨?_, ?_, ?_⟩
  · unfold rdI
    rw [intN_put l q n m rest h hq hn hn2]
    simp
  · rw [← List.drop_drop, h, List.drop_left' rfl]
  · have := congrArg List.length h
    simp only [List.length_drop, List.length_append] at this
    omega
theorem rdI_only (l : List UInt8) (m : Int) (r r' : Rs) (n : Int) (h : rdI l m r = (n, r')) (he : r'.err = 0) :
    r.err = 0 ∧ r'.fat = r.fat ∧ ∃ k j : Nat, n = (k : Int) ∧ r.pos = (j : Int) ∧ r'.pos = ((j + (putN k).length : Nat) : Int) ∧ j + (putN k).length ≤ l.length ∧ n ≤ m ∧ l.drop j = putN k ++ l.drop (j + (putN k).length) := by
  unfold rdI at h
  split at h
  · rename_i h0
    simp only [Prod.mk.injEq] at h
    obtain ⟨_, rfl⟩ := h
    exact absurd he h0
  · rename_i h0
    simp only [Prod.mk.injEq] at h
    obtain ⟨rfl, rfl⟩ := h
    simp only at he
    have h0' : r.err = 0 := by simpa using h0
    refine ⟨h0', by simp [he], intN_only l r.pos m _ _ ?_⟩
    rw [← he]
theorem rdI_fault (l : List UInt8) (m : Int) (r : Rs) (h : r.err ≠ 0) : rdI l m r = (0, r) := by unfold rdI; rw [if_pos h]
/-- No fault: none before. -/
theorem rdI_before (l : List UInt8) (m : Int) (r : Rs) (h : (rdI l m r).2.err = 0) : r.err = 0 := by
  by_cases h0 : r.err = 0
  · exact h0
  · rw [rdI_fault l m r h0] at h; exact absurd h h0

/-! ### The form is read back -/
theorem textN_put (l : List UInt8) (q : Nat) (da rest : List UInt8) (h : l.drop q = putTextN da ++ rest) (hq : q ≤ l.length) (hd : da.length ≤ 1000) :
    getTextN l q 1000 = (da, ((q + (putN da.length).length + da.length : Nat) : Int), 0) ∧ l.drop (q + (putN da.length).length + da.length) = rest ∧ q + (putN da.length).length + da.length ≤ l.length := by
  have h1 : l.drop q = putN da.length ++ (da ++ rest) := by rw [h]; simp [putTextN]
  have h2 := intN_put l q da.length 1000 (da ++ rest) h1 hq (by omega) (by omega)
  have h3 : l.drop (q + (putN da.length).length) = da ++ rest := by rw [← List.drop_drop, h1, List.drop_left' rfl]
  have h4 := congrArg List.length h1
  simp only [List.length_drop, List.length_append] at h4
  refine ⟨?_, ?_, by omega⟩
  · unfold getTextN
    rw [h2]
    simp only [ne_eq, not_true_eq_false, if_false]
    rw [if_neg (by omega), show (((q + (putN da.length).length : Nat) : Int)).toNat = q + (putN da.length).length by omega, h3, show ((da.length : Int)).toNat = da.length by omega, List.take_left' rfl]
    push_cast
    rfl
  · rw [← List.drop_drop, h3, List.drop_left' rfl]
theorem four_len (x : Nat) : (four x).length = 4 := rfl
theorem encL_cons (no sq of de pr bo li to : Nat) (da rest : List UInt8) :
    encL no sq of de pr bo li to da ++ rest = UInt8.ofNat (176 + pr + if wholeB of to da.length then 4 else 0) :: (putN no ++ (putN sq ++ (putN de ++ (putN bo ++ (putN li ++ ((if wholeB of to da.length then [] else putN of ++ putN to) ++ (putTextN da ++ (four (crcN (frontL no sq of de pr bo li to (wholeB of to da.length) ++ putTextN da)) ++ rest)))))))) := by
  simp [encL, sealL, frontL]
theorem bodyL_eq (no sq of de pr bo li to : Nat) (da : List UInt8) : encL no sq of de pr bo li to da = (frontL no sq of de pr bo li to (wholeB of to da.length) ++ putTextN da) ++ four (crcN (frontL no sq of de pr bo li to (wholeB of to da.length) ++ putTextN da)) := rfl
theorem startR_enc (pr : Nat) (wh : Bool) (r : List UInt8) (hp : pr ≤ 2) : startR (UInt8.ofNat (176 + pr + if wh then 4 else 0) :: r) = ((pr : Int), wh, ⟨1, 0, 0⟩) := by
  have h1 : (UInt8.ofNat (176 + pr + if wh then 4 else 0)).toNat = 176 + pr + if wh then 4 else 0 := by rw [UInt8.toNat_ofNat']; cases wh <;> simp <;> omega
  rw [startR, h1]
  cases wh
  · simp only [Bool.false_eq_true, if_false, Nat.add_zero]
    rw [if_pos (by unfold hdB; simp; omega), show (176 + pr - 176) % 4 = pr by omega, show decide (180 ≤ 176 + pr) = false by simp; omega]
  · simp only [if_true]
    rw [if_pos (by unfold hdB; simp; omega), show (176 + pr + 4 - 176) % 4 = pr by omega, show decide (180 ≤ 176 + pr + 4) = true by simp]
theorem fieldsR_put (l : List UInt8) (no sq of de bo li to : Nat) (wh : Bool) (rest : List UInt8) (hl : 1 ≤ l.length)
    (h : l.drop 1 = putN no ++ (putN sq ++ (putN de ++ (putN bo ++ (putN li ++ ((if wh then [] else putN of ++ putN to) ++ rest))))))
    (h1 : no ≤ 16) (h2 : sq ≤ 1099511627776) (h3 : de ≤ 16) (h4 : bo ≤ 1099511627776) (h5 : li ≤ 1048576) (h6 : of ≤ 20000) (h7 : to ≤ 20000) :
    ∃ q : Nat, fieldsR l wh ⟨1, 0, 0⟩ = ⟨no, sq, if wh then 0 else of, de, bo, li, if wh then 0 else to, ⟨q, 0, 0⟩⟩ ∧ l.drop q = rest ∧ q ≤ l.length := by
  obtain ⟨a1, b1, c1⟩ := rdI_put l 1 no 16 _ h hl (by omega) (by omega)
  obtain ⟨a2, b2, c2⟩ := rdI_put l _ sq 1099511627776 _ b1 c1 (by omega) (by omega)
  obtain ⟨a3, b3, c3⟩ := rdI_put l _ de 16 _ b2 c2 (by omega) (by omega)
  obtain ⟨a4, b4, c4⟩ := rdI_put l _ bo 1099511627776 _ b3 c3 (by omega) (by omega)
  obtain ⟨a5, b5, c5⟩ := rdI_put l _ li 1048576 _ b4 c4 (by omega) (by omega)
  rw [show ((1 : Nat) : Int) = 1 from rfl] at a1
  cases wh
  · simp only [Bool.false_eq_true, if_false, List.append_assoc] at b5 ⊢
    obtain ⟨a6, b6, c6⟩ := rdI_put l _ of 20000 _ b5 c5 (by omega) (by omega)
    obtain ⟨a7, b7, c7⟩ := rdI_put l _ to 20000 _ b6 c6 (by omega) (by omega)
    refine ⟨_, ?_, b7, c7⟩
    unfold fieldsR
    simp only [a1, a2, a3, a4, a5, Bool.false_eq_true, if_false, a6, a7]
  · simp only [if_true, List.nil_append] at b5 ⊢
    refine ⟨_, ?_, b5, c5⟩
    unfold fieldsR
    simp only [a1, a2, a3, a4, a5, if_true]
theorem buC_nat {no sq of de pr bo li to n : Nat} (h : buC no sq of de pr bo li to n = 0) : 1 ≤ no ∧ no ≤ 16 ∧ sq ≤ 1099511627776 ∧ of ≤ 19999 ∧ 1 ≤ de ∧ de ≤ 16 ∧ pr ≤ 2 ∧ bo ≤ 1099511627776 ∧ 1 ≤ li ∧ li ≤ 1048576 ∧ 1 ≤ to ∧ to ≤ 20000 ∧ 1 ≤ n ∧ n ≤ 1000 ∧ of + n ≤ to := by
  obtain ⟨⟨a1, a2, a3, a4, a5⟩, ⟨b1, b2, b3, b4, b5, b6, b7, b8, b9, b10⟩, c1, c2, c3⟩ := buC_ok h
  omega
/-- The form of a valid bundle is read as the bundle; with something behind it, it is too long. -/
theorem decL_enc (no sq of de pr bo li to : Nat) (da rest : List UInt8) (hv : buC no sq of de pr bo li to da.length = 0) :
    decL (encL no sq of de pr bo li to da ++ rest) = if rest = [] then ⟨no, sq, of, de, pr, bo, li, to, da, 0, 0⟩ else .bad 4 (encL no sq of de pr bo li to da).length := by
  obtain ⟨v1, v2, v3, v4, v5, v6, v7, v8, v9, v10, v11, v12, v13, v14, v15⟩ := buC_nat hv
  have hc := encL_cons no sq of de pr bo li to da rest
  obtain ⟨wh, hwh⟩ : ∃ wh, wholeB of to da.length = wh := ⟨_, rfl⟩
  have hb := bodyL_eq no sq of de pr bo li to da
  rw [hwh] at hc hb
  obtain ⟨body, hbody⟩ : ∃ body, frontL no sq of de pr bo li to wh ++ putTextN da = body := ⟨_, rfl⟩
  rw [hbody] at hc hb
  obtain ⟨E, hE⟩ : ∃ E, encL no sq of de pr bo li to da = E := ⟨_, rfl⟩
  rw [hE] at hc hb ⊢
  obtain ⟨l, hl⟩ : ∃ l, E ++ rest = l := ⟨_, rfl⟩
  rw [hl] at hc ⊢
  have hst : startR l = ((pr : Int), wh, ⟨1, 0, 0⟩) := by rw [hc]; exact startR_enc pr wh _ v7
  obtain ⟨q, hf, hd, hq⟩ := fieldsR_put l no sq of de bo li to wh (putTextN da ++ (four (crcN body) ++ rest)) (by rw [hc]; simp) (by rw [hc]; simp) (by omega) (by omega) (by omega) (by omega) (by omega) (by omega) (by omega)
  obtain ⟨ht, hd2, hq2⟩ := textN_put l q da (four (crcN body) ++ rest) hd hq v14
  obtain ⟨nx, hnx⟩ : ∃ nx, q + (putN da.length).length + da.length = nx := ⟨_, rfl⟩
  rw [hnx] at ht hd2 hq2
  have hlen := congrArg List.length hd2
  simp only [List.length_drop, List.length_append, four_len] at hlen
  have hElen : E.length = body.length + 4 := by rw [hb]; simp [four_len]
  have hllen : l.length = E.length + rest.length := by rw [← hl]; simp
  have hnb : nx = body.length := by omega
  have htk : l.take nx = body := by rw [← hl, hb, List.append_assoc, hnb, List.take_left' rfl]
  unfold decL
  rw [hst]
  simp only
  rw [hf]
  unfold decF
  simp only [ne_eq, not_true_eq_false, if_false]
  rw [ht]
  unfold decT
  simp only [ne_eq, not_true_eq_false, if_false]
  have hof : (if wh = true then (0 : Int) else (of : Int)) = of := by
    cases wh
    · rfl
    · have : of = 0 ∧ (to : Int) = da.length := by simpa [wholeB] using hwh
      simp [this.1]
  have hto : (if wh = true then (da.length : Int) else if wh = true then (0 : Int) else (to : Int)) = to := by
    cases wh
    · rfl
    · have : of = 0 ∧ (to : Int) = da.length := by simpa [wholeB] using hwh
      simp [this.2]
  rw [hof, hto, hwh]
  rw [if_neg (by omega), show ((nx : Int)).toNat = nx by omega, htk, hd2, List.take_left' (four_len _)]
  rw [if_neg (by simp)]
  by_cases hr : rest = []
  · subst hr
    rw [if_neg (by simp at hllen; omega), if_neg (by rw [hv]; simp), if_neg (by cases wh <;> simp), if_pos rfl]
  · have : rest.length ≠ 0 := by simpa using hr
    rw [if_pos (by omega), if_neg hr]
    congr 1
    omega

/-! ### Whatever is read is a form -/
theorem startR_ok (l : List UInt8) (h : (startR l).2.2.err = 0) : ∃ b r, l = b :: r ∧ (startR l).2.2 = ⟨1, 0, 0⟩ ∧ ∃ pr : Nat, (startR l).1 = (pr : Int) ∧ pr ≤ 2 ∧ b = UInt8.ofNat (176 + pr + if (startR l).2.1 then 4 else 0) := by
  match l, h with
  | [], h => simp [startR] at h
  | b :: r, h =>
    refine ⟨b, r, rfl, ?_⟩
    rw [startR] at h ⊢
    by_cases hb : hdB b.toNat = true
    · rw [if_pos hb]
      refine ⟨rfl, _, rfl, ?_, ?_⟩
      · unfold hdB at hb; simp at hb; omega
      · unfold hdB at hb
        simp at hb
        apply UInt8.toNat.inj
        simp only [UInt8.toNat_ofNat']
        by_cases h8 : 180 ≤ b.toNat
        · simp only [h8, decide_true, if_true]; omega
        · simp only [h8, decide_false, Bool.false_eq_true, if_false]; omega
    · rw [if_neg hb] at h; simp at h
theorem fieldsR_ok (l : List UInt8) (fu : Bool) (r0 : Rs) (h : (fieldsR l fu r0).r.err = 0) :
    r0.err = 0 ∧ ∃ j no sq of de bo li to q : Nat, r0.pos = (j : Int) ∧ (fieldsR l fu r0).r.pos = (q : Int) ∧ q ≤ l.length ∧ (fieldsR l fu r0).no = (no : Int) ∧ (fieldsR l fu r0).sq = (sq : Int) ∧ (fieldsR l fu r0).of = (of : Int) ∧ (fieldsR l fu r0).de = (de : Int) ∧ (fieldsR l fu r0).bo = (bo : Int) ∧ (fieldsR l fu r0).li = (li : Int) ∧ (fieldsR l fu r0).to = (to : Int) ∧
      (fu = true → of = 0) ∧ l.drop j = (putN no ++ putN sq ++ putN de ++ putN bo ++ putN li ++ if fu then [] else putN of ++ putN to) ++ l.drop q := by
  unfold fieldsR at h ⊢
  simp only at h ⊢
  obtain ⟨⟨n1, r1⟩, e1⟩ : ∃ x, rdI l 16 r0 = x := ⟨_, rfl⟩
  rw [e1] at h ⊢
  simp only at h ⊢
  obtain ⟨⟨n2, r2⟩, e2⟩ : ∃ x, rdI l 1099511627776 r1 = x := ⟨_, rfl⟩
  rw [e2] at h ⊢
  simp only at h ⊢
  obtain ⟨⟨n3, r3⟩, e3⟩ : ∃ x, rdI l 16 r2 = x := ⟨_, rfl⟩
  rw [e3] at h ⊢
  simp only at h ⊢
  obtain ⟨⟨n4, r4⟩, e4⟩ : ∃ x, rdI l 1099511627776 r3 = x := ⟨_, rfl⟩
  rw [e4] at h ⊢
  simp only at h ⊢
  obtain ⟨⟨n5, r5⟩, e5⟩ : ∃ x, rdI l 1048576 r4 = x := ⟨_, rfl⟩
  rw [e5] at h ⊢
  simp only at h ⊢
  cases fu
  · simp only [Bool.false_eq_true, if_false] at h ⊢
    obtain ⟨⟨n6, r6⟩, e6⟩ : ∃ x, rdI l 20000 r5 = x := ⟨_, rfl⟩
    rw [e6] at h ⊢
    simp only at h ⊢
    obtain ⟨⟨n7, r7⟩, e7⟩ : ∃ x, rdI l 20000 r6 = x := ⟨_, rfl⟩
    rw [e7] at h ⊢
    simp only at h ⊢
    obtain ⟨g6, _, k7, j7, rfl, p7, q7, l7, m7, d7⟩ := rdI_only _ _ _ _ _ e7 h
    obtain ⟨g5, _, k6, j6, rfl, p6, q6, l6, m6, d6⟩ := rdI_only _ _ _ _ _ e6 g6
    obtain ⟨g4, _, k5, j5, rfl, p5, q5, l5, m5, d5⟩ := rdI_only _ _ _ _ _ e5 g5
    obtain ⟨g3, _, k4, j4, rfl, p4, q4, l4, m4, d4⟩ := rdI_only _ _ _ _ _ e4 g4
    obtain ⟨g2, _, k3, j3, rfl, p3, q3, l3, m3, d3⟩ := rdI_only _ _ _ _ _ e3 g3
    obtain ⟨g1, _, k2, j2, rfl, p2, q2, l2, m2, d2⟩ := rdI_only _ _ _ _ _ e2 g2
    obtain ⟨g0, _, k1, j1, rfl, p1, q1, l1, m1, d1⟩ := rdI_only _ _ _ _ _ e1 g1
    obtain rfl : j2 = j1 + (putN k1).length := by rw [q1] at p2; omega
    obtain rfl : j3 = j1 + (putN k1).length + (putN k2).length := by rw [q2] at p3; omega
    obtain rfl : j4 = j1 + (putN k1).length + (putN k2).length + (putN k3).length := by rw [q3] at p4; omega
    obtain rfl : j5 = j1 + (putN k1).length + (putN k2).length + (putN k3).length + (putN k4).length := by rw [q4] at p5; omega
    obtain rfl : j6 = j1 + (putN k1).length + (putN k2).length + (putN k3).length + (putN k4).length + (putN k5).length := by rw [q5] at p6; omega
    obtain rfl : j7 = j1 + (putN k1).length + (putN k2).length + (putN k3).length + (putN k4).length + (putN k5).length + (putN k6).length := by rw [q6] at p7; omega
    refine ⟨g0, j1, k1, k2, k6, k3, k4, k5, k7, _, p1, q7, l7, rfl, rfl, rfl, rfl, rfl, rfl, rfl, by simp, ?_⟩
    rw [d1, d2, d3, d4, d5, d6, d7]
    simp only [List.append_assoc]
  · simp only [if_true] at h ⊢
    obtain ⟨g4, _, k5, j5, rfl, p5, q5, l5, m5, d5⟩ := rdI_only _ _ _ _ _ e5 h
    obtain ⟨g3, _, k4, j4, rfl, p4, q4, l4, m4, d4⟩ := rdI_only _ _ _ _ _ e4 g4
    obtain ⟨g2, _, k3, j3, rfl, p3, q3, l3, m3, d3⟩ := rdI_only _ _ _ _ _ e3 g3
    obtain ⟨g1, _, k2, j2, rfl, p2, q2, l2, m2, d2⟩ := rdI_only _ _ _ _ _ e2 g2
    obtain ⟨g0, _, k1, j1, rfl, p1, q1, l1, m1, d1⟩ := rdI_only _ _ _ _ _ e1 g1
    obtain rfl : j2 = j1 + (putN k1).length := by rw [q1] at p2; omega
    obtain rfl : j3 = j1 + (putN k1).length + (putN k2).length := by rw [q2] at p3; omega
    obtain rfl : j4 = j1 + (putN k1).length + (putN k2).length + (putN k3).length := by rw [q3] at p4; omega
    obtain rfl : j5 = j1 + (putN k1).length + (putN k2).length + (putN k3).length + (putN k4).length := by rw [q4] at p5; omega
    refine ⟨g0, j1, k1, k2, 0, k3, k4, k5, 0, _, p1, q5, l5, rfl, rfl, rfl, rfl, rfl, rfl, rfl, by simp, ?_⟩
    rw [d1, d2, d3, d4, d5]
    simp only [List.append_assoc, List.nil_append, List.append_nil]
theorem textN_only (l : List UInt8) (q : Nat) (d : List UInt8) (nx : Int) (h : getTextN l q 1000 = (d, nx, 0)) :
    ∃ p : Nat, nx = (p : Int) ∧ p ≤ l.length ∧ l.drop q = putTextN d ++ l.drop p := by
  unfold getTextN at h
  split at h
  · rename_i he
    simp only [Prod.mk.injEq] at h
    exact absurd h.2.2 he
  · rename_i he
    have he' : (intN l q 1000).2.2 = 0 := by simpa using he
    split at h
    · simp at h
    · rename_i hn
      simp only [Prod.mk.injEq, and_true] at h
      obtain ⟨k, j, e1, e2, e3, e4, e5, e6⟩ := intN_only l q 1000 (intN l q 1000).1 (intN l q 1000).2.1 (by rw [← he'])
      obtain rfl : q = j := by omega
      rw [e1, e3] at h hn
      obtain ⟨rfl, rfl⟩ := h
      rw [show ((q + (putN k).length : Nat) : Int).toNat = q + (putN k).length by omega, show ((k : Int)).toNat = k by omega]
      have hdl : ((l.drop (q + (putN k).length)).take k).length = k := by rw [List.length_take, List.length_drop]; omega
      refine ⟨q + (putN k).length + k, by push_cast; rfl, by omega, ?_⟩
      unfold putTextN
      rw [hdl, e6, List.append_assoc, ← List.drop_drop (i := k), List.take_append_drop]
theorem bad_err {e a : Int} : (Dr.bad e a).err = e := rfl
theorem decL_only (l : List UInt8) (h : (decL l).err = 0) :
    ∃ no sq of de pr bo li to : Nat, ∃ da : List UInt8, decL l = ⟨no, sq, of, de, pr, bo, li, to, da, 0, 0⟩ ∧ buC no sq of de pr bo li to da.length = 0 ∧ l = encL no sq of de pr bo li to da := by
  unfold decL at h ⊢
  obtain ⟨⟨prI, fu, r0⟩, hst⟩ : ∃ x, startR l = x := ⟨_, rfl⟩
  have hs := startR_ok l
  rw [hst] at h hs ⊢
  simp only at h hs ⊢
  obtain ⟨f, hf⟩ : ∃ f, fieldsR l fu r0 = f := ⟨_, rfl⟩
  have hfo := fieldsR_ok l fu r0
  rw [hf] at h hfo ⊢
  unfold decF at h ⊢
  by_cases h1 : f.r.err = 0
  · rw [if_neg (by simp [h1])] at h ⊢
    obtain ⟨g0, j, no, sq, of, de, bo, li, to, q, p0, pq, lq, f1, f2, f3, f4, f5, f6, f7, f8, f9⟩ := hfo h1
    obtain ⟨b, r, rfl, hr0, pr, hpr, hpr2, hb⟩ := hs g0
    rw [hr0] at p0
    obtain rfl : j = 1 := by simp only at p0; omega
    subst hpr
    rw [pq] at h ⊢
    obtain ⟨⟨d, nx, te⟩, ht⟩ : ∃ t, getTextN (b :: r) q 1000 = t := ⟨_, rfl⟩
    rw [ht] at h ⊢
    unfold decT at h ⊢
    by_cases h2 : te = 0
    · subst h2
      obtain ⟨p, rfl, lp, hd⟩ := textN_only _ q d nx ht
      rw [f1, f2, f3, f4, f5, f6, f7] at h ⊢
      simp only [ne_eq, not_true_eq_false, if_false] at h ⊢
      rw [show ((p : Int)).toNat = p by omega] at h ⊢
      by_cases h3 : ((b :: r).length : Int) - (p : Int) < 4
      · rw [if_pos h3, bad_err] at h; omega
      · rw [if_neg h3] at h ⊢
        by_cases h4 : ((b :: r).drop p).take 4 = four (crcN ((b :: r).take p))
        · rw [if_neg (by simp [h4])] at h ⊢
          by_cases h5 : (p : Int) + 4 < ((b :: r).length : Int)
          · rw [if_pos h5, bad_err] at h; omega
          · rw [if_neg h5] at h ⊢
            obtain ⟨to', hto⟩ : ∃ t : Nat, (if fu = true then (d.length : Int) else (to : Int)) = (t : Int) := by cases fu; exact ⟨to, rfl⟩; exact ⟨d.length, rfl⟩
            rw [hto] at h ⊢
            by_cases h6 : buC no sq of de pr bo li to' d.length = 0
            · rw [if_neg (by simp [h6])] at h ⊢
              by_cases h7 : fu = false ∧ wholeB of to' d.length = true
              · rw [if_pos h7, bad_err] at h; omega
              · rw [if_neg h7] at h ⊢
                refine ⟨no, sq, of, de, pr, bo, li, to', d, rfl, h6, ?_⟩
                have hwh : wholeB of to' d.length = fu := by
                  cases fu
                  · simpa using h7
                  · simp only [if_true] at hto
                    have := f8 rfl
                    subst this
                    simp [wholeB, ← hto]
                have hd4 : (b :: r).drop p = ((b :: r).drop p).take 4 := by rw [List.take_of_length_le (by rw [List.length_drop]; omega)]
                have hbody : (b :: r).take p = frontL no sq of de pr bo li to' fu ++ putTextN d := by
                  have e1 : (b :: r) = (frontL no sq of de pr bo li to' fu ++ putTextN d) ++ (b :: r).drop p := by
                    have hto' : fu = false → to' = to := fun e => by subst e; simp at hto; omega
                    have e0 := f9
                    rw [hd] at e0
                    clear hst hs f9 hd h4 hd4 ht hf hfo
                    obtain ⟨Z, hZ⟩ : ∃ Z, (b :: r).drop p = Z := ⟨_, rfl⟩
                    rw [hZ] at e0 ⊢
                    have e0' : r = _ := e0
                    rw [e0', hb]
                    cases fu
                    · rw [hto' rfl]; simp [frontL]
                    · simp [frontL]
                  have e2 := congrArg List.length e1
                  rw [List.length_append, List.length_drop] at e2
                  conv => lhs; rw [e1]
                  rw [List.take_left' (by omega)]
                rw [bodyL_eq, hwh, ← hbody, ← h4, ← hd4, List.take_append_drop]
            · rw [if_pos h6, bad_err] at h; exact absurd h h6
        · rw [if_pos h4, bad_err] at h; omega
    · rw [if_pos h2, bad_err] at h; exact absurd h h2
  · rw [if_pos h1, bad_err] at h; exact absurd h h1

/-! ### A changed byte changes the sum -/
theorem down_inj {x y : Nat} (hx : x < 4294967296) (hy : y < 4294967296) (h : down x = down y) : x = y := by
  have key : ∀ a b : Nat, a < 2147483648 → b < 2147483648 → a ^^^ 2197175160 = b → False := fun a b ha hb he => by
    have h1 := congrArg (fun z => z.testBit 31) he
    simp only [Nat.testBit_xor] at h1
    rw [Nat.testBit_lt_two_pow (show a < 2 ^ 31 by omega), Nat.testBit_lt_two_pow (show b < 2 ^ 31 by omega)] at h1
    exact absurd h1 (by decide)
  unfold down at h
  by_cases h1 : x % 2 = 1 <;> by_cases h2 : y % 2 = 1
  · rw [if_pos h1, if_pos h2] at h
    have h3 := congrArg (fun z => z ^^^ 2197175160) h
    simp only [Nat.xor_assoc, Nat.xor_self, Nat.xor_zero] at h3
    omega
  · rw [if_pos h1, if_neg h2] at h
    exact (key _ _ (by omega) (by omega) h).elim
  · rw [if_neg h1, if_pos h2] at h
    exact (key _ _ (by omega) (by omega) h.symm).elim
  · rw [if_neg h1, if_neg h2] at h; omega
theorem downs_inj (n : Nat) {x y : Nat} (hx : x < 4294967296) (hy : y < 4294967296) (h : downs n x = downs n y) : x = y := by
  induction n with
  | zero => exact h
  | succ n ih => exact ih (down_inj (downs_lt n hx) (downs_lt n hy) h)
theorem xor_cancel {a b c : Nat} (h : a ^^^ b = a ^^^ c) : b = c := by
  have := congrArg (fun z => a ^^^ z) h
  simpa [← Nat.xor_assoc] using this
theorem xor_cancel' {a b c : Nat} (h : b ^^^ a = c ^^^ a) : b = c := by
  rw [Nat.xor_comm b, Nat.xor_comm c] at h; exact xor_cancel h
theorem crcGo_inj (l : List UInt8) : ∀ {r r' : Nat}, r < 4294967296 → r' < 4294967296 → crcGo l r = crcGo l r' → r = r' := by
  induction l with
  | nil => exact fun _ _ h => h
  | cons c l ih =>
    intro r r' hr hr' h
    have hc := c.toNat_lt
    have h1 : byteN r c.toNat = byteN r' c.toNat := ih (byteN_lt hr hc) (byteN_lt hr' hc) h
    exact xor_cancel' (downs_inj 8 (Nat.xor_lt_two_pow (n := 32) (by omega) (by omega)) (Nat.xor_lt_two_pow (n := 32) (by omega) (by omega)) h1)
theorem crcN_changed (a c : List UInt8) (b b' : UInt8) (h : crcN (a ++ b :: c) = crcN (a ++ b' :: c)) : b = b' := by
  have h0 : crcGo a 4294967295 < 4294967296 := crcGo_lt a (by decide)
  have h1 := xor_cancel' h
  rw [crcGo_append, crcGo_append] at h1
  obtain ⟨r, hr⟩ : ∃ r, crcGo a 4294967295 = r := ⟨_, rfl⟩
  rw [hr] at h0 h1
  have hb := b.toNat_lt
  have hb' := b'.toNat_lt
  have h2 : byteN r b.toNat = byteN r b'.toNat := crcGo_inj c (byteN_lt h0 hb) (byteN_lt h0 hb') h1
  have h3 := downs_inj 8 (Nat.xor_lt_two_pow (n := 32) (by omega) (by omega)) (Nat.xor_lt_two_pow (n := 32) (by omega) (by omega)) h2
  exact UInt8.toNat.inj (xor_cancel h3)
theorem four_inj {x y : Nat} (hx : x < 4294967296) (hy : y < 4294967296) (h : four x = four y) : x = y := by
  unfold four at h
  simp only [List.cons.injEq, and_true] at h
  obtain ⟨h1, h2, h3, h4⟩ := h
  replace h1 := congrArg UInt8.toNat h1
  replace h2 := congrArg UInt8.toNat h2
  replace h3 := congrArg UInt8.toNat h3
  replace h4 := congrArg UInt8.toNat h4
  simp only [UInt8.toNat_ofNat'] at h1 h2 h3 h4
  omega
/-- One byte of a sealed text changed: the text is not sealed. -/
theorem seal_spoilt (p p' : List UInt8) (i : Nat) (v : UInt8) (hi : i < (sealL p).length) (hv : v ≠ (sealL p)[i]) (h : (sealL p).set i v = sealL p') : False := by
  have hlen : p'.length = p.length := by
    have := congrArg List.length h
    simp [sealL, four_len] at this
    omega
  unfold sealL at hi hv h
  by_cases hip : i < p.length
  · rw [List.set_append_left _ _ hip] at h
    obtain ⟨h1, h2⟩ := List.append_inj h (by simp [hlen])
    have h3 : crcN p = crcN p' := four_inj (crcN_lt _) (crcN_lt _) h2
    rw [List.getElem_append_left hip] at hv
    rw [← h1, List.set_eq_take_append_cons_drop, if_pos hip] at h3
    have h4 : p = p.take i ++ p[i] :: p.drop (i + 1) := by simp
    conv at h3 => lhs; rw [h4]
    exact hv (crcN_changed _ _ _ _ h3).symm
  · rw [List.set_append_right _ _ (by omega)] at h
    obtain ⟨h1, h2⟩ := List.append_inj h hlen.symm
    subst h1
    rw [List.getElem_append_right (by omega)] at hv
    have h3 : i - p.length < (four (crcN p)).length := by rw [List.length_append] at hi; omega
    have h4 := congrArg (fun z => z[i - p.length]?) h2
    simp only [List.getElem?_set_self h3, List.getElem?_eq_getElem h3] at h4
    exact hv (Option.some.inj h4)

/-! ### Sizes and room -/
def frLen (no sq of de pr bo li to : Nat) (wh : Bool) : Nat := (frontL no sq of de pr bo li to wh).length
/-- The size of a form whose first pieces have F bytes, with n bytes of data. -/
def szN (F n : Nat) : Nat := F + (putN n).length + n + 4
theorem encL_len (no sq of de pr bo li to : Nat) (da : List UInt8) : (encL no sq of de pr bo li to da).length = szN (frLen no sq of de pr bo li to (wholeB of to da.length)) da.length := by
  unfold encL sealL szN frLen putTextN
  simp [four_len]; omega
theorem frLen_le (no sq of de pr bo li to : Nat) (wh : Bool) : 6 ≤ frLen no sq of de pr bo li to wh ∧ frLen no sq of de pr bo li to wh ≤ 78 := by
  unfold frLen frontL
  have a1 := putN_length no
  have a2 := putN_length sq
  have a3 := putN_length of
  have a4 := putN_length de
  have a5 := putN_length bo
  have a6 := putN_length li
  have a7 := putN_length to
  cases wh <;> simp <;> omega
theorem szN_mono (F : Nat) {m n : Nat} (h : m < n) : szN F m < szN F n := by
  unfold szN
  have := putN_len_mono m n (by omega)
  omega
/-- The greatest number of bytes up to k for which there is room; 0 if there is none. -/
def roomGo (F : Nat) (size : Int) : Nat → Nat
  | 0 => 0
  | k + 1 => if ((szN F (k + 1) : Nat) : Int) ≤ size then k + 1 else roomGo F size k
theorem roomGo_le (F : Nat) (size : Int) (k : Nat) : roomGo F size k ≤ k := by
  induction k with
  | zero => simp [roomGo]
  | succ k ih => unfold roomGo; split <;> omega
theorem roomGo_fits (F : Nat) (size : Int) (k : Nat) (h : roomGo F size k ≠ 0) : ((szN F (roomGo F size k) : Nat) : Int) ≤ size := by
  induction k with
  | zero => simp [roomGo] at h
  | succ k ih =>
    unfold roomGo at h ⊢
    split
    · assumption
    · rename_i hn; rw [if_neg hn] at h; exact ih h
theorem roomGo_most (F : Nat) (size : Int) (k n : Nat) (hn : n ≤ k) (h : ((szN F n : Nat) : Int) ≤ size) : n ≤ roomGo F size k := by
  induction k with
  | zero => omega
  | succ k ih =>
    unfold roomGo
    split
    · omega
    · rename_i hk
      by_cases he : n = k + 1
      · subst he; exact absurd h hk
      · exact ih (by omega)
theorem roomGo_exact (F n : Nat) (hn : n ≤ 1000) : roomGo F (szN F n : Nat) 1000 = n := by
  have h1 := roomGo_most F (szN F n : Nat) 1000 n hn (by omega)
  by_cases h0 : roomGo F (szN F n : Nat) 1000 = 0
  · omega
  · have h2 := roomGo_fits F (szN F n : Nat) 1000 h0
    by_cases h3 : n < roomGo F (szN F n : Nat) 1000
    · have := szN_mono F h3; omega
    · omega
theorem roomGo_step (F : Nat) (size : Int) : roomGo F size 1000 ≤ roomGo F (size + 1) 1000 ∧ roomGo F (size + 1) 1000 ≤ roomGo F size 1000 + 1 := by
  constructor
  · by_cases h0 : roomGo F size 1000 = 0
    · omega
    · have := roomGo_fits F size 1000 h0
      exact roomGo_most F (size + 1) 1000 _ (roomGo_le _ _ _) (by omega)
  · by_cases h0 : roomGo F (size + 1) 1000 = 0
    · omega
    · have h1 := roomGo_fits F (size + 1) 1000 h0
      obtain ⟨k, hk⟩ : ∃ k, roomGo F (size + 1) 1000 = k + 1 := ⟨_, (Nat.succ_pred_eq_of_ne_zero h0).symm⟩
      have hle := roomGo_le F (size + 1) 1000
      rw [hk] at h1 hle ⊢
      have h2 := szN_mono F (show k < k + 1 by omega)
      have := roomGo_most F size 1000 k (by omega) (by omega)
      omega
end Go.Proofs.YtiphddlakbbfiaaDoor
