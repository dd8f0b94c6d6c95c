/- Keys read back: what the program's and the reference's readers compute, in plain words, and that the two are one. -/
import Derived.Test.YtdbmiijnedkipaaDoorBuMath
namespace Go.Proofs.YtdbmiijnedkipaaDoor
set_option linter.unusedVariables false

abbrev KState := Nat × List Nat × List Nat
def k0 : KState := (0, [0, 0, 0], [0, 0, 0])
/-- One byte. -/
def stepK (st : KState) (c : UInt8) : Option KState :=
  if c.toNat = 46 then (if st.1 + 1 = 3 then none else some (st.1 + 1, st.2))
  else if c.toNat < 48 ∨ 57 < c.toNat then none
  else if (0 < st.2.2.getD st.1 0 ∧ st.2.1.getD st.1 0 = 0) ∨ st.2.2.getD st.1 0 = 13 then none
  else some (st.1, st.2.1.set st.1 (10 * st.2.1.getD st.1 0 + (c.toNat - 48)), st.2.2.set st.1 (st.2.2.getD st.1 0 + 1))
def runK : List UInt8 → KState → Option KState
  | [], st => some st
  | c :: l, st => (stepK st c).bind (runK l)
def finK (st : KState) : Option (Nat × Nat × Nat) := if st.2.2.contains 0 then none else some (st.2.1.getD 0 0, st.2.1.getD 1 0, st.2.1.getD 2 0)
def parseK (s : List UInt8) : Option (Nat × Nat × Nat) := (runK s k0).bind finK

theorem runK_append (l m : List UInt8) (st : KState) : runK (l ++ m) st = (runK l st).bind (runK m) := by
  induction l generalizing st with
  | nil => rfl
  | cons c l ih =>
    simp only [List.cons_append, runK]
    cases stepK st c with
    | none => rfl
    | some t => simp [ih]
theorem runK_take {s : List UInt8} {j : Nat} (h : j < s.length) {st : KState} (h1 : runK (s.take j) k0 = some st) : runK (s.take (j + 1)) k0 = stepK st s[j] := by
  rw [List.take_succ_eq_append_getElem h, runK_append, h1]
  simp only [Option.bind_some, runK]
  cases stepK st s[j] <;> rfl
theorem parseK_fail {s : List UInt8} {j : Nat} (h : j < s.length) {st : KState} (h1 : runK (s.take j) k0 = some st) (h2 : stepK st s[j] = none) : parseK s = none := by
  have := runK_take h h1
  rw [h2] at this
  unfold parseK
  rw [← List.take_append_drop (j + 1) s, runK_append, this]
  rfl
/-- What is so of each state. -/
structure KOk (st : KState) : Prop where
  k : st.1 ≤ 2
  p : st.2.1.length = 3
  d : st.2.2.length = 3
  d13 : ∀ i, st.2.2.getD i 0 ≤ 13
  lt : ∀ i, st.2.1.getD i 0 < 10 ^ st.2.2.getD i 0
theorem k0_ok : KOk k0 := by
  refine ⟨by decide, rfl, rfl, fun i => ?_, fun i => ?_⟩ <;> (match i with | 0 => decide | 1 => decide | 2 => decide | i + 3 => simp [k0])
theorem getD_set_nat (l : List Nat) (i j v : Nat) : (l.set i v).getD j 0 = if i = j ∧ i < l.length then v else l.getD j 0 := by
  simp only [List.getD_eq_getElem?_getD, List.getElem?_set]
  by_cases h : i = j
  · subst h
    by_cases h2 : i < l.length
    · simp [h2]
    · simp [h2]
  · simp [h]
theorem stepK_ok {st t : KState} {c : UInt8} (h : KOk st) (hs : stepK st c = some t) : KOk t := by
  unfold stepK at hs
  split at hs
  · split at hs
    · cases hs
    · cases hs
      exact ⟨by have := h.k; dsimp only; omega, h.p, h.d, h.d13, h.lt⟩
  · split at hs
    · cases hs
    · rename_i hc
      split at hs
      · cases hs
      · rename_i hn
        cases hs
        have hd := h.d13 st.1
        have hl := h.lt st.1
        refine ⟨h.k, by simpa using h.p, by simpa using h.d, fun i => ?_, fun i => ?_⟩
        · dsimp only
          rw [getD_set_nat]
          split
          · omega
          · exact h.d13 i
        · dsimp only
          rw [getD_set_nat, getD_set_nat]
          by_cases hi : st.1 = i
          · subst hi
            rw [if_pos ⟨rfl, by rw [h.p]; have := h.k; omega⟩, if_pos ⟨rfl, by rw [h.d]; have := h.k; omega⟩, Nat.pow_succ]
            omega
          · rw [if_neg (by intro q; exact hi q.1), if_neg (by intro q; exact hi q.1)]
            exact h.lt i
theorem runK_ok {l : List UInt8} {st t : KState} (h : KOk st) (hr : runK l st = some t) : KOk t := by
  induction l generalizing st with
  | nil => cases hr; exact h
  | cons c l ih =>
    simp only [runK] at hr
    cases hs : stepK st c with
    | none => rw [hs] at hr; cases hr
    | some u => rw [hs] at hr; exact ih (stepK_ok h hs) hr
theorem KOk.small {st : KState} (h : KOk st) (i : Nat) : st.2.1.getD i 0 < 10000000000000 := by
  have h1 := h.lt i
  have h2 := h.d13 i
  have : 10 ^ st.2.2.getD i 0 ≤ 10 ^ 13 := Nat.pow_le_pow_right (by decide) h2
  omega
end Go.Proofs.YtdbmiijnedkipaaDoor
