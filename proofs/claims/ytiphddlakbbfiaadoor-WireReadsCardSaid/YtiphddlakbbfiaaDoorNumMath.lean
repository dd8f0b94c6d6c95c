/- The plain mathematics of the seven-bit groups: what Put writes, what Get reads, and how the two belong together. No program in sight. -/
import Derived.WalkKit
namespace Go.Proofs.YtiphddlakbbfiaaDoor
set_option linter.unusedVariables false

/-- The groups of a number that are followed by another one, at most k of them. -/
def hi : Nat → Nat → List UInt8
  | 0, _ => []
  | k + 1, n => if n = 0 then [] else hi k (n / 128) ++ [UInt8.ofNat (128 + n % 128)]
/-- The form of a number. -/
def putN (n : Nat) : List UInt8 := hi 10 (n / 128) ++ [UInt8.ofNat (n % 128)]

theorem hi_zero (k : Nat) : hi k 0 = [] := by cases k <;> simp [hi]
theorem hi_length (k n : Nat) : (hi k n).length ≤ k := by
  induction k generalizing n with
  | zero => simp [hi]
  | succ k ih =>
    unfold hi; split
    · simp
    · have := ih (n / 128); simp; omega
theorem hi_fuel (k j n : Nat) (h : n < 128 ^ k) (h' : n < 128 ^ j) : hi k n = hi j n := by
  induction k generalizing j n with
  | zero => simp at h; subst h; simp [hi_zero]
  | succ k ih =>
    cases j with
    | zero => simp at h'; subst h'; simp [hi_zero]
    | succ j =>
      unfold hi
      split
      · rfl
      · rw [ih j (n / 128) (by rw [Nat.div_lt_iff_lt_mul (by omega)]; rw [Nat.pow_succ] at h; exact h) (by rw [Nat.div_lt_iff_lt_mul (by omega)]; rw [Nat.pow_succ] at h'; exact h')]
theorem hi_step (k n : Nat) (h : n ≠ 0) (hk : n < 128 ^ k) : hi k n = hi k (n / 128) ++ [UInt8.ofNat (128 + n % 128)] := by
  cases k with
  | zero => simp at hk; omega
  | succ k =>
    rw [hi_fuel (k + 1) (k + 2) n hk (Nat.lt_of_lt_of_le hk (Nat.pow_le_pow_right (by omega) (by omega)))]
    rw [hi]
    simp [h]
theorem putN_length (n : Nat) : 1 ≤ (putN n).length ∧ (putN n).length ≤ 11 := by
  unfold putN; have := hi_length 10 (n / 128); simp; omega

/-! ### Reading -/
/-- What is read from a place on: the number, the place behind it (or of the fault), the error. -/
def getGo : List UInt8 → Nat → Bool → Nat → Nat × Nat × Nat
  | [], p, _, _ => (0, p, 11)
  | b :: r, p, f, n =>
    if f = true ∧ b.toNat = 128 then (0, p, 3)
    else if 144115188075855872 ≤ n then (0, p, 2)
    else if b.toNat < 128 then (n * 128 + b.toNat % 128, p + 1, 0)
    else getGo r (p + 1) false (n * 128 + b.toNat % 128)
def getN (s : List UInt8) (at_ : Int) : Nat × Nat × Nat :=
  if at_ < 0 ∨ at_ > s.length then (0, 0, 2) else getGo (s.drop at_.toNat) at_.toNat true 0

theorem getGo_hi (k m : Nat) (rest : List UInt8) (p : Nat) (hm : m < 128 ^ k) (h57 : m < 144115188075855872 * 128) (hm0 : m ≠ 0) :
    getGo (hi k m ++ rest) p true 0 = getGo rest (p + (hi k m).length) false m := by
  induction k generalizing m rest with
  | zero => simp at hm; omega
  | succ k ih =>
    have hs : hi (k + 1) m = hi k (m / 128) ++ [UInt8.ofNat (128 + m % 128)] := by rw [hi]; simp [hm0]
    have hb : (UInt8.ofNat (128 + m % 128)).toNat = 128 + m % 128 := by rw [UInt8.toNat_ofNat']; omega
    rw [hs, List.append_assoc]
    by_cases hz : m / 128 = 0
    · rw [hz, hi_zero]
      simp only [List.nil_append, List.singleton_append, List.length_singleton]
      rw [getGo, hb]
      rw [if_neg (by simp; omega), if_neg (by omega), if_neg (by omega)]
      congr 1; omega
    · rw [ih (m / 128) _ (by rw [Nat.div_lt_iff_lt_mul (by omega)]; rw [Nat.pow_succ] at hm; exact hm) (by omega) hz]
      simp only [List.singleton_append, List.length_append, List.length_singleton]
      rw [getGo, hb]
      rw [if_neg (by simp), if_neg (by omega), if_neg (by omega)]
      congr 1; omega

/-- A number is read back, whatever follows. -/
theorem getGo_put (n : Nat) (rest : List UInt8) (p : Nat) (hn : n < 18446744073709551616) :
    getGo (putN n ++ rest) p true 0 = (n, p + (putN n).length, 0) := by
  unfold putN
  have hb : (UInt8.ofNat (n % 128)).toNat = n % 128 := by rw [UInt8.toNat_ofNat']; omega
  by_cases hz : n / 128 = 0
  · rw [hz, hi_zero]
    simp only [List.nil_append, List.singleton_append, List.length_singleton]
    rw [getGo, hb, if_neg (by omega), if_neg (by omega), if_pos (by omega)]
    simp only [Prod.mk.injEq, and_true]; omega
  · rw [List.append_assoc, getGo_hi 10 (n / 128) _ p (by omega) (by omega) hz]
    simp only [List.singleton_append, List.length_append, List.length_singleton]
    rw [getGo, hb, if_neg (by simp), if_neg (by omega), if_pos (by omega)]
    simp only [Prod.mk.injEq, and_true]; omega

theorem getGo_only_false (l : List UInt8) (p m n q : Nat) (hm0 : m ≠ 0) (hm : m < 18446744073709551616) (h : getGo l p false m = (n, q, 0)) :
    ∃ k, q = p + k ∧ k ≤ l.length ∧ n < 18446744073709551616 ∧ hi 10 m ++ l.take k = putN n := by
  induction l generalizing p m with
  | nil => simp [getGo] at h
  | cons b r ih =>
    rw [getGo, if_neg (by simp)] at h
    by_cases h1 : 144115188075855872 ≤ m
    · rw [if_pos h1] at h; simp at h
    · rw [if_neg h1] at h
      have hbb : b.toNat < 256 := b.toNat_lt
      by_cases h2 : b.toNat < 128
      · rw [if_pos h2] at h
        simp only [Prod.mk.injEq, and_true] at h
        obtain ⟨rfl, rfl⟩ := h
        refine ⟨1, rfl, by simp, by omega, ?_⟩
        unfold putN
        have e1 : (m * 128 + b.toNat % 128) / 128 = m := by omega
        have e2 : (m * 128 + b.toNat % 128) % 128 = b.toNat := by omega
        rw [e1, e2]; simp
      · rw [if_neg h2] at h
        obtain ⟨k, hq, hk, hn, he⟩ := ih (p + 1) _ (by omega) (by omega) h
        refine ⟨k + 1, by omega, by simp; omega, hn, ?_⟩
        rw [← he, hi_step 10 (m * 128 + b.toNat % 128) (by omega) (by omega)]
        have e1 : (m * 128 + b.toNat % 128) / 128 = m := by omega
        have e2 : 128 + (m * 128 + b.toNat % 128) % 128 = b.toNat := by omega
        rw [e1, e2]; simp

/-- Whatever is read has the form that Put writes. -/
theorem getGo_only (l : List UInt8) (p n q : Nat) (h : getGo l p true 0 = (n, q, 0)) :
    ∃ k, q = p + k ∧ k ≤ l.length ∧ n < 18446744073709551616 ∧ l.take k = putN n := by
  cases l with
  | nil => simp [getGo] at h
  | cons b r =>
    have hbb : b.toNat < 256 := b.toNat_lt
    rw [getGo] at h
    by_cases h0 : b.toNat = 128
    · rw [if_pos ⟨rfl, h0⟩] at h; simp at h
    · rw [if_neg (by simp [h0]), if_neg (by omega)] at h
      by_cases h2 : b.toNat < 128
      · rw [if_pos h2] at h
        simp only [Prod.mk.injEq, and_true] at h
        obtain ⟨rfl, rfl⟩ := h
        refine ⟨1, rfl, by simp, by omega, ?_⟩
        unfold putN
        have e1 : (0 * 128 + b.toNat % 128) / 128 = 0 := by omega
        have e2 : (0 * 128 + b.toNat % 128) % 128 = b.toNat := by omega
        rw [e1, e2, hi_zero]; simp
      · rw [if_neg h2] at h
        obtain ⟨k, hq, hk, hn, he⟩ := getGo_only_false r (p + 1) _ n q (by omega) (by omega) h
        refine ⟨k + 1, by omega, by simp; omega, hn, ?_⟩
        rw [← he]
        have e0 : hi 10 (0 * 128 + b.toNat % 128) = [b] := by
          rw [hi_step 10 _ (by omega) (by omega)]
          have e1 : (0 * 128 + b.toNat % 128) / 128 = 0 := by omega
          have e2 : 128 + (0 * 128 + b.toNat % 128) % 128 = b.toNat := by omega
          rw [e1, e2, hi_zero]; simp
        rw [e0]; rfl

/-- What is read is a number of 64 bits at a place within the text; with an error the number is 0. -/
theorem getGo_bound (l : List UInt8) (p : Nat) (f : Bool) (m : Nat) (hm : m < 18446744073709551616) :
    (getGo l p f m).1 < 18446744073709551616 ∧ p ≤ (getGo l p f m).2.1 ∧ (getGo l p f m).2.1 ≤ p + l.length ∧ ((getGo l p f m).2.2 = 0 ∨ ((getGo l p f m).1 = 0 ∧ ((getGo l p f m).2.2 = 2 ∨ (getGo l p f m).2.2 = 3 ∨ (getGo l p f m).2.2 = 11))) := by
  induction l generalizing p f m with
  | nil => simp [getGo]
  | cons b r ih =>
    have hbb : b.toNat < 256 := b.toNat_lt
    rw [getGo]
    split
    · simp
    · split
      · simp
      · split
        · simp; omega
        · have := ih (p + 1) false (m * 128 + b.toNat % 128) (by omega)
          simp only [List.length_cons]
          refine ⟨this.1, ?_, ?_, this.2.2.2⟩ <;> omega

/-! ### Order -/
theorem bytesLess_append_same (x y : List UInt8) (c d : UInt8) (h : x.length = y.length) :
    Op.bytesLess (x ++ [c]) (y ++ [d]) = (Op.bytesLess x y || (decide (x = y) && decide (c.toNat < d.toNat))) := by
  induction x generalizing y with
  | nil => cases y with
    | nil => simp [Op.bytesLess, UInt8.lt_iff_toNat_lt]
    | cons b y => simp at h
  | cons a x ih => cases y with
    | nil => simp at h
    | cons b y =>
      simp only [List.cons_append, Op.bytesLess]
      rw [ih y (by simpa using h)]
      by_cases e1 : a < b
      · simp [e1]
      · by_cases e2 : a = b
        · subst e2; simp
        · have : (a == b) = false := by simp [e2]
          have hd : decide (a :: x = b :: y) = false := by simp [e2]
          rw [hd, this]; simp

theorem hi_len_mono (k m n : Nat) (h : m ≤ n) : (hi k m).length ≤ (hi k n).length := by
  induction k generalizing m n with
  | zero => simp [hi]
  | succ k ih =>
    unfold hi
    by_cases hm : m = 0
    · simp [hm]
    · rw [if_neg hm, if_neg (by omega)]
      have := ih (m / 128) (n / 128) (Nat.div_le_div_right h)
      simp; omega

theorem ofNat_toNat (n : Nat) (h : n < 256) : (UInt8.ofNat n).toNat = n := by rw [UInt8.toNat_ofNat']; omega

theorem hi_order (k m n : Nat) (hm : m < 128 ^ k) (hn : n < 128 ^ k) (hl : (hi k m).length = (hi k n).length) :
    Op.bytesLess (hi k m) (hi k n) = decide (m < n) ∧ (hi k m = hi k n ↔ m = n) := by
  induction k generalizing m n with
  | zero => simp at hm hn; subst hm; subst hn; simp [hi, Op.bytesLess]
  | succ k ih =>
    by_cases hm0 : m = 0
    · subst hm0
      have : n = 0 := by
        by_cases e : n = 0
        · exact e
        · rw [hi_zero] at hl; unfold hi at hl; rw [if_neg e] at hl; simp at hl
      subst this; simp [hi_zero, Op.bytesLess]
    · have hn0 : n ≠ 0 := by
        intro e; subst e; rw [hi_zero] at hl; unfold hi at hl; rw [if_neg hm0] at hl; simp at hl
      have e1 : hi (k + 1) m = hi k (m / 128) ++ [UInt8.ofNat (128 + m % 128)] := by rw [hi]; simp [hm0]
      have e2 : hi (k + 1) n = hi k (n / 128) ++ [UInt8.ofNat (128 + n % 128)] := by rw [hi]; simp [hn0]
      rw [e1, e2] at hl ⊢
      have hl' : (hi k (m / 128)).length = (hi k (n / 128)).length := by simpa using hl
      obtain ⟨i1, i2⟩ := ih (m / 128) (n / 128) (by rw [Nat.div_lt_iff_lt_mul (by omega)]; rw [Nat.pow_succ] at hm; exact hm) (by rw [Nat.div_lt_iff_lt_mul (by omega)]; rw [Nat.pow_succ] at hn; exact hn) hl'
      constructor
      · rw [bytesLess_append_same _ _ _ _ hl', i1, ofNat_toNat _ (by omega), ofNat_toNat _ (by omega)]
        rw [Bool.eq_iff_iff]; simp [i2]; omega
      · constructor
        · intro h
          obtain ⟨h1, h2⟩ := List.append_inj h hl'
          have h3 := i2.1 h1
          have h4 : (UInt8.ofNat (128 + m % 128)).toNat = (UInt8.ofNat (128 + n % 128)).toNat := by
            have := List.head_eq_of_cons_eq h2; rw [this]
          rw [ofNat_toNat _ (by omega), ofNat_toNat _ (by omega)] at h4
          omega
        · rintro rfl; rfl

theorem putN_order (m n : Nat) (hm : m < 18446744073709551616) (hn : n < 18446744073709551616) (hl : (putN m).length = (putN n).length) :
    Op.bytesLess (putN m) (putN n) = decide (m < n) := by
  unfold putN at *
  have hl' : (hi 10 (m / 128)).length = (hi 10 (n / 128)).length := by simpa using hl
  obtain ⟨i1, i2⟩ := hi_order 10 (m / 128) (n / 128) (by omega) (by omega) hl'
  rw [bytesLess_append_same _ _ _ _ hl', i1, ofNat_toNat _ (by omega), ofNat_toNat _ (by omega)]
  rw [Bool.eq_iff_iff]; simp [i2]; omega

theorem putN_len_mono (m n : Nat) (h : m ≤ n) : (putN m).length ≤ (putN n).length := by
  unfold putN; have := hi_len_mono 10 (m / 128) (n / 128) (Nat.div_le_div_right h); simp; omega

theorem putN_take_inj (m n : Nat) (hm : m < 18446744073709551616) (hn : n < 18446744073709551616) (k : Nat) (hk : k = min (putN m).length (putN n).length)
    (h : (putN m).take k = (putN n).take k) : m = n := by
  by_cases hl : (putN m).length ≤ (putN n).length
  · have e : k = (putN m).length := by omega
    rw [e, List.take_length] at h
    have g := getGo_put n [] 0 hn
    rw [List.append_nil, ← List.take_append_drop (putN m).length (putN n), ← h, getGo_put m _ 0 hm] at g
    exact congrArg Prod.fst g
  · have e : k = (putN n).length := by omega
    rw [e, List.take_length] at h
    have g := getGo_put m [] 0 hm
    rw [List.append_nil, ← List.take_append_drop (putN n).length (putN m), h, getGo_put n _ 0 hn] at g
    exact (congrArg Prod.fst g).symm
end Go.Proofs.YtiphddlakbbfiaaDoor
