/- Bundles: what the checks of layer 6 compute, in plain words. -/
namespace Go.Proofs.YtahopnlibmiafaaDoor
set_option linter.unusedVariables false

theorem beq0_t {x : Int} (h : (x == 0) = true) : x = 0 := by simpa using h
theorem beq0_f {x : Int} (h : (x == 0) = false) : x ≠ 0 := by simpa using h
/-- An ID is valid. -/
abbrev okI (no sq of : Int) : Prop := 1 ≤ no ∧ no ≤ 16 ∧ sq ≤ 1099511627776 ∧ 0 ≤ of ∧ of ≤ 19999
def idC (no sq of : Int) : Int := if okI no sq of then 0 else 2
/-- The numbers of a bundle are within their limits. -/
abbrev okN (de pr bo li to : Int) : Prop := 1 ≤ de ∧ de ≤ 16 ∧ 0 ≤ pr ∧ pr ≤ 2 ∧ 0 ≤ bo ∧ bo ≤ 1099511627776 ∧ 1 ≤ li ∧ li ≤ 1048576 ∧ 1 ≤ to ∧ to ≤ 20000
/-- The error of a bundle with n bytes of data. -/
def buC (no sq of de pr bo li to n : Int) : Int :=
  if ¬ okI no sq of then 2 else if ¬ okN de pr bo li to then 2 else if n = 0 then 11 else if 1000 < n then 4 else if to < of + n then 12 else 0
def leftC (no sq of de pr bo li to n now : Int) : Int × Int :=
  if buC no sq of de pr bo li to n ≠ 0 then (0, buC no sq of de pr bo li to n) else if now < 0 ∨ 1099511627776 < now then (0, 2) else (bo + li - now, 0)
/-- How many ticks are left. -/
def leftM (no sq of de pr bo li to n now : Int) : Int × Int := (max (leftC no sq of de pr bo li to n now).1 0, (leftC no sq of de pr bo li to n now).2)
/-- Whether it is expired. -/
def expM (no sq of de pr bo li to n now : Int) : Bool × Int := (decide ((leftC no sq of de pr bo li to n now).1 ≤ 0) && ((leftC no sq of de pr bo li to n now).2 == 0), (leftC no sq of de pr bo li to n now).2)

theorem idC_cases (no sq of : Int) : (idC no sq of = 0 ∧ okI no sq of) ∨ (idC no sq of = 2 ∧ ¬ okI no sq of) := by
  unfold idC
  by_cases h : okI no sq of
  · exact .inl ⟨if_pos h, h⟩
  · exact .inr ⟨if_neg h, h⟩
/-- What a check of a bundle comes to. -/
theorem buC_cases (no sq of de pr bo li to n : Int) :
    (buC no sq of de pr bo li to n = 2 ∧ ¬ okI no sq of) ∨ (buC no sq of de pr bo li to n = 2 ∧ okI no sq of ∧ ¬ okN de pr bo li to) ∨
    (buC no sq of de pr bo li to n = 11 ∧ okI no sq of ∧ okN de pr bo li to ∧ n = 0) ∨ (buC no sq of de pr bo li to n = 4 ∧ okI no sq of ∧ okN de pr bo li to ∧ n ≠ 0 ∧ 1000 < n) ∨
    (buC no sq of de pr bo li to n = 12 ∧ okI no sq of ∧ okN de pr bo li to ∧ n ≠ 0 ∧ n ≤ 1000 ∧ to < of + n) ∨ (buC no sq of de pr bo li to n = 0 ∧ okI no sq of ∧ okN de pr bo li to ∧ n ≠ 0 ∧ n ≤ 1000 ∧ of + n ≤ to) := by
  unfold buC
  by_cases h1 : okI no sq of
  · rw [if_neg (not_not_intro h1)]
    by_cases h2 : okN de pr bo li to
    · rw [if_neg (not_not_intro h2)]
      by_cases h3 : n = 0
      · exact .inr (.inr (.inl ⟨if_pos h3, h1, h2, h3⟩))
      · rw [if_neg h3]
        by_cases h4 : 1000 < n
        · exact .inr (.inr (.inr (.inl ⟨if_pos h4, h1, h2, h3, h4⟩)))
        · rw [if_neg h4]
          by_cases h5 : to < of + n
          · exact .inr (.inr (.inr (.inr (.inl ⟨if_pos h5, h1, h2, h3, by omega, h5⟩))))
          · exact .inr (.inr (.inr (.inr (.inr ⟨if_neg h5, h1, h2, h3, by omega, by omega⟩))))
    · exact .inr (.inl ⟨if_pos h2, h1, h2⟩)
  · exact .inl ⟨if_pos h1, h1⟩
theorem buC_ok {no sq of de pr bo li to n : Int} (h : buC no sq of de pr bo li to n = 0) : okI no sq of ∧ okN de pr bo li to ∧ n ≠ 0 ∧ n ≤ 1000 ∧ of + n ≤ to := by
  rcases buC_cases no sq of de pr bo li to n with h1 | h1 | h1 | h1 | h1 | h1 <;> first | (exact h1.2) | (rw [h] at h1; exact absurd h1.1 (by decide))
end Go.Proofs.YtahopnlibmiafaaDoor
