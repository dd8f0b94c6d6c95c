/- Parts of a proof, printed by a program of mine out of my texts: SoRotI, SoSymI. -/
import Derived.Test.YtahopnlibmiafaaDoorMI
import Derived.Test.YtahopnlibmiafaaDoorMU
set_option linter.unusedSimpArgs false
set_option linter.unusedVariables false
namespace Go.Proofs.YtahopnlibmiafaaDoor
open Go.RowKit
theorem sw_x {α : Type} (U V R : List α) (x z : α) : (U ++ x :: V ++ z :: R)[U.length]? = some x := by simp
theorem sw_z {α : Type} (U V R : List α) (x z : α) : (U ++ x :: V ++ z :: R)[U.length + 1 + V.length]? = some z := by
  rw [List.getElem?_append_right (by simp; omega)]
  simp [Nat.add_comm, Nat.add_left_comm]
theorem sw_set {α : Type} (U V R : List α) (x z : α) : ((U ++ x :: V ++ z :: R).set U.length z).set (U.length + 1 + V.length) x = U ++ z :: V ++ x :: R := by
  rw [List.append_assoc, List.set_append_right _ _ (Nat.le_refl _), Nat.sub_self, List.cons_append, List.set_cons_zero, List.set_append_right _ _ (by omega), show U.length + 1 + V.length - U.length = V.length + 1 by omega, List.set_cons_succ, List.set_append_right _ _ (Nat.le_refl _), Nat.sub_self, List.set_cons_zero]
  simp
theorem igrown_trans {w u v : World} {g : Nat} (h : w.grownBy u (some g)) (h2 : u.grownBy v (some g)) : w.grownBy v (some g) :=
  ⟨h2.os.trans h.os, h2.tape.trans h.tape, h2.output.trans h.output, Nat.le_trans h.size h2.size, fun k hk hn => (h2.block k (Nat.lt_of_lt_of_le hk h.size) hn).trans (h.block k hk hn)⟩
end Go.Proofs.YtahopnlibmiafaaDoor
namespace Go.Proofs.YtahopnlibmiafaaDoor
open Go.RowKit
theorem srt_at {α : Type} {lt : α → α → Bool} (asym : ∀ a b, lt a b = true → lt b a = false) {l : List α} (h : Srt lt l) {i j : Nat} (hi : i ≤ j) (hj : j < l.length) : lt l[j] (l[i]'(by omega)) = false := by
  rcases Nat.lt_or_eq_of_le hi with h1 | rfl
  · exact List.pairwise_iff_getElem.1 h i j (by omega) hj h1
  · cases e : lt l[i] l[i] with
    | false => rfl
    | true => have := asym _ _ e; rw [e] at this; exact this
theorem mrg_cut {α : Type} {lt : α → α → Bool} (asym : ∀ a b, lt a b = true → lt b a = false) (nn : ∀ a b c, lt a b = false → lt b c = false → lt a c = false) {A B : List α} (hA : Srt lt A) (hB : Srt lt B) {k l : Nat} (hk : k ≤ A.length) (hl : l ≤ B.length)
    (h1 : ∀ (a : k < A.length) (b : 0 < l), lt (B[l - 1]'(by omega)) A[k] = true) (h2 : ∀ (a : 0 < k) (b : l < B.length), lt B[l] (A[k - 1]'(by omega)) = false) :
    mrg lt A B = mrg lt (A.take k) (B.take l) ++ mrg lt (A.drop k) (B.drop l) := by
  have h := mrg_split lt (A.drop k) (B.drop l) (A.take k) (B.take l) ?_ ?_
  · rwa [List.take_append_drop, List.take_append_drop] at h
  · intro y hy x hx
    obtain ⟨i, hi, rfl⟩ := List.mem_take_iff_getElem.1 hy
    obtain ⟨j, hj, rfl⟩ := List.getElem_of_mem hx
    rw [List.getElem_drop]
    have hj' : k + j < A.length := by simpa [Nat.lt_sub_iff_add_lt, Nat.add_comm] using hj
    cases e : lt (B[i]'(by omega)) (A[k + j]'hj') with
    | true => rfl
    | false =>
      have c1 := srt_at asym hB (i := i) (j := l - 1) (by omega) (by omega)
      have c2 := srt_at asym hA (i := k) (j := k + j) (by omega) hj'
      have := nn _ _ _ (nn _ _ _ c1 e) c2
      rw [h1 (by omega) (by omega)] at this
      exact this.symm
  · intro x hx y hy
    obtain ⟨i, hi, rfl⟩ := List.mem_take_iff_getElem.1 hx
    obtain ⟨j, hj, rfl⟩ := List.getElem_of_mem hy
    rw [List.getElem_drop]
    have hj' : l + j < B.length := by simpa [Nat.lt_sub_iff_add_lt, Nat.add_comm] using hj
    have c1 := srt_at asym hB (i := l) (j := l + j) (by omega) hj'
    have c2 := srt_at asym hA (i := i) (j := k - 1) (by omega) (by omega)
    exact nn _ _ _ (nn _ _ _ c1 (h2 (by omega) (by omega))) c2
end Go.Proofs.YtahopnlibmiafaaDoor
