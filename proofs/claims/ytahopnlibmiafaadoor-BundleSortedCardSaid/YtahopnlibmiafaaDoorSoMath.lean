/- Insertion from the right: the plain law of sorting. -/
import Derived.RowKit
namespace Go.Proofs.YtahopnlibmiafaaDoor
set_option linter.unusedVariables false
variable {α : Type}

/-- x goes left past all that it is less than. -/
def insRev (lt : α → α → Bool) (x : α) : List α → List α
  | [] => [x]
  | y :: r => if lt x y then y :: insRev lt x r else x :: y :: r
def insR (lt : α → α → Bool) (x : α) (l : List α) : List α := (insRev lt x l.reverse).reverse
/-- What sorting by insertion makes of l. -/
def isort (lt : α → α → Bool) (l : List α) : List α := l.foldl (fun s x => insR lt x s) []

theorem insRev_mid (lt : α → α → Bool) (x : α) : ∀ (a b : List α), (∀ y ∈ a, lt x y = true) → (∀ y, b.head? = some y → lt x y = false) → insRev lt x (a ++ b) = a ++ x :: b
  | [], [], _, _ => rfl
  | [], y :: r, _, h => by simp [insRev, h y rfl]
  | y :: a, b, h, h2 => by
    simp only [List.cons_append, insRev]
    rw [if_pos (h y (by simp)), insRev_mid lt x a b (fun z hz => h z (by simp [hz])) h2]
theorem insR_mid (lt : α → α → Bool) (x : α) (a b : List α) (h : ∀ y ∈ b, lt x y = true) (h2 : ∀ y, a.getLast? = some y → lt x y = false) : insR lt x (a ++ b) = a ++ x :: b := by
  unfold insR
  rw [List.reverse_append, insRev_mid lt x b.reverse a.reverse (by simpa using h) (by simpa [List.head?_reverse] using h2)]
  simp
theorem insRev_length (lt : α → α → Bool) (x : α) : ∀ l : List α, (insRev lt x l).length = l.length + 1
  | [] => rfl
  | y :: r => by
    simp only [insRev]
    split
    · simp [insRev_length lt x r]
    · simp
theorem insR_length (lt : α → α → Bool) (x : α) (l : List α) : (insR lt x l).length = l.length + 1 := by simp [insR, insRev_length]
theorem insRev_perm (lt : α → α → Bool) (x : α) : ∀ l : List α, (insRev lt x l).Perm (x :: l)
  | [] => List.Perm.refl _
  | y :: r => by
    simp only [insRev]
    split
    · exact ((insRev_perm lt x r).cons y).trans (List.Perm.swap x y r)
    · exact List.Perm.refl _
theorem insR_perm (lt : α → α → Bool) (x : α) (l : List α) : (insR lt x l).Perm (x :: l) :=
  (List.reverse_perm _).trans ((insRev_perm lt x _).trans ((List.reverse_perm l).cons x))
theorem isort_snoc (lt : α → α → Bool) (l : List α) (x : α) : isort lt (l ++ [x]) = insR lt x (isort lt l) := by simp [isort]
theorem isort_perm (lt : α → α → Bool) (l : List α) : (isort lt l).Perm l := by
  suffices h : ∀ (l s : List α), (l.foldl (fun s x => insR lt x s) s).Perm (s ++ l) by simpa [isort] using h l []
  intro l
  induction l with
  | nil => intro s; simp
  | cons x l ih =>
    intro s
    refine (ih _).trans ?_
    refine ((insR_perm lt x s).append_right l).trans ?_
    exact List.perm_middle.symm
theorem isort_length (lt : α → α → Bool) (l : List α) : (isort lt l).length = l.length := (isort_perm lt l).length_eq
/-- Sorted: no one stands before one that is less. -/
def Srt (lt : α → α → Bool) (l : List α) : Prop := l.Pairwise (fun a b => lt b a = false)
theorem insRev_srt (lt : α → α → Bool) (asym : ∀ a b, lt a b = true → lt b a = false) (tr : ∀ a b c, lt a b = false → lt b c = false → lt a c = false) (x : α) :
    ∀ l : List α, l.Pairwise (fun a b => lt a b = false) → (insRev lt x l).Pairwise (fun a b => lt a b = false)
  | [], _ => by simp [insRev]
  | y :: r, h => by
    simp only [insRev]
    obtain ⟨h1, h2⟩ := List.pairwise_cons.1 h
    split
    · rename_i hx
      refine List.pairwise_cons.2 ⟨fun z hz => ?_, insRev_srt lt asym tr x r h2⟩
      rcases List.mem_cons.1 ((insRev_perm lt x r).mem_iff.1 hz) with rfl | hz
      · exact asym _ _ hx
      · exact h1 z hz
    · rename_i hx
      have hx' : lt x y = false := by simpa using hx
      refine List.pairwise_cons.2 ⟨fun z hz => ?_, h⟩
      rcases List.mem_cons.1 hz with rfl | hz
      · exact hx'
      · exact tr _ _ _ hx' (h1 z hz)
theorem insR_srt (lt : α → α → Bool) (asym : ∀ a b, lt a b = true → lt b a = false) (tr : ∀ a b c, lt a b = false → lt b c = false → lt a c = false) (x : α) (l : List α) (h : Srt lt l) : Srt lt (insR lt x l) := by
  unfold Srt insR at *
  rw [List.pairwise_reverse]
  exact insRev_srt lt asym tr x l.reverse (List.pairwise_reverse.2 h)
theorem isort_srt (lt : α → α → Bool) (asym : ∀ a b, lt a b = true → lt b a = false) (tr : ∀ a b c, lt a b = false → lt b c = false → lt a c = false) (l : List α) : Srt lt (isort lt l) := by
  suffices h : ∀ (l s : List α), Srt lt s → Srt lt (l.foldl (fun s x => insR lt x s) s) from h l [] List.Pairwise.nil
  intro l
  induction l with
  | nil => intro s h; exact h
  | cons x l ih => intro s h; exact ih _ (insR_srt lt asym tr x s h)
/-- What is sorted stays as it is. -/
theorem isort_self (lt : α → α → Bool) (l : List α) (h : Srt lt l) : isort lt l = l := by
  suffices H : ∀ (r s : List α), Srt lt (s ++ r) → r.foldl (fun s x => insR lt x s) s = s ++ r by simpa [isort] using H l [] h
  intro r
  induction r with
  | nil => intro s _; simp
  | cons x r ih =>
    intro s hs
    have e : insR lt x s = s ++ [x] := by
      have := insR_mid lt x s [] (by simp) (fun y hy => ?_)
      · simpa using this
      · have hy' : y ∈ s := List.mem_of_getLast? hy
        exact (List.pairwise_append.1 hs).2.2 y hy' x (by simp)
    show r.foldl _ (insR lt x s) = _
    rw [e, ih (s ++ [x]) (by simpa using hs)]
    simp
/-! ### Two neighbours change places -/
theorem nb_form (A S1 S2 D : List α) (x y : α) : A ++ ((S1 ++ [y]) ++ x :: S2) ++ D = (A ++ S1) ++ (y :: x :: (S2 ++ D)) := by simp
theorem nb_x (A S1 S2 D : List α) (x y : α) : (A ++ ((S1 ++ [y]) ++ x :: S2) ++ D)[A.length + S1.length + 1]? = some x := by
  rw [nb_form, List.getElem?_append_right (by simp)]
  rw [show A.length + S1.length + 1 - (A ++ S1).length = 1 by simp]
  rfl
theorem nb_y (A S1 S2 D : List α) (x y : α) : (A ++ ((S1 ++ [y]) ++ x :: S2) ++ D)[A.length + S1.length]? = some y := by
  rw [nb_form, List.getElem?_append_right (by simp)]
  rw [show A.length + S1.length - (A ++ S1).length = 0 by simp]
  rfl
theorem nb_swap (A S1 S2 D : List α) (x y : α) : ((A ++ ((S1 ++ [y]) ++ x :: S2) ++ D).set (A.length + S1.length + 1) y).set (A.length + S1.length) x = A ++ (S1 ++ x :: (y :: S2)) ++ D := by
  rw [nb_form, List.set_append_right _ _ (by simp), List.set_append_right _ _ (by simp)]
  rw [show A.length + S1.length + 1 - (A ++ S1).length = 1 by simp, show A.length + S1.length - (A ++ S1).length = 0 by simp]
  simp
end Go.Proofs.YtahopnlibmiafaaDoor
