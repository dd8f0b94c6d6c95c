/- Parts of a proof, printed by a program of mine out of my texts: RpMath, RpSum, RpStp, RpFai, RpHel, RpLd, RpLat, RpTab, RpMap. -/
import Derived.Lib.LaidTab
import Derived.Lib.AppendIntMem
import Derived.OpenShut
import Derived.ChangeSame
import Derived.Test.YthfmkkkdjgkaoaaGreatDoorMA
import Derived.Test.YthfmkkkdjgkaoaaGreatDoorMU
set_option linter.unusedSimpArgs false
set_option linter.unusedVariables false
namespace Go.Proofs.YthfmkkkdjgkaoaaGreatDoor
structure Oc where
  (ti no ki ino isq iof ot : Int)
def oc (o : Oc) : List Value := [.int .i64 o.ti, .int .i64 o.no, .int .i64 o.ki, .int .i64 o.ino, .int .u64 o.isq, .int .i64 o.iof, .int .i64 o.ot]
theorem oc_len (o : Oc) : (oc o).length = 7 := rfl
theorem oc_one (o : Oc) : ∀ u ∈ oc o, u.oneCell' = true := by
  intro u hu
  simp only [oc, List.mem_cons, List.not_mem_nil, or_false] at hu
  rcases hu with rfl | rfl | rfl | rfl | rfl | rfl | rfl <;> rfl
def oid (o : Oc) : Id3 := (o.ino, o.isq, o.iof)
def useI (k : Int) : Bool := decide (1 ≤ k) && (decide (k ≤ 10) && decide (k ≠ 5))
def useO (k : Int) : Bool := decide (k = 6 ∨ k = 7 ∨ k = 10 ∨ k = 11 ∨ k = 12 ∨ k = 13)
def othB (o : Oc) : Bool := if useO o.ki && !(decide (o.ki = 12) && decide (o.ot = 0)) then decide (1 ≤ o.ot ∧ o.ot ≤ 16 ∧ o.ot ≠ o.no) else decide (o.ot = 0)
def oneC (o : Oc) : Int :=
  if o.ki < 1 ∨ 15 < o.ki then 7 else if o.ti < 0 ∨ 1099511627776 < o.ti ∨ o.no < 1 ∨ 16 < o.no ∨ othB o = false then 2 else
    if useI o.ki then idC o.ino o.isq o.iof else if oid o = (0, 0, 0) then 0 else 2
def firC (n : Nat) (f : Nat → Int) : Option (Int × Int) := ((List.range n).find? fun i => decide (f i ≠ 0)).map fun i => (f i, (i : Int))
theorem firC_at {n i : Nat} {f : Nat → Int} (hi : i < n) (h : ∀ j < i, f j = 0) (hb : f i ≠ 0) : firC n f = some (f i, (i : Int)) := by
  unfold firC
  rw [find_range_some n i _ (fun j hj => by simp [h j hj]) hi (by simpa using hb)]
  rfl
theorem firC_none {n : Nat} {f : Nat → Int} (h : ∀ j < n, f j = 0) : firC n f = none := by
  unfold firC
  rw [find_range_none n _ (fun j hj => by simp [h j hj])]
  rfl
theorem firC_some {n : Nat} {f : Nat → Int} {x : Int × Int} (h : firC n f = some x) : ∃ i, i < n ∧ x = (f i, (i : Int)) ∧ f i ≠ 0 := by
  unfold firC at h
  cases hf : (List.range n).find? (fun i => decide (f i ≠ 0)) with
  | none => rw [hf] at h; cases h
  | some i =>
    rw [hf] at h
    have h1 := List.find?_some hf
    have h2 := List.mem_of_find?_eq_some hf
    exact ⟨i, List.mem_range.1 h2, (Option.some.inj h).symm, by simpa using h1⟩
theorem firC_zero {n : Nat} {f : Nat → Int} (h : ((firC n f).getD (0, 0)).1 = 0) : ∀ j < n, f j = 0 := by
  cases hf : firC n f with
  | none =>
    intro j hj
    refine Classical.byContradiction fun hc => ?_
    unfold firC at hf
    cases hr : (List.range n).find? (fun i => decide (f i ≠ 0)) with
    | none => exact absurd (List.find?_eq_none.1 hr j (List.mem_range.2 hj)) (by simp [hc])
    | some i => rw [hr] at hf; cases hf
  | some x =>
    rw [hf] at h
    obtain ⟨i, _, rfl, hi⟩ := firC_some hf
    exact absurd h hi
def trcAt (l : List Oc) (i : Nat) : Int := (l[i]?).elim 0 fun o => if oneC o ≠ 0 then oneC o else if 0 < i ∧ (l[i - 1]?).elim false (fun p => decide (o.ti < p.ti)) = true then 19 else 0
def trcC (l : List Oc) : Int × Int := if 5000 < l.length then (5, 0) else (firC l.length (trcAt l)).getD (0, 0)
theorem trcAt_eq {l : List Oc} {i : Nat} (hi : i < l.length) : trcAt l i = if oneC l[i] ≠ 0 then oneC l[i] else if 0 < i ∧ l[i].ti < (l[i - 1]'(by omega)).ti then 19 else 0 := by
  unfold trcAt
  rw [List.getElem?_eq_getElem hi, List.getElem?_eq_getElem (show i - 1 < l.length by omega)]
  simp
def bunAt (b : List Bn) (i : Nat) : Int := (b[i]?).elim 0 fun x => if bcode x ≠ 0 then bcode x else if bid x ∈ (b.take i).map bid then 9 else 0
theorem bunAt_eq {b : List Bn} {i : Nat} (hi : i < b.length) : bunAt b i = if bcode b[i] ≠ 0 then bcode b[i] else if bid b[i] ∈ (b.take i).map bid then 9 else 0 := by
  unfold bunAt; rw [List.getElem?_eq_getElem hi]; rfl
def misAt (b : List Bn) (l : List Oc) (i : Nat) : Int := (l[i]?).elim 0 fun o => if useI o.ki = true ∧ oid o ∉ b.map bid then 8 else 0
theorem misAt_eq {b : List Bn} {l : List Oc} {i : Nat} (hi : i < l.length) : misAt b l i = if useI l[i].ki = true ∧ oid l[i] ∉ b.map bid then 8 else 0 := by
  unfold misAt; rw [List.getElem?_eq_getElem hi]; rfl
def runC (b : List Bn) (l : List Oc) : Int × Int :=
  if 1000 < b.length then (5, 0) else (firC b.length (bunAt b)).getD (if (trcC l).1 ≠ 0 then trcC l else (firC l.length (misAt b l)).getD (0, 0))
structure RunV (b : List Bn) (l : List Oc) : Prop where
  len : b.length ≤ 1000
  bun : ∀ i (h : i < b.length), bcode b[i] = 0
  ids : (b.map bid).Nodup
  tlen : l.length ≤ 5000
  one : ∀ i (h : i < l.length), oneC l[i] = 0
  ord : ∀ i (h : i < l.length), 0 < i → (l[i - 1]'(by omega)).ti ≤ l[i].ti
  mis : ∀ i (h : i < l.length), useI l[i].ki = true → oid l[i] ∈ b.map bid
theorem nodup_of_take {α : Type} [DecidableEq α] {l : List α} (h : ∀ i (hi : i < l.length), l[i] ∉ l.take i) : l.Nodup := by
  rw [List.Nodup, List.pairwise_iff_getElem]
  intro i j hi hj hij e
  exact h j hj (by rw [← e]; exact List.mem_take_iff_getElem.2 ⟨i, by omega, rfl⟩)
theorem runC_zero {b : List Bn} {l : List Oc} (h : (runC b l).1 = 0) : RunV b l := by
  unfold runC at h
  split at h
  · cases h
  · rename_i h0
    cases hb : firC b.length (bunAt b) with
    | some x =>
      rw [hb] at h
      obtain ⟨i, _, rfl, hi⟩ := firC_some hb
      exact absurd h hi
    | none =>
      rw [hb] at h
      simp only [Option.getD_none] at h
      have hb0 : ∀ j < b.length, bunAt b j = 0 := firC_zero (by rw [hb]; rfl)
      split at h
      · rename_i ht; exact absurd h ht
      · rename_i ht
        have ht : (trcC l).1 = 0 := by simpa using ht
        have hm := firC_zero h
        unfold trcC at ht
        split at ht
        · cases ht
        · rename_i ht5
          have ht0 := firC_zero ht
          refine ⟨by omega, fun i hi => ?_, nodup_of_take fun i hi => ?_, by omega, fun i hi => ?_, fun i hi h0 => ?_, fun i hi hu => ?_⟩
          · have := hb0 i hi
            rw [bunAt_eq hi] at this
            refine Classical.byContradiction fun hc => ?_
            rw [if_pos hc] at this; exact hc this
          · rw [List.length_map] at hi
            have := hb0 i hi
            rw [bunAt_eq hi] at this
            intro hin
            rw [List.getElem_map, ← List.map_take] at hin
            split at this
            · rename_i h9; exact h9 this
            · first | (exact absurd this (by decide)) | (rw [if_pos hin] at this; cases this)
          · have := ht0 i hi
            rw [trcAt_eq hi] at this
            refine Classical.byContradiction fun hc => ?_
            rw [if_pos hc] at this; exact hc this
          · have := ht0 i hi
            rw [trcAt_eq hi] at this
            split at this
            · rename_i h9; exact absurd this h9
            · refine Int.not_lt.1 fun hc => ?_
              rw [if_pos ⟨h0, hc⟩] at this; cases this
          · have := hm i hi
            rw [misAt_eq hi] at this
            refine Classical.byContradiction fun hc => ?_
            rw [if_pos ⟨hu, hc⟩] at this; cases this
def hasO (l : List Oc) (k : Int) (id : Id3) : Bool := l.any fun o => decide (o.ki = k) && decide (oid o = id)
def markO (l : List Oc) (id : Id3) : Nat → Bool
  | 0 => hasO l 1 id
  | 1 => hasO l 2 id || (hasO l 3 id || hasO l 4 id)
  | 2 => hasO l 8 id
  | 3 => hasO l 9 id
  | 4 => hasO l 1 id && (!hasO l 8 id && !hasO l 9 id)
  | 5 => !hasO l 1 id && !(hasO l 2 id || (hasO l 3 id || hasO l 4 id))
  | _ => false
def inP (prio : Int) (b : Bn) : Bool := decide (prio < 0) || decide (b.pr = prio)
def cntO (b : List Bn) (l : List Oc) (prio : Int) (p : Nat) : Int := ((b.filter fun x => inP prio x && markO l (bid x) p).length : Int)
def couO (b : List Bn) (l : List Oc) (prio : Int) : List Int := [cntO b l prio 0, cntO b l prio 1, cntO b l prio 2, cntO b l prio 3, cntO b l prio 4, cntO b l prio 5]
def latO (l : List Oc) (id : Id3) : Option Int :=
  match l.filter fun o => decide (oid o = id) && (decide (o.ki = 1) || decide (o.ki = 8)) with
  | [a, d] => if a.ki = 1 ∧ d.ki = 8 then some (d.ti - a.ti) else none
  | _ => none
def allO (b : List Bn) (l : List Oc) (prio : Int) : List Int := (b.filter (inP prio)).filterMap fun x => latO l (bid x)
def ascO (l : List Int) : List Int := isort (fun a b => decide (a < b)) l
structure Dly where
  (n su le gr me : Int)
def dlyO (all : List Int) : Dly := if all = [] then ⟨0, 0, 0, 0, 0⟩ else
  ⟨all.length, all.foldl (· + ·) 0, (ascO all).headD 0, (ascO all).getLastD 0, (ascO all).getD ((all.length - 1) / 2) 0⟩
def dv (d : Dly) : Array Value := #[.int .i64 d.n, .int .i64 d.su, .int .i64 d.le, .int .i64 d.gr, .int .i64 d.me]
def hldO (b : List Bn) (node : Int) (held : List Id3) (o : Oc) : List Id3 :=
  if o.no ≠ node then held else if o.ki = 1 ∨ o.ki = 6 then
    (if oid o ∈ held ∨ o.ki = 1 ∧ ((b.find? fun x => decide (bid x = oid o)).elim 0 (·.de)) = node then held else held ++ [oid o])
  else if o.ki = 7 ∨ o.ki = 9 then held.filter fun k => decide (k ≠ oid o) else held
def heldO (b : List Bn) (node : Int) (l : List Oc) : List Id3 := l.foldl (hldO b node) []
end Go.Proofs.YthfmkkkdjgkaoaaGreatDoor
namespace Go.Proofs.YthfmkkkdjgkaoaaGreatDoor
theorem cntO_le (b : List Bn) (l : List Oc) (prio : Int) (p : Nat) : 0 ≤ cntO b l prio p ∧ cntO b l prio p ≤ b.length := by
  unfold cntO
  have := List.length_filter_le (fun x => inP prio x && markO l (bid x) p) b
  omega
def sumI (l : List Int) : Int := l.foldl (· + ·) 0
theorem foldl_add (l : List Int) : ∀ a : Int, l.foldl (· + ·) a = a + sumI l := by
  induction l with
  | nil => intro a; simp [sumI]
  | cons x l ih => intro a; unfold sumI; simp only [List.foldl_cons]; rw [ih (a + x), ih (0 + x)]; omega
theorem sumI_cons (a : Int) (l : List Int) : sumI (a :: l) = a + sumI l := by
  unfold sumI; simp only [List.foldl_cons]; rw [foldl_add]; unfold sumI; omega
theorem sumI_nil : sumI [] = 0 := rfl
theorem lt_asym (a b : Int) (h : decide (a < b) = true) : decide (b < a) = false := by simp at h ⊢; omega
theorem lt_nn (a b c : Int) (h1 : decide (a < b) = false) (h2 : decide (b < c) = false) : decide (a < c) = false := by simp at h1 h2 ⊢; omega
theorem ascO_srt (l : List Int) : (ascO l).Pairwise (fun a b => a ≤ b) := by
  have h := isort_srt (fun a b : Int => decide (a < b)) lt_asym lt_nn l
  exact List.Pairwise.imp (fun h => by simpa using h) h
theorem ascO_len (l : List Int) : (ascO l).length = l.length := isort_length _ _
theorem ascO_mem (l : List Int) (x : Int) : x ∈ ascO l ↔ x ∈ l := (isort_perm _ _).mem_iff
theorem sum_bounds (l : List Int) (lo hi : Int) (h : ∀ x ∈ l, lo ≤ x ∧ x ≤ hi) : (l.length : Int) * lo ≤ sumI l ∧ sumI l ≤ (l.length : Int) * hi := by
  induction l with
  | nil => simp [sumI]
  | cons a l ih =>
    have ih := ih (fun x hx => h x (List.mem_cons_of_mem _ hx))
    have ha := h a (by simp)
    rw [sumI_cons, List.length_cons]
    have e1 : ((l.length + 1 : Nat) : Int) * lo = (l.length : Int) * lo + lo := by rw [Int.natCast_succ, Int.add_mul, Int.one_mul]
    have e2 : ((l.length + 1 : Nat) : Int) * hi = (l.length : Int) * hi + hi := by rw [Int.natCast_succ, Int.add_mul, Int.one_mul]
    rw [e1, e2]; omega
theorem headD_at (l : List Int) (h : 0 < l.length) : l.headD 0 = l[0] := by
  cases l with
  | nil => cases h
  | cons a r => rfl
theorem dlyO_form {all : List Int} (h : all ≠ []) : ∃ (h0 : 0 < (ascO all).length), dlyO all = ⟨all.length, sumI all, (ascO all)[0], (ascO all)[(ascO all).length - 1], (ascO all)[((ascO all).length - 1) / 2]'(by omega)⟩ := by
  have hl := ascO_len all
  have h0 : 0 < (ascO all).length := by rw [hl]; exact List.length_pos_iff.2 h
  refine ⟨h0, ?_⟩
  unfold dlyO
  rw [if_neg h]
  congr 1
  · exact headD_at _ h0
  · rw [List.getLastD_eq_getLast?, List.getLast?_eq_getElem?, List.getElem?_eq_getElem (by omega)]; rfl
  · rw [List.getD_eq_getElem?_getD, ← hl, List.getElem?_eq_getElem (by omega)]; rfl
end Go.Proofs.YthfmkkkdjgkaoaaGreatDoor
namespace Go.Proofs.YthfmkkkdjgkaoaaGreatDoor
def szO (b : List Bn) (sz : Bn → Int) (k : Id3) : Int := (b.find? fun x => decide (bid x = k)).elim 0 sz
def ldO (b : List Bn) (sz : Bn → Int) (held : List Id3) : Int := sumI (held.map (szO b sz))
def stpS (b : List Bn) (sz : Bn → Int) (node : Int) (l : List Oc) : Nat → List Id3 × Int × List (Int × Int)
  | 0 => ([], 0, [])
  | i + 1 => match l[i]? with
    | none => stpS b sz node l i
    | some o =>
      let h := hldO b node (stpS b sz node l i).1 o
      if (l[i + 1]?).elim true (fun p => decide (p.ti ≠ o.ti)) = true ∧ ldO b sz h ≠ (stpS b sz node l i).2.1 then (h, ldO b sz h, (stpS b sz node l i).2.2 ++ [(o.ti, ldO b sz h)]) else (h, (stpS b sz node l i).2.1, (stpS b sz node l i).2.2)
def stepsO (b : List Bn) (sz : Bn → Int) (node : Int) (l : List Oc) : List (Int × Int) := (stpS b sz node l l.length).2.2
theorem stpS_succ {b : List Bn} {sz : Bn → Int} {node : Int} {l : List Oc} {i : Nat} (hi : i < l.length) : stpS b sz node l (i + 1) =
    if (l[i + 1]?).elim true (fun p => decide (p.ti ≠ l[i].ti)) = true ∧ ldO b sz (hldO b node (stpS b sz node l i).1 l[i]) ≠ (stpS b sz node l i).2.1 then
      (hldO b node (stpS b sz node l i).1 l[i], ldO b sz (hldO b node (stpS b sz node l i).1 l[i]), (stpS b sz node l i).2.2 ++ [(l[i].ti, ldO b sz (hldO b node (stpS b sz node l i).1 l[i]))]) else
      (hldO b node (stpS b sz node l i).1 l[i], (stpS b sz node l i).2.1, (stpS b sz node l i).2.2) := by
  show (match l[i]? with | none => _ | some o => _) = _
  rw [List.getElem?_eq_getElem hi]
theorem stpS_held (b : List Bn) (sz : Bn → Int) (node : Int) (l : List Oc) : ∀ i, i ≤ l.length → (stpS b sz node l i).1 = heldO b node (l.take i)
  | 0, _ => rfl
  | i + 1, h => by
    have ih := stpS_held b sz node l i (by omega)
    have e : (stpS b sz node l (i + 1)).1 = hldO b node (stpS b sz node l i).1 l[i] := by rw [stpS_succ (by omega)]; split <;> rfl
    rw [e, ih, List.take_succ_eq_append_getElem (by omega)]
    unfold heldO
    rw [List.foldl_append]; rfl
def lastB (s : List (Int × Int)) : Int := (s.getLast?).elim 0 (·.2)
structure StpW (s : List (Int × Int)) (t last : Int) : Prop where
  asc : s.Pairwise (fun x y => x.1 < y.1)
  le : ∀ x ∈ s, x.1 ≤ t
  ne : ∀ i (h : i + 1 < s.length), s[i + 1].2 ≠ s[i].2
  first : ∀ h : 0 < s.length, s[0].2 ≠ 0
  last : lastB s = last
theorem StpW.snoc {s : List (Int × Int)} {t last t2 ld : Int} (h : StpW s t last) (ht : ∀ x ∈ s, x.1 < t2) (hl : ld ≠ last) : StpW (s ++ [(t2, ld)]) t2 ld := by
  refine ⟨List.pairwise_append.2 ⟨h.asc, by simp, fun x hx y hy => by simp only [List.mem_singleton] at hy; subst hy; exact ht x hx⟩, fun x hx => ?_, fun i hi => ?_, fun h0 => ?_, by unfold lastB; simp⟩
  · rcases List.mem_append.1 hx with h1 | h1
    · exact Int.le_of_lt (ht x h1)
    · simp only [List.mem_singleton] at h1; subst h1; exact Int.le_refl _
  · simp only [List.length_append, List.length_cons, List.length_nil] at hi
    by_cases e : i + 1 < s.length
    · rw [List.getElem_append_left e, List.getElem_append_left (by omega)]; exact h.ne i e
    · have e1 : i + 1 = s.length := by omega
      rw [List.getElem_append_right (by omega), List.getElem_append_left (by omega)]
      simp only [e1, Nat.sub_self, List.getElem_cons_zero]
      have h9 := h.last
      unfold lastB at h9
      rw [List.getLast?_eq_getElem?, List.getElem?_eq_getElem (by omega)] at h9
      have e3 : s.length - 1 = i := by omega
      simp only [e3, Option.elim_some] at h9
      rw [h9]; exact hl
  · by_cases e : 0 < s.length
    · rw [List.getElem_append_left e]; exact h.first e
    · have e1 : s = [] := List.length_eq_zero_iff.1 (by omega)
      subst e1
      have h9 := h.last
      simp only [lastB, List.getLast?_nil, Option.elim_none] at h9
      simpa [← h9] using hl
theorem stpS_ok {b : List Bn} {sz : Bn → Int} {node : Int} {l : List Oc} (ho : ∀ i (h : i < l.length), 0 < i → (l[i - 1]'(by omega)).ti ≤ l[i].ti) (h0 : ∀ i (h : i < l.length), 0 ≤ l[i].ti) : ∀ i, i ≤ l.length →
    StpW (stpS b sz node l i).2.2 (if h : 0 < i ∧ i - 1 < l.length then (l[i - 1]'h.2).ti else 0) (stpS b sz node l i).2.1 ∧
    ((∀ (h : i < l.length), 0 < i → (l[i - 1]'(by omega)).ti = l[i].ti → ∀ x ∈ (stpS b sz node l i).2.2, x.1 < l[i].ti) ∧ ((∀ (h : i < l.length), 0 < i → (l[i - 1]'(by omega)).ti ≠ l[i].ti) → 0 < i → (stpS b sz node l i).2.1 = ldO b sz (stpS b sz node l i).1))
  | 0, _ => ⟨⟨List.Pairwise.nil, by simp [stpS], fun i h => by simp [stpS] at h, fun h => by simp [stpS] at h, rfl⟩, fun _ h => absurd h (by omega), fun _ h => absurd h (by omega)⟩
  | i + 1, hi => by
    obtain ⟨w, w2, _⟩ := stpS_ok (b := b) (sz := sz) (node := node) ho h0 i (by omega)
    have hil : i < l.length := by omega
    have hlt : ∀ x ∈ (stpS b sz node l i).2.2, x.1 ≤ l[i].ti := fun x hx => by
      have h1 := w.le x hx
      split at h1
      · rename_i h2
        have := ho i hil h2.1
        omega
      · have := h0 i hil; omega
    have hlt2 : ∀ x ∈ (stpS b sz node l i).2.2, x.1 < l[i].ti ∨ (0 < i ∧ (l[i - 1]'(by omega)).ti ≠ l[i].ti ∧ x.1 < l[i].ti) ∨ (i = 0) := fun x hx => by
      by_cases hi0 : i = 0
      · exact .inr (.inr hi0)
      · by_cases e : (l[i - 1]'(by omega)).ti = l[i].ti
        · exact .inl (w2 hil (by omega) e x hx)
        · have h1 := w.le x hx
          rw [dif_pos ⟨by omega, by omega⟩] at h1
          have := ho i hil (by omega)
          exact .inl (by omega)
    have hlt3 : ∀ x ∈ (stpS b sz node l i).2.2, x.1 < l[i].ti := fun x hx => by
      rcases hlt2 x hx with h | ⟨_, _, h⟩ | h
      · exact h
      · exact h
      · subst h; simp [stpS] at hx
    have hnext : ∀ h : i + 1 < l.length, l[i + 1]? = some l[i + 1] := fun h => List.getElem?_eq_getElem h
    have et : (if h : 0 < i + 1 ∧ i + 1 - 1 < l.length then (l[i + 1 - 1]'h.2).ti else 0) = l[i].ti := by
      rw [dif_pos ⟨Nat.succ_pos _, by simpa using hil⟩]; rfl
    rw [et, stpS_succ hil]
    split
    · rename_i hc
      refine ⟨w.snoc hlt3 hc.2, fun h _ e => ?_, fun _ _ => rfl⟩
      have hc1 := hc.1
      rw [hnext h] at hc1
      simp only [Option.elim_some, decide_eq_true_eq] at hc1
      exact absurd e.symm hc1
    · rename_i hc
      refine ⟨⟨w.asc, hlt, w.ne, w.first, w.last⟩, fun h _ e x hx => ?_, fun hd _ => ?_⟩
      · have := hlt3 x hx
        have e' : l[i].ti = l[i + 1].ti := e
        show x.1 < l[i + 1].ti
        omega
      · have he : (l[i + 1]?).elim true (fun p => decide (p.ti ≠ l[i].ti)) = true := by
          by_cases h : i + 1 < l.length
          · rw [hnext h]; simp only [Option.elim_some, decide_eq_true_eq]; exact fun e => hd h (Nat.succ_pos _) e.symm
          · rw [List.getElem?_eq_none (by omega)]; rfl
        refine Classical.byContradiction fun hn => hc ⟨he, fun e => hn e.symm⟩
theorem stepsO_last {b : List Bn} {sz : Bn → Int} {node : Int} {l : List Oc} (ho : ∀ i (h : i < l.length), 0 < i → (l[i - 1]'(by omega)).ti ≤ l[i].ti) (h0 : ∀ i (h : i < l.length), 0 ≤ l[i].ti) : lastB (stepsO b sz node l) = ldO b sz (heldO b node l) := by
  obtain ⟨w, _, w2⟩ := stpS_ok (b := b) (sz := sz) (node := node) ho h0 l.length (Nat.le_refl _)
  unfold stepsO
  rw [w.last]
  rcases Nat.eq_zero_or_pos l.length with e | e
  · obtain rfl := List.length_eq_zero_iff.1 e; rfl
  · rw [w2 (fun h => absurd h (by omega)) e, stpS_held b sz node l _ (Nat.le_refl _), List.take_length]
def pkO (s : List (Int × Int)) : Int × Int := s.foldl (fun m x => if m.2 < x.2 then x else m) (0, 0)
theorem pk_fold (s : List (Int × Int)) : ∀ m : Int × Int, m.2 ≤ (s.foldl (fun m x => if m.2 < x.2 then x else m) m).2 ∧ ∀ x ∈ s, x.2 ≤ (s.foldl (fun m x => if m.2 < x.2 then x else m) m).2 := by
  induction s with
  | nil => intro m; exact ⟨Int.le_refl _, fun x hx => by cases hx⟩
  | cons a s ih =>
    intro m
    simp only [List.foldl_cons]
    obtain ⟨h1, h2⟩ := ih (if m.2 < a.2 then a else m)
    have h3 : m.2 ≤ (if m.2 < a.2 then a else m).2 ∧ a.2 ≤ (if m.2 < a.2 then a else m).2 := by split <;> constructor <;> omega
    exact ⟨by omega, fun x hx => by rcases List.mem_cons.1 hx with rfl | hx; omega; exact h2 x hx⟩
theorem pkO_ge (s : List (Int × Int)) : ∀ x ∈ s, x.2 ≤ (pkO s).2 := (pk_fold s (0, 0)).2
end Go.Proofs.YthfmkkkdjgkaoaaGreatDoor
namespace Go.Proofs.YthfmkkkdjgkaoaaGreatDoor
def svcO (b : List Bn) (l : List Oc) (node : Int) : Int := sumI ((b.filter fun x => decide (x.no = node) && hasO l 8 (bid x)).map fun x => (x.da.size : Int))
def madO (b : List Bn) (l : List Oc) (node : Int) : Bool := b.any fun x => decide (x.no = node) && hasO l 1 (bid x)
def nodO (b : List Bn) (l : List Oc) : List Int := ((List.range 16).map fun (i : Nat) => (i : Int) + 1).filter (madO b l)
def sumO (b : List Bn) (l : List Oc) : Int := sumI ((nodO b l).map (svcO b l))
def sqsO (b : List Bn) (l : List Oc) : Int := sumI ((nodO b l).map fun n => svcO b l n * svcO b l n)
def faiO (b : List Bn) (l : List Oc) : Int × Int :=
  if sumO b l = 0 then (1, 1) else
    let x := sumO b l * sumO b l
    let y := ((nodO b l).length : Int) * sqsO b l
    (x / (Int.gcd x y : Int), y / (Int.gcd x y : Int))
theorem sumI_nn (l : List Int) (h : ∀ x ∈ l, 0 ≤ x) : 0 ≤ sumI l := by
  induction l with
  | nil => simp [sumI]
  | cons a l ih =>
    rw [sumI_cons]
    have := h a (by simp)
    have := ih (fun x hx => h x (List.mem_cons_of_mem _ hx))
    omega
theorem svcO_nn (b : List Bn) (l : List Oc) (n : Int) : 0 ≤ svcO b l n := sumI_nn _ (fun x hx => by
  obtain ⟨y, _, rfl⟩ := List.mem_map.1 hx; omega)
theorem nodO_len (b : List Bn) (l : List Oc) : (nodO b l).length ≤ 16 := by
  unfold nodO
  exact Nat.le_trans (List.length_filter_le _ _) (by simp)
end Go.Proofs.YthfmkkkdjgkaoaaGreatDoor
namespace Go.Proofs.YthfmkkkdjgkaoaaGreatDoor
def heB (de node : Int) (h : Bool) (o : Oc) : Bool := if o.no ≠ node then h else if o.ki = 6 ∨ o.ki = 1 ∧ de ≠ node then true else if o.ki = 7 ∨ o.ki = 9 then false else h
def heldB (de node : Int) (l : List Oc) : Bool := l.foldl (heB de node) false
def ofO (l : List Oc) (k : Id3) : List Oc := l.filter fun o => decide (oid o = k)
theorem mem_hldO {b : List Bn} {node : Int} {h : List Id3} {o : Oc} {k : Id3} : k ∈ hldO b node h o ↔ if oid o = k then heB ((b.find? fun x => decide (bid x = k)).elim 0 (·.de)) node (decide (k ∈ h)) o = true else k ∈ h := by
  unfold hldO heB
  by_cases e : oid o = k
  · subst e
    rw [if_pos rfl]
    obtain ⟨d, hd⟩ : ∃ d, (b.find? fun x => decide (bid x = oid o)).elim 0 (·.de) = d := ⟨_, rfl⟩
    rw [hd]
    clear hd
    by_cases h1 : o.no = node
    · have n1 : ¬ (o.no ≠ node) := by simpa using h1
      rw [if_neg n1, if_neg n1]
      by_cases h2 : o.ki = 1 ∨ o.ki = 6
      · rw [if_pos h2]
        by_cases h3 : oid o ∈ h
        · rw [if_pos (.inl h3)]
          by_cases h4 : o.ki = 6 ∨ o.ki = 1 ∧ d ≠ node
          · rw [if_pos h4]; simp [h3]
          · have n3 : ¬ (o.ki = 7 ∨ o.ki = 9) := by omega
            rw [if_neg h4, if_neg n3]; simp [h3]
        · by_cases h4 : o.ki = 1 ∧ d = node
          · have n2 : ¬ (o.ki = 6 ∨ o.ki = 1 ∧ d ≠ node) := by omega
            have n3 : ¬ (o.ki = 7 ∨ o.ki = 9) := by omega
            rw [if_pos (.inr h4), if_neg n2, if_neg n3]; simp
          · rw [if_neg (by rintro (h5 | h5); exact h3 h5; exact h4 h5)]
            rw [if_pos (by
              rcases h2 with h5 | h5
              · exact .inr ⟨h5, fun h6 => h4 ⟨h5, h6⟩⟩
              · exact .inl h5)]
            simp
      · have n2 : ¬ (o.ki = 6 ∨ o.ki = 1 ∧ d ≠ node) := by omega
        rw [if_neg h2, if_neg n2]
        by_cases h3 : o.ki = 7 ∨ o.ki = 9
        · rw [if_pos h3, if_pos h3]; simp
        · rw [if_neg h3, if_neg h3]; simp
    · rw [if_pos h1, if_pos h1]; simp
  · rw [if_neg e]
    have e' : ¬ k = oid o := fun h9 => e h9.symm
    split
    · rfl
    · split
      · split
        · rfl
        · simp [e']
      · split
        · simp [e']
        · rfl
theorem mem_heldO {b : List Bn} {node : Int} {k : Id3} (l : List Oc) : ∀ n, n ≤ l.length → (k ∈ heldO b node (l.take n) ↔ heldB ((b.find? fun x => decide (bid x = k)).elim 0 (·.de)) node (ofO (l.take n) k) = true)
  | 0, _ => by simp [heldO, heldB, ofO]
  | n + 1, h => by
    have ih := mem_heldO (b := b) (node := node) (k := k) l n (by omega)
    have e1 : heldO b node (l.take (n + 1)) = hldO b node (heldO b node (l.take n)) l[n] := by
      rw [List.take_succ_eq_append_getElem (by omega)]; unfold heldO; rw [List.foldl_append]; rfl
    rw [e1, mem_hldO]
    by_cases e : oid l[n] = k
    · have e2 : ofO (l.take (n + 1)) k = ofO (l.take n) k ++ [l[n]] := by
        unfold ofO; rw [List.take_succ_eq_append_getElem (by omega), List.filter_append]; simp [e]
      rw [if_pos e, e2]
      unfold heldB at ih ⊢
      rw [List.foldl_append]
      simp only [List.foldl_cons, List.foldl_nil]
      have e3 : decide (k ∈ heldO b node (l.take n)) = (ofO (l.take n) k).foldl (heB ((b.find? fun x => decide (bid x = k)).elim 0 (·.de)) node) false := by
        rw [Bool.eq_iff_iff, decide_eq_true_eq]; exact ih
      rw [e3]
    · have e2 : ofO (l.take (n + 1)) k = ofO (l.take n) k := by
        unfold ofO; rw [List.take_succ_eq_append_getElem (by omega), List.filter_append]; simp [e]
      rw [if_neg e, e2]; exact ih
theorem held_iff (b : List Bn) (node : Int) (k : Id3) (l : List Oc) : k ∈ heldO b node l ↔ heldB ((b.find? fun x => decide (bid x = k)).elim 0 (·.de)) node (ofO l k) = true := by
  have h := mem_heldO (b := b) (node := node) (k := k) l l.length (Nat.le_refl _)
  rwa [List.take_length] at h
theorem hldO_nodup {b : List Bn} {node : Int} {h : List Id3} {o : Oc} (hd : h.Nodup) : (hldO b node h o).Nodup := by
  unfold hldO
  split
  · exact hd
  · split
    · split
      · exact hd
      · rename_i h1
        rw [List.nodup_append]
        exact ⟨hd, by simp, fun x hx y hy e => by simp only [List.mem_singleton] at hy; subst hy; subst e; exact h1 (.inl hx)⟩
    · split
      · exact hd.sublist List.filter_sublist
      · exact hd
theorem foldl_nodup (b : List Bn) (node : Int) : ∀ (l : List Oc) (h : List Id3), h.Nodup → (l.foldl (hldO b node) h).Nodup
  | [], _, hd => hd
  | o :: l, h, hd => foldl_nodup b node l _ (hldO_nodup hd)
theorem heldO_nodup (b : List Bn) (node : Int) (l : List Oc) : (heldO b node l).Nodup := foldl_nodup b node l [] List.nodup_nil
theorem find_self {b : List Bn} (hd : (b.map bid).Nodup) {x : Bn} (hx : x ∈ b) : b.find? (fun y => decide (bid y = bid x)) = some x := by
  induction b with
  | nil => cases hx
  | cons a b ih =>
    rw [List.map_cons, List.nodup_cons] at hd
    rw [List.find?_cons]
    rcases List.mem_cons.1 hx with rfl | hx
    · simp
    · have hne : bid a ≠ bid x := fun e => hd.1 (by rw [e]; exact List.mem_map_of_mem hx)
      simp only [hne, decide_false, Bool.false_eq_true]
      exact ih hd.2 hx
theorem sum_perm {l m : List Int} (h : l.Perm m) : sumI l = sumI m := by
  induction h with
  | nil => rfl
  | cons a _ ih => rw [sumI_cons, sumI_cons, ih]
  | swap a c l => rw [sumI_cons, sumI_cons, sumI_cons, sumI_cons]; omega
  | trans _ _ h1 h2 => exact h1.trans h2
theorem perm_of_nodup {α : Type} [DecidableEq α] : ∀ {l m : List α}, l.Nodup → m.Nodup → (∀ x, x ∈ l ↔ x ∈ m) → l.Perm m
  | [], m, _, _, h => by
    cases m with
    | nil => exact List.Perm.nil
    | cons a r => exact absurd ((h a).2 (by simp)) (by simp)
  | a :: l, m, hl, hm, h => by
    obtain ⟨h1, h2⟩ := List.nodup_cons.1 hl
    have ha : a ∈ m := (h a).1 (by simp)
    obtain ⟨A, C, rfl⟩ := List.append_of_mem ha
    have hp : (A ++ a :: C).Perm (a :: (A ++ C)) := List.perm_middle
    have hm2 : (a :: (A ++ C)).Nodup := hp.nodup_iff.1 hm
    obtain ⟨h3, h4⟩ := List.nodup_cons.1 hm2
    refine List.Perm.trans (List.Perm.cons a (perm_of_nodup h2 h4 fun x => ?_)) hp.symm
    constructor
    · intro hx
      have := hp.mem_iff.1 ((h x).1 (List.mem_cons_of_mem _ hx))
      rcases List.mem_cons.1 this with rfl | h5
      · exact absurd hx h1
      · exact h5
    · intro hx
      have := (h x).2 (hp.mem_iff.2 (List.mem_cons_of_mem _ hx))
      rcases List.mem_cons.1 this with rfl | h5
      · exact absurd hx h3
      · exact h5
theorem ldO_eq {b : List Bn} {l : List Oc} (hv : RunV b l) (sz : Bn → Int) (node : Int) : ldO b sz (heldO b node l) = sumI ((b.filter fun x => heldB x.de node (ofO l (bid x))).map sz) := by
  have hmem : ∀ k ∈ heldO b node l, k ∈ b.map bid := fun k hk => by
    rw [held_iff] at hk
    have : ∃ o ∈ l, oid o = k ∧ (o.ki = 1 ∨ o.ki = 6) := by
      refine Classical.byContradiction fun hc => ?_
      have hz : ∀ (m : List Oc), (∀ o ∈ m, o ∈ l ∧ oid o = k) → m.foldl (heB ((b.find? fun x => decide (bid x = k)).elim 0 (·.de)) node) false = false := by
        intro m hm
        induction m with
        | nil => rfl
        | cons o m ih =>
          obtain ⟨h1, h2⟩ := hm o (by simp)
          have h3 : ¬ (o.ki = 1 ∨ o.ki = 6) := fun h3 => hc ⟨o, h1, h2, h3⟩
          have h4 : heB ((b.find? fun x => decide (bid x = k)).elim 0 (·.de)) node false o = false := by
            unfold heB
            split
            · rfl
            · rw [if_neg (by omega)]; split <;> rfl
          rw [List.foldl_cons, h4]
          exact ih (fun o ho => hm o (List.mem_cons_of_mem _ ho))
      unfold heldB at hk
      rw [hz _ (fun o ho => by
        unfold ofO at ho
        obtain ⟨h1, h2⟩ := List.mem_filter.1 ho
        exact ⟨h1, by simpa using h2⟩)] at hk
      cases hk
    obtain ⟨o, ho, rfl, hk2⟩ := this
    obtain ⟨i, hi, rfl⟩ := List.getElem_of_mem ho
    exact hv.mis i hi (by unfold useI; rcases hk2 with h | h <;> rw [h] <;> rfl)
  have hperm : (heldO b node l).Perm ((b.filter fun x => heldB x.de node (ofO l (bid x))).map bid) := by
    refine perm_of_nodup (heldO_nodup b node l) ?_ fun k => ?_
    · exact (hv.ids).sublist (List.filter_sublist.map bid)
    · constructor
      · intro hk
        obtain ⟨x, hx, rfl⟩ := List.mem_map.1 (hmem k hk)
        rw [held_iff, find_self hv.ids hx] at hk
        exact List.mem_map.2 ⟨x, List.mem_filter.2 ⟨hx, hk⟩, rfl⟩
      · intro hk
        obtain ⟨x, hx, rfl⟩ := List.mem_map.1 hk
        obtain ⟨h1, h2⟩ := List.mem_filter.1 hx
        rw [held_iff, find_self hv.ids h1]
        exact h2
  unfold ldO
  rw [sum_perm (hperm.map (szO b sz)), List.map_map]
  congr 1
  refine List.map_congr_left fun x hx => ?_
  simp only [Function.comp, szO]
  rw [find_self hv.ids (List.mem_filter.1 hx).1]; rfl
end Go.Proofs.YthfmkkkdjgkaoaaGreatDoor
namespace Go.Proofs.YthfmkkkdjgkaoaaGreatDoor
theorem sumI_app (a b : List Int) : sumI (a ++ b) = sumI a + sumI b := by
  induction a with
  | nil => simp [sumI]
  | cons x a ih => rw [List.cons_append, sumI_cons, sumI_cons, ih]; omega
theorem ld_add (b : List Bn) (sz : Bn → Int) (h : List Id3) (k : Id3) : ldO b sz (h ++ [k]) = ldO b sz h + szO b sz k := by
  unfold ldO; rw [List.map_append, sumI_app]; simp [sumI]
theorem ld_del (b : List Bn) (sz : Bn → Int) (k : Id3) : ∀ h : List Id3, h.Nodup → k ∈ h → ldO b sz (h.filter fun x => decide (x ≠ k)) = ldO b sz h - szO b sz k
  | [], _, hk => by cases hk
  | a :: h, hd, hk => by
    obtain ⟨h1, h2⟩ := List.nodup_cons.1 hd
    by_cases e : a = k
    · subst e
      have hs : h.filter (fun x => decide (x ≠ a)) = h := List.filter_eq_self.2 (fun x hx => by simp; intro e; subst e; exact h1 hx)
      rw [List.filter_cons, if_neg (by simp), hs]
      unfold ldO; rw [List.map_cons, sumI_cons]; omega
    · have hk2 : k ∈ h := by rcases List.mem_cons.1 hk with h9 | h9; exact absurd h9.symm e; exact h9
      have ih := ld_del b sz k h h2 hk2
      rw [List.filter_cons, if_pos (by simpa using e)]
      unfold ldO at ih ⊢
      rw [List.map_cons, List.map_cons, sumI_cons, sumI_cons, ih]; omega
theorem ld_same (k : Id3) (h : List Id3) (hk : k ∉ h) : h.filter (fun x => decide (x ≠ k)) = h := List.filter_eq_self.2 (fun x hx => by simp; intro e; subst e; exact hk hx)
theorem ld_le (b : List Bn) (sz : Bn → Int) (hs : ∀ x ∈ b, 0 ≤ sz x ∧ sz x ≤ 1200) (h : List Id3) : 0 ≤ ldO b sz h ∧ ldO b sz h ≤ (h.length : Int) * 1200 := by
  have := sum_bounds (h.map (szO b sz)) 0 1200 (fun x hx => by
    obtain ⟨k, _, rfl⟩ := List.mem_map.1 hx
    unfold szO
    cases hf : b.find? fun x => decide (bid x = k) with
    | none => simp
    | some y => exact hs y (List.mem_of_find?_eq_some hf))
  rw [List.length_map] at this
  unfold ldO
  omega
end Go.Proofs.YthfmkkkdjgkaoaaGreatDoor
namespace Go.Proofs.YthfmkkkdjgkaoaaGreatDoor
def kin18 (o : Oc) : Bool := decide (o.ki = 1) || decide (o.ki = 8)
end Go.Proofs.YthfmkkkdjgkaoaaGreatDoor
namespace Go.Proofs.YthfmkkkdjgkaoaaGreatDoor
open Go.RowKit
def pairData {H : Type} (zs : List (List UInt8 × Int)) : DataW H := .agg (zs.map fun z => .agg [.lit (.string z.1), .lit (.int .i64 z.2)])
def pairCs (zs : List (List UInt8 × Int)) : List Value := zs.flatMap fun z => [.string ⟨z.1.toArray⟩, .int .i64 z.2]
def PairIs (P : Program) (w : World) (name : String) (zs : List (List UInt8 × Int)) : Prop := w.var? P name = some (pairCs zs).toArray
theorem pairCs_len : ∀ zs : List (List UInt8 × Int), (pairCs zs).length = zs.length * 2
  | [] => rfl
  | z :: zs => by
    have := pairCs_len zs
    simp only [pairCs, List.flatMap_cons, List.length_append, List.length_cons, List.length_nil] at this ⊢
    omega
theorem pairCs_at : ∀ (zs : List (List UInt8 × Int)) (i : Nat) (h : i < zs.length), ((pairCs zs).drop (i * 2)).take 2 = [.string ⟨zs[i].1.toArray⟩, .int .i64 zs[i].2]
  | z :: zs, 0, h => rfl
  | z :: zs, i + 1, h => by
    have ih := pairCs_at zs i (by simpa using h)
    have e : (i + 1) * 2 = i * 2 + 2 := by omega
    rw [e]
    exact ih
theorem chunks_eq {α : Type} : ∀ (n : Nat) (xs ys : List α), xs.length = n * 2 → ys.length = n * 2 → (∀ i, i < n → (xs.drop (i * 2)).take 2 = (ys.drop (i * 2)).take 2) → xs = ys
  | 0, xs, ys, h1, h2, _ => by
    obtain rfl : xs = [] := List.length_eq_zero_iff.1 (by simpa using h1)
    obtain rfl : ys = [] := List.length_eq_zero_iff.1 (by simpa using h2)
    rfl
  | n + 1, xs, ys, h1, h2, h => by
    have h0 := h 0 (by omega)
    simp only [Nat.zero_mul, List.drop_zero] at h0
    have ih := chunks_eq n (xs.drop 2) (ys.drop 2) (by rw [List.length_drop]; omega) (by rw [List.length_drop]; omega) (fun i hi => by
      have := h (i + 1) (by omega)
      rw [List.drop_drop, List.drop_drop]
      rwa [show (i + 1) * 2 = 2 + i * 2 by omega] at this)
    rw [← List.take_append_drop 2 xs, ← List.take_append_drop 2 ys, h0, ih]
theorem cells_of_pairs {H : Type} {enc : TypeId × Value → H} {P : Program} {w : World} {base : Nat} {sp : Nat → Bool} {held : Bool} {fuel : Nat} {t e s k : TypeId} {f0 f1 : Field} {n : Nat} {cs : List Value} {zs : List (List UInt8 × Int)} {p : List MemPlace}
    (ht : P.underlying t = some (.array n e)) (he : P.underlying e = some (.struct #[f0, f1])) (h0 : f0.type = s) (h1 : f1.type = k) (o0 : f0.offset = 0) (o1 : f1.offset = 1) (hs : P.underlying s = some .string) (hk : P.underlying k = some (.int .i64))
    (cs1 : P.cellsOf s = 1) (ck : P.cellsOf k = 1) (hce : P.cellsOf e = 2) (hct : P.cellsOf t = n * 2)
    (h : DataW.trod enc P w base sp held fuel t cs = some (pairData zs, p)) : cs = pairCs zs := by
  cases fuel with
  | zero => simp [DataW.trod] at h
  | succ fuel =>
    simp only [DataW.trod, ht, hce, hct] at h
    split at h
    · rename_i hl
      obtain ⟨xs, hm, hx⟩ := Option.map_eq_some_iff.1 h
      have hxs : xs.map (·.1) = zs.map fun z => (DataW.agg [.lit (.string z.1), .lit (.int .i64 z.2)] : DataW H) := by
        have := congrArg Prod.fst hx
        simpa [pairData] using this
      have hxl : xs.length = n := by simpa using Lib.mapM_length hm
      have hzl : zs.length = n := by
        have := congrArg List.length hxs
        simp at this
        omega
      refine chunks_eq n _ _ hl (by rw [pairCs_len, hzl]) fun i hi => ?_
      rw [pairCs_at zs i (by omega)]
      obtain ⟨b, hb, hf⟩ := Lib.mapM_at hm i i (by simp [hi])
      have h2 : (xs.map (·.1))[i]? = some b.1 := by simp [hb]
      rw [hxs, List.getElem?_map, List.getElem?_eq_getElem (by omega)] at h2
      have hb1 : b.1 = DataW.agg [.lit (.string zs[i].1), .lit (.int .i64 zs[i].2)] := (Option.some.inj h2).symm
      obtain ⟨b1, b2⟩ := b
      simp only at hb1
      subst hb1
      cases fuel with
      | zero => simp [DataW.trod] at hf
      | succ fuel =>
        simp only [DataW.trod, he, hce, h0, h1, o0, o1, cs1, ck] at hf
        split at hf
        · rename_i hl2
          obtain ⟨ys, hy, hyx⟩ := Option.map_eq_some_iff.1 hf
          obtain ⟨c0, c1, hc⟩ : ∃ c0 c1, (cs.drop (i * 2)).take 2 = [c0, c1] := by
            match hq : (cs.drop (i * 2)).take 2, hl2 with
            | [a, b], _ => exact ⟨a, b, rfl⟩
          rw [hc] at hy ⊢
          simp only [List.mapM_cons, List.mapM_nil, List.drop_zero, List.take_succ_cons, List.take_zero, List.drop_succ_cons, h0, h1, o0, o1, cs1, ck, Option.bind_eq_bind, Option.bind_eq_some_iff, Option.pure_def, Option.some.injEq] at hy
          obtain ⟨y0, hy0, y1, ⟨y1', hy1, y2, rfl, rfl⟩, rfl⟩ := hy
          have e0 := congrArg Prod.fst hyx
          simp only [List.map_cons, List.map_nil, DataW.agg.injEq, List.cons.injEq, and_true] at e0
          obtain ⟨n1, k1, k2, _⟩ := DataW.trod_int hk hy1
          rw [k2] at e0
          simp only [DataW.lit.injEq, Lit.int.injEq, true_and] at e0
          obtain ⟨e0, e1⟩ := e0
          subst e1
          simp only [List.cons.injEq, and_true] at k1
          subst k1
          obtain ⟨y0a, y0b⟩ := y0
          simp only at e0
          subst e0
          cases fuel with
          | zero => simp [DataW.trod] at hy0
          | succ fuel =>
            simp only [DataW.trod, hs] at hy0
            split at hy0 <;> simp_all
            rename_i x1 x2
            obtain ⟨_, hq, _⟩ := hy0
            rw [← hq]
        · cases hf
    · cases h
theorem pairIs_of_head {P : Program} {W : World} {name : String} {zs : List (List UInt8 × Int)} {rest : List (String × DataW Unit)} {g : Nat} {t e s k : TypeId} {f0 f1 : Field} {n : Nat}
    (hg : P.globalNamed name = some g) (hty : (P.globals[g]?).map (·.type) = some t) (ht : P.underlying t = some (.array n e)) (he : P.underlying e = some (.struct #[f0, f1])) (h0 : f0.type = s) (h1 : f1.type = k) (o0 : f0.offset = 0) (o1 : f1.offset = 1) (hs : P.underlying s = some .string) (hk : P.underlying k = some (.int .i64))
    (cs1 : P.cellsOf s = 1) (ck : P.cellsOf k = 1) (hce : P.cellsOf e = 2) (hct : P.cellsOf t = n * 2)
    (h : laidMet P ((name, pairData zs) :: rest) W) : PairIs P W name zs := by
  obtain ⟨ps, ⟨g', t', cs, fuel, p, q, hg', ht', hvar, hd, _, _⟩, _⟩ := h
  obtain rfl := Option.some.inj (hg.symm.trans hg')
  obtain rfl := Option.some.inj (hty.symm.trans ht')
  unfold PairIs
  rw [hvar, ← cells_of_pairs ht he h0 h1 o0 o1 hs hk cs1 ck hce hct hd]
abbrev facesNm : String := "packhorse/trace.faces"
def facesT : List (List UInt8 × Int) := [([], 0), ([97, 99, 99, 101, 112, 116, 101, 100], 1), ([114, 97, 116, 101, 45, 108, 105, 109, 105, 116, 101, 100], 1), ([102, 111, 114, 101, 99, 97, 115, 116, 45, 102, 117, 108, 108], 1), ([116, 111, 111, 45, 108, 97, 114, 103, 101], 1), ([109, 97, 108, 102, 111, 114, 109, 101, 100], 0), ([116, 111, 111, 107], 3), ([104, 97, 110, 100, 101, 100], 3), ([100, 101, 108, 105, 118, 101, 114, 101, 100], 1), ([101, 120, 112, 105, 114, 101, 100], 1), ([114, 101, 102, 117, 115, 101, 100], 3), ([115, 116, 97, 108, 101], 2), ([103, 97, 114, 98, 108, 101, 100], 6), ([111, 118, 101, 114, 114, 117, 110], 2), ([99, 114, 97, 115, 104, 101, 100], 0), ([114, 101, 115, 116, 97, 114, 116, 101, 100], 0)]
def FTab (w : World) : Prop := ∀ w', Below w.heap.size w w' → PairIs Tryz.prog w' facesNm facesT
theorem ftab_of {w : World} (h : PairIs Tryz.prog w facesNm facesT) : FTab w := fun w' hb => by
  unfold PairIs World.var? at *
  cases hg : Tryz.prog.globalNamed facesNm with
  | none => simp [hg] at h
  | some g =>
    simp only [hg, Option.bind_some] at h ⊢
    have hlt : g < w.heap.size := by
      rcases Nat.lt_or_ge g w.heap.size with h' | h'
      · exact h'
      · rw [Array.getElem?_eq_none h'] at h; simp at h
    rw [hb.block g hlt]
    exact h
theorem FTab.on {w w' : World} (h : FTab w) (hb : Below w.heap.size w w') : FTab w' := fun w2 h2 => h w2 (hb.trans (h2.mono hb.size))
def useN (k : Int) : Int := (facesT.getD k.toNat ([], 0)).2
theorem FTab.cell {w : World} (h : FTab w) (k : Int) (h0 : 0 ≤ k) (h15 : k < 16) : w.cell? ⟨1, k.toNat * 2 + 1, none⟩ = some (.int .i64 (useN k)) := by
  have h1 := World.var?_cell (g := 1) (by kernel_rfl) (h w (Below.refl _ _)) (k.toNat * 2 + 1)
  rw [h1]
  have hi : k.toNat < facesT.length := by show k.toNat < 16; omega
  have h2 := congrArg (fun z => z[1]?) (pairCs_at facesT k.toNat hi)
  simp only [List.getElem?_take_of_lt (show (1 : Nat) < 2 by omega), List.getElem?_drop, List.getElem?_cons_succ, List.getElem?_cons_zero] at h2
  rw [List.getElem?_toArray, h2]
  unfold useN
  simp [List.getD, hi]
end Go.Proofs.YthfmkkkdjgkaoaaGreatDoor
namespace Go.Proofs.YthfmkkkdjgkaoaaGreatDoor
open Go.RowKit
def mpf (ks : List Id3) (f : Id3 → Value) : List (Id3 × Value) := ks.map fun k => (k, f k)
def insK (ks : List Id3) (k : Id3) : List Id3 := if k ∈ ks then ks else ks ++ [k]
def updK (f : Id3 → Value) (k : Id3) (v : Value) : Id3 → Value := fun x => if x = k then v else f x
theorem mem_insK {ks : List Id3} {k x : Id3} : x ∈ insK ks k ↔ x ∈ ks ∨ x = k := by
  unfold insK
  split
  · constructor
    · exact .inl
    · rintro (h | rfl)
      · exact h
      · assumption
  · simp
theorem nodup_insK {ks : List Id3} (h : ks.Nodup) (k : Id3) : (insK ks k).Nodup := by
  unfold insK
  split
  · exact h
  · rename_i hk
    rw [List.nodup_append]
    refine ⟨h, by simp, fun a ha b hb e => ?_⟩
    simp only [List.mem_singleton] at hb
    subst hb; subst e
    exact hk ha
theorem idx_mpf (k : Id3) (f : Id3 → Value) : ∀ (ks : List Id3) (i : Nat), (k ∉ ks ∧ idxM k (mpf ks f) i = none) ∨ ∃ j, ∃ h : j < ks.length, ks[j] = k ∧ (∀ m (hm : m < j), ks[m]'(by omega) ≠ k) ∧ idxM k (mpf ks f) i = some (i + j, f k)
  | [], i => .inl ⟨by simp, rfl⟩
  | x :: ks, i => by
    by_cases hx : k = x
    · subst hx
      exact .inr ⟨0, by simp, rfl, fun m hm => absurd hm (by omega), by simp [mpf, idxM]⟩
    · have e : idxM k (mpf (x :: ks) f) i = idxM k (mpf ks f) (i + 1) := by
        show (if k = x then _ else _) = _
        rw [if_neg hx]; rfl
      rw [e]
      rcases idx_mpf k f ks (i + 1) with ⟨h1, h2⟩ | ⟨j, h1, h2, h3, h4⟩
      · exact .inl ⟨by simp [hx, h1], h2⟩
      · refine .inr ⟨j + 1, by simpa using h1, by simpa using h2, fun m hm => ?_, by rw [h4]; congr 2; omega⟩
        cases m with
        | zero => exact fun e => hx e.symm
        | succ m => simpa using h3 m (by omega)
theorem getM_mpf (ks : List Id3) (f : Id3 → Value) (k : Id3) (z : Value) : getM (mpf ks f) k z = if k ∈ ks then f k else z := by
  unfold getM
  rcases idx_mpf k f ks 0 with ⟨h1, h2⟩ | ⟨j, h1, h2, _, h4⟩
  · rw [h2, if_neg h1]; rfl
  · rw [h4, if_pos (by rw [← h2]; exact List.getElem_mem _)]; rfl
theorem putM_mpf {ks : List Id3} (hn : ks.Nodup) (f : Id3 → Value) (k : Id3) (v : Value) : putM (mpf ks f) k v = mpf (insK ks k) (updK f k v) := by
  unfold putM
  rcases idx_mpf k f ks 0 with ⟨h1, h2⟩ | ⟨j, h1, h2, h3, h4⟩
  · rw [h2]
    unfold insK
    rw [if_neg h1]
    show mpf ks f ++ [(k, v)] = _
    unfold mpf
    rw [List.map_append]
    congr 1
    · refine List.map_congr_left fun x hx => ?_
      unfold updK
      rw [if_neg (fun (e : x = k) => h1 (e ▸ hx))]
    · simp [updK]
  · rw [h4]
    unfold insK
    rw [if_pos (by rw [← h2]; exact List.getElem_mem _)]
    simp only [Nat.zero_add]
    apply List.ext_getElem
    · simp [mpf]
    · intro i hi hi2
      have hi3 : i < ks.length := by simpa [mpf] using hi2
      rw [List.getElem_set]
      by_cases e : j = i
      · subst e
        simp [mpf, updK, h2]
      · have hne : ks[i] ≠ k := fun he => e ((List.getElem_inj hn).1 (h2.trans he.symm))
        simp [mpf, updK, e, hne]
theorem mpf_congr {ks : List Id3} {f g : Id3 → Value} (h : ∀ k ∈ ks, f k = g k) : mpf ks f = mpf ks g := List.map_congr_left fun k hk => by rw [h k hk]
end Go.Proofs.YthfmkkkdjgkaoaaGreatDoor
