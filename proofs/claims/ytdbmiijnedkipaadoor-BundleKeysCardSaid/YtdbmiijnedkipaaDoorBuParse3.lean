/- The reference's reader of keys in plain words; it answers as the program's. -/
import Derived.Test.YtdbmiijnedkipaaDoorBuParse
namespace Go.Proofs.YtdbmiijnedkipaaDoor
set_option linter.unusedVariables false

def isD (c : UInt8) : Bool := decide (48 ≤ c.toNat) && decide (c.toNat ≤ 57)
def digs (l : List UInt8) : Nat := (l.takeWhile isD).length
def valD (l : List UInt8) : Nat := l.foldl (fun a c => 10 * a + (c.toNat - 48)) 0
/-- A leading 0 with digits behind it. -/
def lead0 (l : List UInt8) : Bool := decide ((l.headD 1).toNat = 48)
def fieldR (l : List UInt8) : Option (Nat × List UInt8) := if digs l = 0 ∨ 13 < digs l ∨ (1 < digs l ∧ lead0 l = true) then none else some (valD (l.take (digs l)), l.drop (digs l))
def dotR : List UInt8 → Option (List UInt8)
  | c :: l => if c.toNat = 46 then some l else none
  | [] => none
/-- What is still to be read: n fields behind those that are read. -/
def contR : Nat → List Nat → List UInt8 → Option (Nat × Nat × Nat)
  | 0, vs, l => if l = [] then some (vs.getD 0 0, vs.getD 1 0, vs.getD 2 0) else none
  | n + 1, vs, l => (if vs = [] then some l else dotR l).bind fun l' => (fieldR l').bind fun x => contR n (vs ++ [x.1]) x.2
def parseR (s : List UInt8) : Option (Nat × Nat × Nat) := contR 3 [] s

theorem valD_snoc (l : List UInt8) (c : UInt8) : valD (l ++ [c]) = 10 * valD l + (c.toNat - 48) := by simp [valD, List.foldl_append]
theorem foldl_ge (l : List UInt8) : ∀ a : Nat, a ≤ l.foldl (fun a c => 10 * a + (c.toNat - 48)) a := by
  induction l with
  | nil => intro a; exact Nat.le_refl _
  | cons c l ih => intro a; exact Nat.le_trans (show a ≤ 10 * a + (c.toNat - 48) by omega) (ih _)
theorem valD_pos {c : UInt8} {l : List UInt8} (h : 48 < c.toNat) : 0 < valD (c :: l) := by
  unfold valD
  simp only [List.foldl_cons]
  have := foldl_ge l (10 * 0 + (c.toNat - 48))
  omega
theorem snoc_ind {α : Type} {p : List α → Prop} (h0 : p []) (h1 : ∀ l c, p l → p (l ++ [c])) : ∀ l, p l := by
  intro l
  rw [← List.reverse_reverse l]
  induction l.reverse with
  | nil => exact h0
  | cons c m ih => rw [List.reverse_cons]; exact h1 _ _ ih
theorem runK_digits (k : Nat) (P D : List Nat) (hk : k ≤ 2) (hP : P.length = 3) (hD : D.length = 3) (h0 : P.getD k 0 = 0) (h1 : D.getD k 0 = 0) :
    ∀ l : List UInt8, (∀ c ∈ l, isD c = true) → l.length ≤ 13 → (1 < l.length → lead0 l = false) → l ≠ [] → runK l (k, P, D) = some (k, P.set k (valD l), D.set k l.length) := by
  refine snoc_ind (fun _ _ _ h => absurd rfl h) fun l c ih hd hn hz _ => ?_
  have hc : isD c = true := hd c (by simp)
  unfold isD at hc
  simp only [Bool.and_eq_true, decide_eq_true_eq] at hc
  by_cases hl : l = []
  · subst hl
    simp only [List.nil_append, runK, stepK, h0, h1]
    rw [if_neg (by omega), if_neg (by omega), if_neg (by omega)]
    simp [valD]
  · have hl1 : 1 ≤ l.length := by cases l with | nil => exact absurd rfl hl | cons _ _ => simp
    have hlead : lead0 l = false := by
      have := hz (by simp; omega)
      cases l with
      | nil => exact absurd rfl hl
      | cons x l' => simpa [lead0] using this
    rw [runK_append, ih (fun x hx => hd x (by simp [hx])) (by simp at hn; omega) (fun _ => hlead) hl]
    have e1 : (P.set k (valD l)).getD k 0 = valD l := by rw [getD_set_nat, if_pos ⟨rfl, by omega⟩]
    have e2 : (D.set k l.length).getD k 0 = l.length := by rw [getD_set_nat, if_pos ⟨rfl, by omega⟩]
    have hpos : 0 < valD l := by
      cases l with
      | nil => exact absurd rfl hl
      | cons x l' =>
        have hx := hd x (by simp)
        unfold isD at hx
        simp only [Bool.and_eq_true, decide_eq_true_eq] at hx
        simp [lead0] at hlead
        exact valD_pos (by omega)
    simp only [Option.bind_some, runK, stepK, e1, e2]
    rw [if_neg (by omega), if_neg (by omega), if_neg (by simp at hn; omega)]
    simp only [Option.bind_some, List.set_set, valD_snoc, List.length_append, List.length_cons, List.length_nil]
theorem stepK_keeps {st t : KState} {c : UInt8} (h : stepK st c = some t) : st.1 ≤ t.1 ∧ ∀ j, j < st.1 → t.2.2.getD j 0 = st.2.2.getD j 0 := by
  unfold stepK at h
  split at h
  · split at h
    · cases h
    · cases h; exact ⟨by dsimp only; omega, fun _ _ => rfl⟩
  · split at h
    · cases h
    · split at h
      · cases h
      · cases h
        refine ⟨Nat.le_refl _, fun j hj => ?_⟩
        dsimp only
        rw [getD_set_nat, if_neg (by omega)]
theorem runK_keeps {l : List UInt8} : ∀ {st t : KState}, runK l st = some t → st.1 ≤ t.1 ∧ ∀ j, j < st.1 → t.2.2.getD j 0 = st.2.2.getD j 0 := by
  induction l with
  | nil => intro st t h; cases h; exact ⟨Nat.le_refl _, fun _ _ => rfl⟩
  | cons c l ih =>
    intro st t h
    simp only [runK] at h
    cases hs : stepK st c with
    | none => rw [hs] at h; cases h
    | some u =>
      rw [hs] at h
      have h1 := stepK_keeps hs
      have h2 := ih h
      exact ⟨by omega, fun j hj => (h2.2 j (by omega)).trans (h1.2 j hj)⟩
theorem finK_zero {st : KState} {j : Nat} (hl : j < st.2.2.length) (h : st.2.2.getD j 0 = 0) : finK st = none := by
  unfold finK
  rw [if_pos]
  rw [List.contains_iff_exists_mem_beq]
  refine ⟨st.2.2[j], List.getElem_mem hl, ?_⟩
  rw [List.getD_eq_getElem?_getD, List.getElem?_eq_getElem hl] at h
  simpa using h.symm
theorem runK_len {l : List UInt8} {st t : KState} (h : KOk st) (hr : runK l st = some t) : t.2.2.length = 3 := (runK_ok h hr).d
theorem doomed {l : List UInt8} {st : KState} (h : KOk st) {j : Nat} (hj : j < st.1) (h0 : st.2.2.getD j 0 = 0) : (runK l st).bind finK = none := by
  cases hr : runK l st with
  | none => rfl
  | some t =>
    have h1 := (runK_keeps hr).2 j hj
    have h2 := runK_len h hr
    have h3 := h.k
    exact finK_zero (st := t) (j := j) (by omega) (by rw [h1, h0])
theorem mem_tw {p : UInt8 → Bool} : ∀ {l : List UInt8} {c : UInt8}, c ∈ l.takeWhile p → p c = true
  | [], c, h => by simp at h
  | x :: l, c, h => by
    rw [List.takeWhile_cons] at h
    split at h
    · rename_i hx
      rcases List.mem_cons.1 h with rfl | h
      · exact hx
      · exact mem_tw h
    · simp at h
theorem drop_tw {p : UInt8 → Bool} : ∀ l : List UInt8, l.drop (l.takeWhile p).length = l.dropWhile p
  | [] => rfl
  | x :: l => by
    rw [List.takeWhile_cons, List.dropWhile_cons]
    split
    · simpa using drop_tw l
    · rfl
theorem len_tw {p : UInt8 → Bool} : ∀ l : List UInt8, (l.takeWhile p).length ≤ l.length
  | [] => Nat.le_refl _
  | x :: l => by
    rw [List.takeWhile_cons]
    split
    · simpa using len_tw l
    · simp
theorem take_isD (l : List UInt8) : ∀ i, i ≤ digs l → ∀ c ∈ l.take i, isD c = true := by
  intro i hi c hc
  have e : l.take (digs l) = l.takeWhile isD := by
    unfold digs
    have := List.takeWhile_prefix isD (l := l)
    exact (List.prefix_iff_eq_take.1 this).symm
  have : c ∈ l.take (digs l) := by
    have : l.take i = (l.take (digs l)).take i := by rw [List.take_take, Nat.min_eq_left hi]
    rw [this] at hc
    exact List.mem_of_mem_take hc
  rw [e] at this
  exact mem_tw this
theorem drop_head (l : List UInt8) {c : UInt8} {r : List UInt8} (h : l.drop (digs l) = c :: r) : isD c = false := by
  have e : l.drop (digs l) = l.dropWhile isD := drop_tw l
  rw [e] at h
  have := List.head?_dropWhile_not isD l
  rw [h] at this
  simpa using this
theorem digs_le (l : List UInt8) : digs l ≤ l.length := by unfold digs; exact len_tw _
/-- One field. -/
theorem field_run {k : Nat} {P D : List Nat} (hok : KOk (k, P, D)) (h0 : P.getD k 0 = 0) (h1 : D.getD k 0 = 0) (l : List UInt8) :
    (runK l (k, P, D)).bind finK = (fieldR l).bind fun x => match x.2 with
      | [] => finK (k, P.set k x.1, D.set k (digs l))
      | c :: r => if c.toNat = 46 then (if k + 1 = 3 then none else (runK r (k + 1, P.set k x.1, D.set k (digs l))).bind finK) else none := by
  have hk := hok.k; have hP := hok.p; have hD := hok.d
  dsimp only at hk hP hD
  have hle := digs_le l
  unfold fieldR
  by_cases hm0 : digs l = 0
  · rw [if_pos (.inl hm0)]
    have hdr : l.drop (digs l) = l := by rw [hm0]; rfl
    cases l with
    | nil => exact finK_zero (j := k) (by dsimp only; omega) h1
    | cons c r =>
      have hc := drop_head _ hdr
      unfold isD at hc
      simp only [Bool.and_eq_false_iff, decide_eq_false_iff_not] at hc
      simp only [runK, stepK, Option.bind_none]
      by_cases h46 : c.toNat = 46
      · rw [if_pos h46]
        by_cases h3 : k + 1 = 3
        · rw [if_pos h3]; rfl
        · rw [if_neg h3]
          exact doomed (st := (k + 1, P, D)) ⟨by dsimp only; omega, hP, hD, hok.d13, hok.lt⟩ (j := k) (by dsimp only; omega) h1
      · rw [if_neg h46, if_pos (by omega)]; rfl
  · by_cases hz : 1 < digs l ∧ lead0 l = true
    · rw [if_pos (.inr (.inr hz))]
      -- the second digit falls
      match l, hz, hle, hm0 with
      | [], hz, _, _ => simp [digs] at hz
      | [c], hz, hle, _ => simp at hle; omega
      | c :: c2 :: r, hz, hle, _ =>
        have hd2 : isD c2 = true := take_isD (c :: c2 :: r) 2 (by omega) c2 (by simp)
        unfold isD at hd2
        simp only [Bool.and_eq_true, decide_eq_true_eq] at hd2
        have hc : c.toNat = 48 := by simpa [lead0] using hz.2
        have e1 : (P.set k 0).getD k 0 = 0 := by rw [getD_set_nat, if_pos ⟨rfl, by omega⟩]
        have e2 : (D.set k (0 + 1)).getD k 0 = 1 := by rw [getD_set_nat, if_pos ⟨rfl, by omega⟩]
        simp only [runK, stepK, h0, h1, hc, Option.bind_none]
        rw [if_neg (by omega), if_neg (by omega), if_neg (by omega)]
        simp only [Option.bind_some, show 10 * 0 + (48 - 48) = 0 by omega, e1, e2]
        rw [if_neg (by omega), if_neg (by omega), if_pos (.inl ⟨by omega, trivial⟩)]
        rfl
    · by_cases h13 : 13 < digs l
      · rw [if_pos (.inr (.inl h13))]
        have hl13 : 13 < l.length := by omega
        have hlead : lead0 (l.take 13) = false := by
          cases hq : lead0 l with
          | true => exact absurd ⟨by omega, hq⟩ hz
          | false => cases l with | nil => simp at hl13 | cons x r => simpa [lead0] using hq
        have hr := runK_digits k P D hk hP hD h0 h1 (l.take 13) (take_isD l 13 (by omega)) (by simp; omega) (fun _ => hlead) (fun h => by have := congrArg List.length h; rw [List.length_take] at this; simp only [List.length_nil] at this; omega)
        have hd14 : isD l[13] = true := take_isD l 14 (by omega) l[13] (by rw [List.mem_take_iff_getElem]; exact ⟨13, by omega, rfl⟩)
        unfold isD at hd14
        simp only [Bool.and_eq_true, decide_eq_true_eq] at hd14
        have e2 : (D.set k 13).getD k 0 = 13 := by rw [getD_set_nat, if_pos ⟨rfl, by omega⟩]
        rw [← List.take_append_drop 13 l, runK_append, hr, List.drop_eq_getElem_cons hl13, List.length_take, Nat.min_eq_left (by omega)]
        simp only [Option.bind_some, runK, stepK, e2, Option.bind_none]
        rw [if_neg (by omega), if_neg (by omega), if_pos (.inr (by trivial))]
        rfl
      · rw [if_neg (by rintro (h | h | h); exact hm0 h; exact h13 h; exact hz h)]
        have hlead : 1 < (l.take (digs l)).length → lead0 (l.take (digs l)) = false := fun hh => by
          cases hq : lead0 l with
          | true => exact absurd ⟨by simp at hh; omega, hq⟩ hz
          | false =>
            cases l with
            | nil => simp at hh
            | cons x r =>
              match hmm : digs (x :: r), hm0 with
              | m + 1, _ => simpa [lead0] using hq
        have hr := runK_digits k P D hk hP hD h0 h1 (l.take (digs l)) (take_isD l _ (Nat.le_refl _)) (by simp; omega) hlead (fun h => by have := congrArg List.length h; rw [List.length_take] at this; simp only [List.length_nil] at this; omega)
        rw [List.length_take, Nat.min_eq_left hle] at hr
        have hsplit : runK l (k, P, D) = runK (l.drop (digs l)) (k, P.set k (valD (l.take (digs l))), D.set k (digs l)) := by
          conv => lhs; rw [← List.take_append_drop (digs l) l, runK_append, hr]
          rfl
        rw [hsplit]
        simp only [Option.bind_some]
        cases hd : l.drop (digs l) with
        | nil => rfl
        | cons c r =>
          have hc := drop_head _ hd
          unfold isD at hc
          simp only [Bool.and_eq_false_iff, decide_eq_false_iff_not] at hc
          simp only [runK, stepK]
          by_cases h46 : c.toNat = 46
          · rw [if_pos h46, if_pos h46]
            by_cases h3 : k + 1 = 3
            · rw [if_pos h3, if_pos h3]; rfl
            · rw [if_neg h3, if_neg h3]; rfl
          · rw [if_neg h46, if_neg h46, if_pos (by omega)]; rfl

theorem fieldR_ne {l : List UInt8} {x : Nat × List UInt8} (h : fieldR l = some x) : digs l ≠ 0 := by
  unfold fieldR at h
  split at h
  · cases h
  · omega
theorem field_ok {k : Nat} {P D : List Nat} (hok : KOk (k, P, D)) (h0 : P.getD k 0 = 0) (h1 : D.getD k 0 = 0) {l : List UInt8} {x : Nat × List UInt8} (h : fieldR l = some x) : KOk (k, P.set k x.1, D.set k (digs l)) := by
  have hk := hok.k; have hP := hok.p; have hD := hok.d
  dsimp only at hk hP hD
  have hle := digs_le l
  unfold fieldR at h
  split at h
  · cases h
  · rename_i hn
    cases h
    have hlead : 1 < (l.take (digs l)).length → lead0 (l.take (digs l)) = false := fun hh => by
      cases hq : lead0 l with
      | true => exact absurd (.inr (.inr ⟨by simp at hh; omega, hq⟩)) hn
      | false =>
        cases l with
        | nil => simp at hh
        | cons x r =>
          match hmm : digs (x :: r) with
          | 0 => exact absurd (.inl hmm) hn
          | m + 1 => simpa [lead0] using hq
    have hm0 : digs l ≠ 0 := fun e => hn (.inl e)
    have h13 : digs l ≤ 13 := by
      rcases Nat.lt_or_ge 13 (digs l) with e | e
      · exact absurd (.inr (.inl e)) hn
      · exact e
    have hr := runK_digits k P D hk hP hD h0 h1 (l.take (digs l)) (take_isD l _ (Nat.le_refl _)) (by rw [List.length_take]; omega) hlead (fun h => by have := congrArg List.length h; rw [List.length_take] at this; simp only [List.length_nil] at this; omega)
    rw [List.length_take, Nat.min_eq_left hle] at hr
    exact runK_ok hok hr
theorem KOk.next {k : Nat} {P D : List Nat} (h : KOk (k, P, D)) (hk : k + 1 ≤ 2) : KOk (k + 1, P, D) := ⟨hk, h.p, h.d, h.d13, h.lt⟩
/-- The two readers are one. -/
theorem parse_eq (s : List UInt8) : parseK s = parseR s := by
  unfold parseK parseR
  have f0 := field_run k0_ok rfl rfl s
  rw [show (k0 : KState) = (0, [0, 0, 0], [0, 0, 0]) from rfl, f0]
  simp only [contR, if_true, Option.bind_some, List.nil_append]
  cases h0 : fieldR s with
  | none => rfl
  | some x0 =>
    obtain ⟨v0, r0⟩ := x0
    simp only [Option.bind_some]
    have z0 := fieldR_ne h0
    cases r0 with
    | nil => simp [finK, dotR]
    | cons c0 r0 =>
      simp only [dotR, List.cons_ne_nil, if_false]
      by_cases hc0 : c0.toNat = 46
      · rw [if_pos hc0, if_pos hc0, if_neg (by omega)]
        have ok1 : KOk (1, [v0, 0, 0], [digs s, 0, 0]) := (field_ok k0_ok rfl rfl h0).next (by omega)
        have f1 := field_run ok1 rfl rfl r0
        simp only [List.set_cons_zero] at f1 ⊢
        rw [f1]
        simp only [Option.bind_some]
        cases h1 : fieldR r0 with
        | none => rfl
        | some x1 =>
          obtain ⟨v1, r1⟩ := x1
          simp only [Option.bind_some]
          have z1 := fieldR_ne h1
          cases r1 with
          | nil =>
            simp [finK, dotR]
          | cons c1 r1 =>
            by_cases hc1 : c1.toNat = 46
            · simp only [if_pos hc1, dotR, List.cons_append, List.nil_append, Option.bind_some, List.cons_ne_nil, if_false]
              rw [if_neg (by omega)]
              have ok2 : KOk (2, [v0, v1, 0], [digs s, digs r0, 0]) := (field_ok ok1 rfl rfl h1).next (by omega)
              have f2 := field_run ok2 rfl rfl r1
              simp only [List.set_cons_zero, List.set_cons_succ] at f2 ⊢
              rw [f2]
              cases h2 : fieldR r1 with
              | none => rfl
              | some x2 =>
                obtain ⟨v2, r2⟩ := x2
                have z2 := fieldR_ne h2
                simp only [Option.bind_some]
                cases r2 with
                | nil =>
                  simp only [finK, if_true]
                  rw [if_neg (by simp; omega)]
                | cons c2 r2 =>
                  by_cases hc2 : c2.toNat = 46
                  · simp [hc2]
                  · simp [hc2]
            · simp [if_neg hc1, dotR, hc1]
      · simp [if_neg hc0]
end Go.Proofs.YtdbmiijnedkipaaDoor
