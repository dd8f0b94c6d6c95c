/- Parts of a proof, printed by a program of mine out of my texts: StFr. -/
import Derived.Test.YtahopnlibmiafaaDoorMCh
import Derived.Test.YtahopnlibmiafaaDoorMSoOrd
import Derived.Test.YtahopnlibmiafaaDoorMStBks
set_option linter.unusedSimpArgs false
set_option linter.unusedVariables false
namespace Go.Proofs.YtahopnlibmiafaaDoor
open Go.RowKit
def wnt (x : Itm) (now : Int) : Bool := decide (x.st = 1) && !overI x now
def seenB (M : List Itm) (now p : Int) : List Bool := M.map fun x => wnt x now && decide (x.b.pr < p)
def setK (s : List Bool) (ks : List Int) : List Bool := ks.foldl (fun s k => s.set k.toNat true) s
def cellB (s : List Bool) : Array Value := (s.map Value.bool).toArray
def lstF (M : List Itm) (p now : Int) : List Int := isort (ltF M) (chL (wantF p now) (fun i _ => (i : Int)) M M.length)
theorem setK_snoc (s : List Bool) (ks : List Int) (k : Int) : setK s (ks ++ [k]) = (setK s ks).set k.toNat true := by simp [setK]
theorem setK_length (s : List Bool) (ks : List Int) : (setK s ks).length = s.length := by
  induction ks generalizing s with
  | nil => rfl
  | cons k ks ih => show (setK (s.set k.toNat true) ks).length = _; rw [ih]; simp
theorem setK_at (s : List Bool) (ks : List Int) (h0 : ∀ k ∈ ks, 0 ≤ k) (j : Nat) (hj : j < s.length) : (setK s ks)[j]'(by rw [setK_length]; exact hj) = (decide ((j : Int) ∈ ks) || s[j]) := by
  induction ks generalizing s with
  | nil => simp [setK]
  | cons k ks ih =>
    have := ih (s.set k.toNat true) (fun x hx => h0 x (List.mem_cons_of_mem _ hx)) (by simpa using hj)
    have e : setK s (k :: ks) = setK (s.set k.toNat true) ks := rfl
    simp only [e]
    rw [this, List.getElem_set]
    have hk := h0 k (List.mem_cons_self)
    by_cases c : k.toNat = j
    · have : (j : Int) = k := by omega
      simp [c, this]
    · have : ¬ (j : Int) = k := by omega
      simp [c, this]
theorem chL_mem {wanted : Itm → Bool} {l : List Itm} {x : Int} : x ∈ chL wanted (fun i _ => (i : Int)) l l.length ↔ ∃ i : Nat, x = i ∧ ∃ h : i < l.length, wanted l[i] = true := by
  unfold chL
  rw [List.mem_filterMap]
  constructor
  · rintro ⟨i, hi, h⟩
    have hl := List.mem_range.1 hi
    rw [List.getElem?_eq_getElem hl] at h
    simp only [Option.bind_some] at h
    split at h
    · exact ⟨i, (Option.some.inj h).symm, hl, by assumption⟩
    · cases h
  · rintro ⟨i, rfl, h, hw⟩
    refine ⟨i, List.mem_range.2 h, ?_⟩
    rw [List.getElem?_eq_getElem h]
    simp [hw]
theorem chL_nodup (wanted : Itm → Bool) (l : List Itm) : (chL wanted (fun i _ => (i : Int)) l l.length).Nodup := by
  unfold chL
  rw [List.Nodup, List.pairwise_filterMap]
  refine List.Pairwise.imp ?_ List.nodup_range
  intro i j hij x hx y hy e
  refine hij ?_
  have h1 : x = (i : Int) := by
    cases h : l[i]? with
    | none => rw [h] at hx; simp at hx
    | some a => rw [h] at hx; simp only [Option.bind_some] at hx; split at hx <;> simp_all
  have h2 : y = (j : Int) := by
    cases h : l[j]? with
    | none => rw [h] at hy; simp at hy
    | some a => rw [h] at hy; simp only [Option.bind_some] at hy; split at hy <;> simp_all
  omega
theorem lstF_mem {M : List Itm} {p now x : Int} : x ∈ lstF M p now ↔ ∃ i : Nat, x = i ∧ ∃ h : i < M.length, wantF p now M[i] = true := by
  unfold lstF
  rw [(isort_perm _ _).mem_iff, chL_mem]
theorem lstF_nodup (M : List Itm) (p now : Int) : (lstF M p now).Nodup := (isort_perm _ _).nodup_iff.2 (chL_nodup _ _)
theorem lstF_srt (M : List Itm) (p now : Int) : Srt (ltF M) (lstF M p now) := isort_srt (ltF M) (fun a b h => ltB_asymO _ _ h) (fun a b c h1 h2 => ltB_nnO _ _ _ h1 h2) _
theorem lstF_at {M : List Itm} {p now : Int} {i : Nat} (hi : i < (lstF M p now).length) : ∃ k : Nat, (lstF M p now)[i] = k ∧ ∃ h : k < M.length, M[k].st = 1 ∧ M[k].b.pr = p ∧ overI M[k] now = false := by
  obtain ⟨k, hk, h, hw⟩ := lstF_mem.1 (List.getElem_mem hi)
  refine ⟨k, hk, h, ?_⟩
  unfold wantF at hw
  simp only [Bool.and_eq_true, decide_eq_true_eq, Bool.not_eq_true'] at hw
  exact ⟨hw.1.1, hw.1.2, hw.2⟩
theorem lstF_less {M : List Itm} (hv : StV M) {p now : Int} {j : Nat} (hj : j + 1 < (lstF M p now).length) : ltF M ((lstF M p now)[j]) ((lstF M p now)[j + 1]) = true := by
  have hs := List.pairwise_iff_getElem.1 (lstF_srt M p now) j (j + 1) (by omega) hj (by omega)
  have hn := List.pairwise_iff_getElem.1 (lstF_nodup M p now) j (j + 1) (by omega) hj (by omega)
  obtain ⟨a, ha, ha1, _⟩ := lstF_at (M := M) (p := p) (now := now) (i := j) (by omega)
  obtain ⟨b, hb, hb1, _⟩ := lstF_at (M := M) (p := p) (now := now) hj
  rw [ha, hb] at hs hn ⊢
  cases hl : ltF M a b with
  | true => rfl
  | false =>
    exfalso
    unfold ltF at hs hl
    rw [bnAt_nat M a ha1, bnAt_nat M b hb1] at hs hl
    have h3 := (less_lawsO M[a].b.no M[a].b.sq M[a].b.of M[a].b.pr M[a].b.bo M[a].b.li M[b].b.no M[b].b.sq M[b].b.of M[b].b.pr M[b].b.bo M[b].b.li 0 0 0 0 0 0).2.2 hl hs
    have e : bid M[a].b = bid M[b].b := by unfold bid; rw [h3.1, h3.2.1, h3.2.2]
    rcases Nat.lt_trichotomy a b with h | h | h
    · exact hv.ne hb1 h e
    · exact hn (by rw [h])
    · exact hv.ne ha1 h e.symm
theorem forS_made {M : List Itm} (h : MadeS M) {p now : Int} (p0 : 0 ≤ p) (p1 : p < 3) (n0 : 0 ≤ now) (n1 : now < 14) : forS M p now = (lstF M p now, 0) := by
  have ha : askS M now = 0 := by
    unfold askS
    rw [chkS_good h.v, if_neg (by simp), if_neg (by omega)]
  unfold forS lstF
  rw [ha, if_neg (by simp), if_neg (by omega)]
theorem seenB_length (M : List Itm) (now p : Int) : (seenB M now p).length = M.length := by simp [seenB]
theorem seenB_at {M : List Itm} {now p : Int} {i : Nat} (h : i < M.length) : (seenB M now p)[i]'(by rw [seenB_length]; exact h) = (wnt M[i] now && decide (M[i].b.pr < p)) := by simp [seenB]
theorem lst_nn {M : List Itm} {p now : Int} : ∀ k ∈ lstF M p now, 0 ≤ k := fun k hk => by
  obtain ⟨i, rfl, _⟩ := lstF_mem.1 hk
  omega
theorem seen_new {M : List Itm} {p now : Int} {i k : Nat} (hi : i < (lstF M p now).length) (hk : (lstF M p now)[i] = k) (hkl : k < M.length) :
    (setK (seenB M now p) ((lstF M p now).take i))[k]'(by rw [setK_length, seenB_length]; exact hkl) = false := by
  rw [setK_at _ _ (fun k hk => lst_nn k (List.mem_of_mem_take hk)) k (by rw [seenB_length]; exact hkl), seenB_at hkl]
  obtain ⟨k', hk', h', _, hp, _⟩ := lstF_at hi
  have : k' = k := by rw [hk] at hk'; omega
  subst this
  rw [hp]
  simp only [Bool.or_eq_false_iff, decide_eq_false_iff_not]
  refine ⟨fun hm => ?_, by simp⟩
  obtain ⟨j, hj, e⟩ := List.mem_take_iff_getElem.1 hm
  have hj2 : j < i := by omega
  exact List.pairwise_iff_getElem.1 (lstF_nodup M p now) j i (by omega) hi hj2 (by rw [e, hk])
theorem seen_done {M : List Itm} {p now : Int} : setK (seenB M now p) (lstF M p now) = seenB M now (p + 1) := by
  apply List.ext_getElem (by rw [setK_length, seenB_length, seenB_length])
  intro j h1 h2
  rw [seenB_length] at h2
  rw [setK_at _ _ lst_nn j (by rw [seenB_length]; exact h2), seenB_at h2, seenB_at h2]
  have hm : ((j : Int) ∈ lstF M p now) ↔ wantF p now M[j] = true := by
    rw [lstF_mem]
    constructor
    · rintro ⟨i, e, h, hw⟩
      have : i = j := by omega
      subst this; exact hw
    · exact fun hw => ⟨j, rfl, h2, hw⟩
  obtain ⟨x, hx⟩ : ∃ x, x = M[j] := ⟨_, rfl⟩
  rw [← hx] at hm ⊢
  have hw : decide ((j : Int) ∈ lstF M p now) = wantF p now x := by
    cases h : wantF p now x with
    | true => exact decide_eq_true (hm.2 h)
    | false => exact decide_eq_false fun hh => by rw [hm.1 hh] at h; cases h
  rw [hw]
  unfold wantF wnt
  cases overI x now with
  | true => simp
  | false =>
    by_cases c1 : x.st = 1 <;> by_cases c2 : x.b.pr = p <;> by_cases c3 : x.b.pr < p <;> by_cases c4 : x.b.pr < p + 1 <;> simp [c1, c2, c3, c4] <;> omega
theorem made_pr {M : List Itm} (h : MadeS M) {j : Nat} (hj : j < M.length) : 0 ≤ M[j].b.pr ∧ M[j].b.pr ≤ 2 ∧ 0 ≤ M[j].b.bo ∧ M[j].b.bo ≤ 1099511627776 ∧ 1 ≤ M[j].b.li ∧ M[j].b.li ≤ 1048576 := by
  obtain ⟨_, ⟨_, _, h1, h2, h3, h4, h5, h6, _⟩, _⟩ := buC_ok (h.v.code hj)
  exact ⟨h1, h2, h3, h4, h5, h6⟩
theorem seen_zero {M : List Itm} (h : MadeS M) (now : Int) : seenB M now 0 = List.replicate M.length false := by
  apply List.ext_getElem (by simp [seenB])
  intro j h1 h2
  have hj : j < M.length := by simpa using h2
  rw [seenB_at hj]
  have := made_pr h hj
  simp; omega
theorem over_made {M : List Itm} (h : MadeS M) {now : Int} (n0 : 0 ≤ now) (n1 : now < 14) {j : Nat} (hj : j < M.length) : overI M[j] now = decide (M[j].b.bo + M[j].b.li ≤ now) := by
  have hc : buC M[j].b.no M[j].b.sq M[j].b.of M[j].b.de M[j].b.pr M[j].b.bo M[j].b.li M[j].b.to M[j].b.da.size = 0 := h.v.code hj
  unfold overI expM leftC
  rw [hc, if_neg (by simp), if_neg (by omega)]
  simp only [beq_self_eq_true, Bool.and_true]
  exact decide_eq_decide.2 (by omega)
theorem seen_three {M : List Itm} (h : MadeS M) {now : Int} (n0 : 0 ≤ now) (n1 : now < 14) {j : Nat} (hj : j < M.length) : (seenB M now 3)[j]'(by rw [seenB_length]; exact hj) = (decide (M[j].st = 1) && !decide (M[j].b.bo + M[j].b.li ≤ now)) := by
  rw [seenB_at hj]
  unfold wnt
  rw [over_made h n0 n1 hj]
  have := made_pr h hj
  rw [decide_eq_true (show M[j].b.pr < 3 by omega), Bool.and_true]
theorem cellB_at {s : List Bool} {j : Nat} (hj : j < s.length) : (cellB s)[j]? = some (.bool s[j]) := by simp [cellB, hj]
theorem cellB_set (s : List Bool) (j : Nat) (b : Bool) : (cellB s).setIfInBounds j (.bool b) = cellB (s.set j b) := by simp [cellB, List.map_set]
theorem cellB_made (n : Nat) : madeCells #[.bool false] n = cellB (List.replicate n false) := by
  apply Array.ext (by simp [madeCells, cellB])
  intro i h1 h2
  simp [madeCells, cellB, Nat.mod_one]
theorem ne_bool {W : World} {s b o : Nat} {S : List Bool} {k : IntKind} {n : Int} (h : blk W s = some (cellB S)) (hc : W.cell? ⟨b, o, none⟩ = some (.int k n)) : b ≠ s := by
  rintro rfl
  rw [blk_cell h] at hc
  unfold cellB at hc
  simp at hc
end Go.Proofs.YtahopnlibmiafaaDoor
