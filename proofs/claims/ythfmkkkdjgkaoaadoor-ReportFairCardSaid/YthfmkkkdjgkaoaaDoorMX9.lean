/- Parts of a proof, printed by a program of mine out of my texts: more of RpSum, RpTab, RpOk. -/
import Derived.ChangeSame
import Derived.Lib.AppendIntMem
import Derived.Lib.LaidTab
import Derived.OpenShut
import Derived.Test.YthfmkkkdjgkaoaaDoorMK
import Derived.Test.YthfmkkkdjgkaoaaDoorMM
set_option linter.unusedSimpArgs false
set_option linter.unusedVariables false
namespace Go.Proofs.YthfmkkkdjgkaoaaDoor
theorem inP_all (x : Bn) : inP (-1) x = true := by simp [inP]
theorem inP_is {p : Int} (h : 0 ≤ p) (x : Bn) : inP p x = decide (x.pr = p) := by simp [inP]; omega
theorem len_parts (b : List Bn) (f : Bn → Bool) (h : ∀ x ∈ b, 0 ≤ x.pr ∧ x.pr ≤ 2) :
    (b.filter fun x => inP (-1) x && f x).length = (b.filter fun x => inP 0 x && f x).length + (b.filter fun x => inP 1 x && f x).length + (b.filter fun x => inP 2 x && f x).length := by
  induction b with
  | nil => rfl
  | cons a b ih =>
    have ih := ih (fun x hx => h x (List.mem_cons_of_mem _ hx))
    have ha := h a (by simp)
    simp only [List.filter_cons, inP_all, inP_is (show (0 : Int) ≤ 0 by decide), inP_is (show (0 : Int) ≤ 1 by decide), inP_is (show (0 : Int) ≤ 2 by decide), Bool.true_and] at ih ⊢
    cases hf : f a with
    | false => simpa using ih
    | true =>
      rcases (by omega : a.pr = 0 ∨ a.pr = 1 ∨ a.pr = 2) with e | e | e <;> simp [e] <;> omega
theorem cntO_parts {b : List Bn} (l : List Oc) (p : Nat) (h : ∀ x ∈ b, 0 ≤ x.pr ∧ x.pr ≤ 2) : cntO b l (-1) p = cntO b l 0 p + cntO b l 1 p + cntO b l 2 p := by
  unfold cntO
  rw [len_parts b (fun x => markO l (bid x) p) h]
  omega
theorem filter_two {α : Type} (l : List α) (f g : α → Bool) (h : ∀ x ∈ l, f x = true → g x = false) : (l.filter f).length + (l.filter g).length ≤ l.length := by
  induction l with
  | nil => simp
  | cons a l ih =>
    have ih := ih (fun x hx => h x (List.mem_cons_of_mem _ hx))
    have ha := h a (by simp)
    simp only [List.filter_cons, List.length_cons]
    cases hf : f a with
    | false => cases hg : g a <;> simp <;> omega
    | true => rw [ha hf]; simp; omega
theorem cntO_two (b : List Bn) (l : List Oc) (prio : Int) : cntO b l prio 0 + cntO b l prio 5 ≤ b.length := by
  unfold cntO
  have := filter_two b (fun x => inP prio x && markO l (bid x) 0) (fun x => inP prio x && markO l (bid x) 5) (fun x _ hx => by
    simp only [Bool.and_eq_true] at hx
    have h1 : hasO l 1 (bid x) = true := hx.2
    simp [markO, h1])
  omega
theorem latO_has {l : List Oc} {id : Id3} (h : (latO l id).isSome) : hasO l 8 id = true := by
  unfold latO at h
  split at h
  · rename_i a d hl
    split at h
    · rename_i hk
      have hd : d ∈ l.filter fun o => decide (oid o = id) && (decide (o.ki = 1) || decide (o.ki = 8)) := by rw [hl]; simp
      obtain ⟨h1, h2⟩ := List.mem_filter.1 hd
      simp only [Bool.and_eq_true, decide_eq_true_eq] at h2
      unfold hasO
      exact List.any_eq_true.2 ⟨d, h1, by simp [hk.2, h2.1]⟩
    · cases h
  · cases h
theorem filterMap_len {α β : Type} (l : List α) (f : α → Option β) : (l.filterMap f).length = (l.filter fun x => (f x).isSome).length := by
  induction l with
  | nil => rfl
  | cons a l ih =>
    cases h : f a with
    | none => simp [List.filterMap_cons, h, ih]
    | some y => simp [List.filterMap_cons, h, ih]
theorem allO_le (b : List Bn) (l : List Oc) (prio : Int) : ((allO b l prio).length : Int) ≤ cntO b l prio 2 := by
  unfold allO cntO
  rw [filterMap_len, List.filter_filter]
  have : (b.filter fun x => (latO l (bid x)).isSome && inP prio x).length ≤ (b.filter fun x => inP prio x && markO l (bid x) 2).length := by
    induction b with
    | nil => simp
    | cons a b ih =>
      simp only [List.filter_cons]
      by_cases h1 : ((latO l (bid a)).isSome && inP prio a) = true
      · simp only [Bool.and_eq_true] at h1
        have h2 : markO l (bid a) 2 = true := latO_has h1.1
        rw [if_pos (by simp [h1]), if_pos (by simp [h1.2, h2])]
        simp only [List.length_cons]; omega
      · rw [if_neg h1]
        split
        · simp only [List.length_cons]; omega
        · exact ih
  omega
theorem allO_parts (b : List Bn) (l : List Oc) (h : ∀ x ∈ b, 0 ≤ x.pr ∧ x.pr ≤ 2) :
    (allO b l (-1)).length = (allO b l 0).length + (allO b l 1).length + (allO b l 2).length ∧ sumI (allO b l (-1)) = sumI (allO b l 0) + sumI (allO b l 1) + sumI (allO b l 2) := by
  unfold allO
  induction b with
  | nil => exact ⟨rfl, rfl⟩
  | cons a b ih =>
    have ih := ih (fun x hx => h x (List.mem_cons_of_mem _ hx))
    have ha := h a (by simp)
    simp only [List.filter_cons, inP_all, inP_is (show (0 : Int) ≤ 0 by decide), inP_is (show (0 : Int) ≤ 1 by decide), inP_is (show (0 : Int) ≤ 2 by decide), if_true] at ih ⊢
    cases hf : latO l (bid a) with
    | none => rcases (by omega : a.pr = 0 ∨ a.pr = 1 ∨ a.pr = 2) with e | e | e <;> simp [e, List.filterMap_cons, hf] <;> exact ih
    | some y => rcases (by omega : a.pr = 0 ∨ a.pr = 1 ∨ a.pr = 2) with e | e | e <;> simp [e, List.filterMap_cons, hf, sumI_cons] <;> omega
theorem asc_at {l : List Int} {i j : Nat} (hi : i < (ascO l).length) (hj : j < (ascO l).length) (hij : i ≤ j) : (ascO l)[i] ≤ (ascO l)[j] := by
  rcases Nat.lt_or_eq_of_le hij with h | rfl
  · exact List.pairwise_iff_getElem.1 (ascO_srt l) i j hi hj h
  · exact Int.le_refl _
theorem dlyO_bounds (all : List Int) : 0 ≤ (dlyO all).n ∧ (dlyO all).le ≤ (dlyO all).me ∧ (dlyO all).me ≤ (dlyO all).gr ∧ (dlyO all).n * (dlyO all).le ≤ (dlyO all).su ∧ (dlyO all).su ≤ (dlyO all).n * (dlyO all).gr := by
  by_cases h : all = []
  · unfold dlyO; rw [if_pos h]; simp
  · obtain ⟨h0, e⟩ := dlyO_form h
    rw [e]
    have hb : ∀ x ∈ all, (ascO all)[0] ≤ x ∧ x ≤ (ascO all)[(ascO all).length - 1] := fun x hx => by
      obtain ⟨i, hi, rfl⟩ := List.getElem_of_mem ((ascO_mem all x).2 hx)
      exact ⟨asc_at h0 hi (Nat.zero_le _), asc_at hi (by omega) (by omega)⟩
    have hs := sum_bounds all _ _ hb
    exact ⟨by show (0 : Int) ≤ (all.length : Int); omega, asc_at h0 (by omega) (Nat.zero_le _), asc_at (by omega) (by omega) (by omega), hs.1, hs.2⟩
theorem dlyO_n (all : List Int) : (dlyO all).n = all.length ∧ (dlyO all).su = sumI all := by
  by_cases h : all = []
  · subst h; exact ⟨rfl, rfl⟩
  · obtain ⟨h0, e⟩ := dlyO_form h
    rw [e]; exact ⟨rfl, rfl⟩
end Go.Proofs.YthfmkkkdjgkaoaaDoor
namespace Go.Proofs.YthfmkkkdjgkaoaaDoor
open Go.RowKit
def pairData {H : Type} (zs : List (List UInt8 × Int)) : DataW H := .agg (zs.map fun z => .agg [.lit (.string z.1), .lit (.int .i64 z.2)])
theorem pairCs_len : ∀ zs : List (List UInt8 × Int), (pairCs zs).length = zs.length * 2
  | [] => rfl
  | z :: zs => by
    have := pairCs_len zs
    simp only [pairCs, List.flatMap_cons, List.length_append, List.length_cons, List.length_nil] at this ⊢
    omega
theorem chunks_eq {α : Type} : ∀ (n : Nat) (xs ys : List α), xs.length = n * 2 → ys.length = n * 2 → (∀ i, i < n → (xs.drop (i * 2)).take 2 = (ys.drop (i * 2)).take 2) → xs = ys
  | 0, xs, ys, h1, h2, _ => by
    obtain rfl : xs = [] := List.length_eq_zero_iff.1 (by simpa using h1)
    obtain rfl : ys = [] := List.length_eq_zero_iff.1 (by simpa using h2)
    rfl
  | n + 1, xs, ys, h1, h2, h => by
    have h0 := h 0 (by omega)
    simp only [Nat.zero_mul, List.drop_zero] at h0
    have ih := chunks_eq n (xs.drop 2) (ys.drop 2) (by rw [List.length_drop]; omega) (by rw [List.length_drop]; omega) (fun i hi => by
      have := h (i + 1) (by omega)
      rw [List.drop_drop, List.drop_drop]
      rwa [show (i + 1) * 2 = 2 + i * 2 by omega] at this)
    rw [← List.take_append_drop 2 xs, ← List.take_append_drop 2 ys, h0, ih]
theorem cells_of_pairs {H : Type} {enc : TypeId × Value → H} {P : Program} {w : World} {base : Nat} {sp : Nat → Bool} {held : Bool} {fuel : Nat} {t e s k : TypeId} {f0 f1 : Field} {n : Nat} {cs : List Value} {zs : List (List UInt8 × Int)} {p : List MemPlace}
    (ht : P.underlying t = some (.array n e)) (he : P.underlying e = some (.struct #[f0, f1])) (h0 : f0.type = s) (h1 : f1.type = k) (o0 : f0.offset = 0) (o1 : f1.offset = 1) (hs : P.underlying s = some .string) (hk : P.underlying k = some (.int .i64))
    (cs1 : P.cellsOf s = 1) (ck : P.cellsOf k = 1) (hce : P.cellsOf e = 2) (hct : P.cellsOf t = n * 2)
    (h : DataW.trod enc P w base sp held fuel t cs = some (pairData zs, p)) : cs = pairCs zs := by
  cases fuel with
  | zero => simp [DataW.trod] at h
  | succ fuel =>
    simp only [DataW.trod, ht, hce, hct] at h
    split at h
    · rename_i hl
      obtain ⟨xs, hm, hx⟩ := Option.map_eq_some_iff.1 h
      have hxs : xs.map (·.1) = zs.map fun z => (DataW.agg [.lit (.string z.1), .lit (.int .i64 z.2)] : DataW H) := by
        have := congrArg Prod.fst hx
        simpa [pairData] using this
      have hxl : xs.length = n := by simpa using Lib.mapM_length hm
      have hzl : zs.length = n := by
        have := congrArg List.length hxs
        simp at this
        omega
      refine chunks_eq n _ _ hl (by rw [pairCs_len, hzl]) fun i hi => ?_
      rw [pairCs_at zs i (by omega)]
      obtain ⟨b, hb, hf⟩ := Lib.mapM_at hm i i (by simp [hi])
      have h2 : (xs.map (·.1))[i]? = some b.1 := by simp [hb]
      rw [hxs, List.getElem?_map, List.getElem?_eq_getElem (by omega)] at h2
      have hb1 : b.1 = DataW.agg [.lit (.string zs[i].1), .lit (.int .i64 zs[i].2)] := (Option.some.inj h2).symm
      obtain ⟨b1, b2⟩ := b
      simp only at hb1
      subst hb1
      cases fuel with
      | zero => simp [DataW.trod] at hf
      | succ fuel =>
        simp only [DataW.trod, he, hce, h0, h1, o0, o1, cs1, ck] at hf
        split at hf
        · rename_i hl2
          obtain ⟨ys, hy, hyx⟩ := Option.map_eq_some_iff.1 hf
          obtain ⟨c0, c1, hc⟩ : ∃ c0 c1, (cs.drop (i * 2)).take 2 = [c0, c1] := by
            match hq : (cs.drop (i * 2)).take 2, hl2 with
            | [a, b], _ => exact ⟨a, b, rfl⟩
          rw [hc] at hy ⊢
          simp only [List.mapM_cons, List.mapM_nil, List.drop_zero, List.take_succ_cons, List.take_zero, List.drop_succ_cons, h0, h1, o0, o1, cs1, ck, Option.bind_eq_bind, Option.bind_eq_some_iff, Option.pure_def, Option.some.injEq] at hy
          obtain ⟨y0, hy0, y1, ⟨y1', hy1, y2, rfl, rfl⟩, rfl⟩ := hy
          have e0 := congrArg Prod.fst hyx
          simp only [List.map_cons, List.map_nil, DataW.agg.injEq, List.cons.injEq, and_true] at e0
          obtain ⟨n1, k1, k2, _⟩ := DataW.trod_int hk hy1
          rw [k2] at e0
          simp only [DataW.lit.injEq, Lit.int.injEq, true_and] at e0
          obtain ⟨e0, e1⟩ := e0
          subst e1
          simp only [List.cons.injEq, and_true] at k1
          subst k1
          obtain ⟨y0a, y0b⟩ := y0
          simp only at e0
          subst e0
          cases fuel with
          | zero => simp [DataW.trod] at hy0
          | succ fuel =>
            simp only [DataW.trod, hs] at hy0
            split at hy0 <;> simp_all
            rename_i x1 x2
            obtain ⟨_, hq, _⟩ := hy0
            rw [← hq]
        · cases hf
    · cases h
theorem pairIs_of_head {P : Program} {W : World} {name : String} {zs : List (List UInt8 × Int)} {rest : List (String × DataW Unit)} {g : Nat} {t e s k : TypeId} {f0 f1 : Field} {n : Nat}
    (hg : P.globalNamed name = some g) (hty : (P.globals[g]?).map (·.type) = some t) (ht : P.underlying t = some (.array n e)) (he : P.underlying e = some (.struct #[f0, f1])) (h0 : f0.type = s) (h1 : f1.type = k) (o0 : f0.offset = 0) (o1 : f1.offset = 1) (hs : P.underlying s = some .string) (hk : P.underlying k = some (.int .i64))
    (cs1 : P.cellsOf s = 1) (ck : P.cellsOf k = 1) (hce : P.cellsOf e = 2) (hct : P.cellsOf t = n * 2)
    (h : laidMet P ((name, pairData zs) :: rest) W) : PairIs P W name zs := by
  obtain ⟨ps, ⟨g', t', cs, fuel, p, q, hg', ht', hvar, hd, _, _⟩, _⟩ := h
  obtain rfl := Option.some.inj (hg.symm.trans hg')
  obtain rfl := Option.some.inj (hty.symm.trans ht')
  unfold PairIs
  rw [hvar, ← cells_of_pairs ht he h0 h1 o0 o1 hs hk cs1 ck hce hct hd]
end Go.Proofs.YthfmkkkdjgkaoaaDoor
namespace Go.Proofs.YthfmkkkdjgkaoaaDoor
theorem made_prio {b : List Bn} (h : MkBs b) : ∀ x ∈ b, 0 ≤ x.pr ∧ x.pr ≤ 2 := fun x hx => by
  obtain ⟨i, hi, rfl⟩ := List.getElem_of_mem hx
  have h' : buC b[i].no b[i].sq b[i].of b[i].de b[i].pr b[i].bo b[i].li b[i].to b[i].da.size = 0 := h.ok i hi
  obtain ⟨_, h2, _⟩ := buC_ok h'
  omega
end Go.Proofs.YthfmkkkdjgkaoaaDoor
