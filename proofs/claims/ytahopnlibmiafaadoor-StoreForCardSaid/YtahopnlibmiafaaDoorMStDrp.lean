/- Parts of a proof, printed by a program of mine out of my texts: StDrp. -/
import Derived.Test.YtahopnlibmiafaaDoorMDr
import Derived.Test.YtahopnlibmiafaaDoorMStMade
set_option linter.unusedSimpArgs false
set_option linter.unusedVariables false
namespace Go.Proofs.YtahopnlibmiafaaDoor
open Go.RowKit
theorem made_S (a : Option Addr) (cap : Nat) (zs : List Int) (w : World) (hrow : Row .i64 w a cap zs) :
    Calls Tryd.prog 46 #[.slice a zs.length cap] w fun e w' => ∃ a' c' M, e = .returned (.slice a' M.length c') ∧ M = mkL zs M.length ∧ M.length ≤ 12 ∧ SRow itm 13 w' a' c' M ∧ Below w.heap.size w w' := by
  refine (made_any a cap zs w hrow).mono ?_
  rintro e w' ⟨v, n, rfl, hn, ho, hB⟩
  obtain ⟨M, hM⟩ : ∃ M, M = mkL zs n := ⟨_, rfl⟩
  have hl : M.length = n := by rw [hM]; exact mkL_length zs n
  subst hl
  rw [← hM] at ho
  obtain ⟨a', c', rfl, hS, _⟩ := srow_of_owns itm_len ho
  exact ⟨a', c', M, rfl, hM, hn, hS, hB⟩
theorem chkS_good {l : List Itm} (h : StV l) : chkS l = (0, 0) := chkS_ok h.1 h.2
theorem StV.snoc {l : List Itm} {x : Itm} (h : StV l) (hx : itF x l = 0) (hl : l.length < 1000) : StV (l ++ [x]) := by
  refine ⟨by simp; omega, fun j hj => ?_⟩
  rw [fltS_at hj]
  by_cases c : j < l.length
  · rw [List.getElem_append_left c, List.take_append_of_le_length (by omega), ← fltS_at c]
    exact h.2 j c
  · have : j = l.length := by simp at hj; omega
    subst this
    simpa using hx
def nbk (k : Int) : Bn := ⟨9, 1, 0, 2, 1, 0, 1 + k, 2, ⟨#[120, 121]⟩⟩
def nbX (k : Int) (l : List Itm) : Itm := ⟨nbk k, 1, 0, 0, ordS l⟩
theorem nbk_v {k : Int} (h0 : 0 ≤ k) (h1 : k < 200) : bcode (nbk k) = 0 := by
  unfold bcode nbk
  simp only
  have hI : okI 9 1 0 := (by unfold okI; omega)
  have hN : okN 2 1 0 (1 + k) 2 := (by unfold okN; omega)
  have hs : (⟨#[120, 121]⟩ : ByteArray).size = 2 := rfl
  rcases buC_cases 9 1 0 2 1 0 (1 + k) 2 (⟨#[120, 121]⟩ : ByteArray).size with h | h | h | h | h | h
  · exact absurd hI h.2
  · exact absurd hN h.2.2
  · exfalso; have h9 := h.2.2.2; omega
  · exfalso; have h9 := h.2.2.2.2; omega
  · exfalso; have h9 := h.2.2.2.2.2; omega
  · exact h.1
structure MadeS (M : List Itm) : Prop where
  v : StV M
  le : M.length ≤ 12
  gd : ∀ x ∈ M, GdI x
  no : ∀ x ∈ M, x.b.no ≤ 3
  od : ordS M ≤ 100 ∧ 0 ≤ ordS M
theorem madeS {zs : List Int} {M : List Itm} (h : M = mkL zs M.length) (hl : M.length ≤ 12) : MadeS M := by
  obtain ⟨n, hn⟩ : ∃ n, M.length = n := ⟨_, rfl⟩
  rw [hn] at h hl
  refine ⟨by rw [h]; exact mkL_v zs n hl, by omega, by rw [h]; exact mkL_gd zs n, ?_, ?_⟩
  · rw [h]
    intro x hx
    obtain ⟨i, hi, rfl⟩ := List.getElem_of_mem hx
    rw [mkL_at]
    show 1 + zs.getD i 0 % 1048576 % 3 ≤ 3
    omega
  · rw [h]
    cases n with
    | zero => exact show ordS [] ≤ 100 ∧ 0 ≤ ordS [] from ⟨by decide, by decide⟩
    | succ n =>
      rw [mkL_succ, ordS_last (List.getLast?_concat)]
      have := mkI_od (zs.getD n 0) n
      omega
theorem place_9 {M : List Itm} (h : MadeS M) : placeS M (9, 1, 0) = -1 := placeS_none fun j hj e => by
  have h1 := h.no _ (List.getElem_mem hj)
  have h2 : M[j].b.no = 9 := (Prod.mk.inj e).1
  omega
theorem d_add {M : List Itm} (h : MadeS M) {k : Int} (h0 : 0 ≤ k) (h1 : k < 200) : addS M (nbk k) = (M ++ [nbX k M], 0) := by
  have hp : placeS M (bid (nbk k)) = -1 := place_9 h
  rw [addS_eq, chkS_good h.v, if_neg (by simp), nbk_v h0 h1, if_neg (by simp), hp, if_neg (by decide), if_neg (by have := h.le; have := h.od; omega)]
  rfl
theorem d_ok {M : List Itm} (h : MadeS M) {k : Int} (h0 : 0 ≤ k) (h1 : k < 200) : StV (M ++ [nbX k M]) := by
  refine h.v.snoc ?_ (by have := h.le; omega)
  have he : itE (nbX k M) = 0 := (by
    unfold itE
    have hb : bcode (nbX k M).b = 0 := nbk_v h0 h1
    have ho := h.od
    rw [if_neg (by rw [hb]; simp)]
    show (if (1 : Int) ≠ 1 ∧ (1 : Int) ≠ 2 then (12 : Int) else if (1 : Int) = 2 ∧ ((0 : Int) < 1 ∨ 16 < (0 : Int)) then 2 else if (1 : Int) = 1 ∧ ((0 : Int) ≠ 0 ∨ (0 : Int) ≠ 0) then 12 else if ordS M < 0 ∨ 1099511627776 < ordS M then 2 else 0) = 0
    rw [if_neg (by omega), if_neg (by omega), if_neg (by omega), if_neg (by omega)])
  unfold itF
  rw [if_neg (by rw [he]; simp), if_neg, if_neg]
  · intro hm
    obtain ⟨x, hx, e⟩ := List.mem_map.1 hm
    have h3 := h.no x hx
    have h2 : x.b.no = 9 := (Prod.mk.inj e).1
    omega
  · cases hg : M.getLast? with
    | none => simp
    | some y =>
      have e : (nbX k M).od = y.od + 1 := ordS_last hg
      simp only [Option.elim_some, e, decide_eq_true_eq]
      omega
theorem d_find {M : List Itm} (h : MadeS M) {k : Int} (h0 : 0 ≤ k) (h1 : k < 200) : findS (M ++ [nbX k M]) (9, 1, 0) = ((M.length : Int), 0) := by
  unfold findS
  have hp : placeS (M ++ [nbX k M]) (9, 1, 0) = (M.length : Int) := placeS_some (i := M.length) (by simp) (fun j hj e => by
    rw [List.getElem_append_left hj] at e
    have h3 := h.no _ (List.getElem_mem hj)
    have h2 : M[j].b.no = 9 := (Prod.mk.inj e).1
    omega) (by simp; rfl)
  rw [chkS_good (d_ok h h0 h1), if_neg (by simp), hp, if_neg (by omega)]
theorem d_drop {M : List Itm} (h : MadeS M) {k : Int} (h0 : 0 ≤ k) (h1 : k < 200) : dropS (M ++ [nbX k M]) (9, 1, 0) = (M, 0) := by
  unfold dropS
  rw [d_find h h0 h1, if_neg (by simp)]
  simp [List.eraseIdx_append_of_length_le]
theorem d_miss {M : List Itm} (h : MadeS M) : findS M (9, 1, 0) = (0, 8) := by
  unfold findS
  rw [chkS_good h.v, if_neg (by simp), place_9 h, if_pos (by decide)]
theorem d_size {M : List Itm} (h : MadeS M) : sizeS M = (sumS M, 0) := by
  unfold sizeS
  rw [chkS_good h.v, if_neg (by simp)]
theorem d_size2 {M : List Itm} (h : MadeS M) {k : Int} (h0 : 0 ≤ k) (h1 : k < 200) : sizeS (M ++ [nbX k M]) = (IntKind.u64.wrap (sumS M + IntKind.u64.wrap (szI (nbk k))), 0) := by
  unfold sizeS
  rw [chkS_good (d_ok h h0 h1), if_neg (by simp), sumS_snoc]
  rfl
theorem d_gd {M : List Itm} (h : MadeS M) (k : Int) : ∀ x ∈ M ++ [nbX k M], GdI x := by
  intro x hx
  rcases List.mem_append.1 hx with h1 | h1
  · exact h.gd x h1
  · obtain rfl := List.mem_singleton.1 h1
    exact ⟨show 2 ≤ maxLen by unfold maxLen; omega, show (0 : Int) ≤ 1 by decide⟩
end Go.Proofs.YtahopnlibmiafaaDoor
