/- Parts of a proof, printed by a program of mine out of my texts: RpAsc, RpOk, RpCnt, RpLte, RpSrt, RpLtW, RpLtF, RpTxt. -/
import Derived.Sort.OwnSortedInts
import Derived.Deep.RegionHeld3
import Derived.Lib.AppendIntMem
import Derived.Lib.ItoaLen
import Derived.Test.YthfmkkkdjgkaoaaGreatDoorMH
import Derived.Test.YthfmkkkdjgkaoaaGreatDoorMI
import Derived.Test.YthfmkkkdjgkaoaaGreatDoorMJ
import Derived.Test.YthfmkkkdjgkaoaaGreatDoorMM
import Derived.Test.YthfmkkkdjgkaoaaGreatDoorMSH
set_option linter.unusedSimpArgs false
set_option linter.unusedVariables false
namespace Go.Proofs.YthfmkkkdjgkaoaaGreatDoor
theorem sorted_is {l m : List Int} (hp : m.Perm l) (hs : m.Pairwise (fun a b => a ≤ b)) : m = ascO l := by
  have hp2 : m.Perm (ascO l) := hp.trans (isort_perm _ _).symm
  have hs2 := ascO_srt l
  revert hp2 hs hs2
  generalize ascO l = r
  clear hp l
  intro hs hp hr
  induction m generalizing r with
  | nil => exact (List.Perm.nil_eq hp)
  | cons a m ih =>
    cases r with
    | nil => exact absurd hp.symm.nil_eq (by simp)
    | cons c r =>
      obtain ⟨a1, a2⟩ := List.pairwise_cons.1 hs
      obtain ⟨c1, c2⟩ := List.pairwise_cons.1 hr
      have e : a = c := by
        have h1 : a ∈ c :: r := hp.mem_iff.1 (by simp)
        have h2 : c ∈ a :: m := hp.mem_iff.2 (by simp)
        have h3 : c ≤ a := by
          rcases List.mem_cons.1 h1 with h | h
          · omega
          · exact c1 a h
        have h4 : a ≤ c := by
          rcases List.mem_cons.1 h2 with h | h
          · omega
          · exact a1 c h
        omega
      subst e
      rw [ih r a2 (List.Perm.cons_inv hp) c2]
end Go.Proofs.YthfmkkkdjgkaoaaGreatDoor
namespace Go.Proofs.YthfmkkkdjgkaoaaGreatDoor
theorem trcC_ok {l : List Oc} (h0 : l.length ≤ 5000) (h1 : ∀ i (h : i < l.length), oneC l[i] = 0) (h2 : ∀ i (h : i < l.length), 0 < i → (l[i - 1]'(by omega)).ti ≤ l[i].ti) : trcC l = (0, 0) := by
  unfold trcC
  rw [if_neg (by omega), firC_none]
  · rfl
  · intro j hj
    rw [trcAt_eq hj, if_neg (by simpa using h1 j hj), if_neg (by
      rintro ⟨h3, h4⟩
      have := h2 j hj h3
      omega)]
theorem runC_ok {b : List Bn} {l : List Oc} (h : RunV b l) : runC b l = (0, 0) := by
  have h1 := h.len
  unfold runC
  rw [if_neg (by omega), firC_none (fun j hj => ?_), trcC_ok h.tlen h.one h.ord]
  · simp only [Option.getD_none]
    rw [if_neg (by simp), firC_none]
    · rfl
    · intro j hj
      rw [misAt_eq hj, if_neg]
      rintro ⟨h3, h4⟩
      exact h4 (h.mis j hj h3)
  · rw [bunAt_eq hj, if_neg (by simpa using h.bun j hj), if_neg]
    intro hm
    have hd := h.ids
    rw [← List.take_append_drop j b, List.drop_eq_getElem_cons hj, List.map_append, List.map_cons, List.nodup_append] at hd
    exact hd.2.2 _ hm _ (by simp) rfl
structure MkBs (b : List Bn) : Prop where
  ok : ∀ i (h : i < b.length), bcode b[i] = 0
  sq : ∀ i (h : i < b.length), b[i].sq = i
  no : ∀ i (h : i < b.length), 1 ≤ b[i].no ∧ b[i].no ≤ 4
theorem MkBs.ids {b : List Bn} (h : MkBs b) : (b.map bid).Nodup := by
  rw [List.Nodup, List.pairwise_iff_getElem]
  intro i j hi hj hij e
  rw [List.length_map] at hi hj
  rw [List.getElem_map, List.getElem_map] at e
  have e2 := congrArg (fun x : Id3 => x.2.1) e
  simp only [bid] at e2
  rw [h.sq i hi, h.sq j hj] at e2
  omega
structure MkOs (b : List Bn) (l : List Oc) (t : Int) : Prop where
  one : ∀ i (h : i < l.length), oneC l[i] = 0
  ord : ∀ i (h : i < l.length), 0 < i → (l[i - 1]'(by omega)).ti ≤ l[i].ti
  le : ∀ i (h : i < l.length), l[i].ti ≤ t
  mis : ∀ i (h : i < l.length), useI l[i].ki = true → oid l[i] ∈ b.map bid
theorem MkOs.snoc {b : List Bn} {l : List Oc} {t : Int} {o : Oc} (h : MkOs b l t) (h1 : oneC o = 0) (h2 : t ≤ o.ti) (h3 : useI o.ki = true → oid o ∈ b.map bid) : MkOs b (l ++ [o]) o.ti := by
  have hlt : ∀ i, i < (l ++ [o]).length → ¬ i < l.length → i = l.length := fun i h1 h2 => by simp at h1; omega
  refine ⟨fun i hi => ?_, fun i hi h0 => ?_, fun i hi => ?_, fun i hi hu => ?_⟩
  · by_cases e : i < l.length
    · rw [List.getElem_append_left e]; exact h.one i e
    · obtain rfl := hlt i hi e
      rw [List.getElem_append_right (Nat.le_refl _)]; simpa using h1
  · by_cases e : i < l.length
    · rw [List.getElem_append_left e, List.getElem_append_left (by omega)]; exact h.ord i e h0
    · obtain rfl := hlt i hi e
      rw [List.getElem_append_right (Nat.le_refl _), List.getElem_append_left (by omega)]
      have := h.le (l.length - 1) (by omega)
      simp only [Nat.sub_self, List.getElem_cons_zero]
      omega
  · by_cases e : i < l.length
    · rw [List.getElem_append_left e]
      have := h.le i e
      omega
    · obtain rfl := hlt i hi e
      rw [List.getElem_append_right (Nat.le_refl _)]; simp
  · by_cases e : i < l.length
    · rw [List.getElem_append_left e] at hu ⊢; exact h.mis i e hu
    · obtain rfl := hlt i hi e
      rw [List.getElem_append_right (Nat.le_refl _)] at hu ⊢
      simp only [Nat.sub_self, List.getElem_cons_zero] at hu ⊢
      exact h3 hu
theorem made_run {b : List Bn} {l : List Oc} {t : Int} (h : MkBs b) (h2 : MkOs b l t) (hb : b.length ≤ 1000) (hl : l.length ≤ 5000) : RunV b l :=
  ⟨hb, h.ok, h.ids, hl, h2.one, h2.ord, h2.mis⟩
end Go.Proofs.YthfmkkkdjgkaoaaGreatDoor
namespace Go.Proofs.YthfmkkkdjgkaoaaGreatDoor
open Go.RowKit
def RetI (L : List Int) (c : Int) (w : World) (e : Ending) (w' : World) : Prop := ∃ a cap, e = .returned (.tuple #[.slice a L.length cap, .int .i64 c]) ∧ SRow ic 1 w' a cap L ∧ Below w.heap.size w w'
theorem RetI.err (c : Int) {w w' : World} (h : Below w.heap.size w w') : RetI [] c w (.returned (.tuple #[.slice none 0 0, .int .i64 c])) w' := ⟨none, 0, rfl, srow_nil w', h⟩
def prioC (b : List Bn) (l : List Oc) (prio : Int) : Int := if (runC b l).1 ≠ 0 then (runC b l).1 else if prio < -1 ∨ 2 < prio then 2 else 0
theorem prioC_cases (b : List Bn) (l : List Oc) (prio : Int) : ((runC b l).1 ≠ 0 ∧ prioC b l prio = (runC b l).1) ∨ ((runC b l).1 = 0 ∧ prio < -1 ∧ prioC b l prio = 2) ∨ ((runC b l).1 = 0 ∧ ¬ prio < -1 ∧ 2 < prio ∧ prioC b l prio = 2) ∨ ((runC b l).1 = 0 ∧ ¬ prio < -1 ∧ ¬ 2 < prio ∧ prioC b l prio = 0) := by
  unfold prioC
  by_cases h : (runC b l).1 = 0
  · rw [if_neg (by simp [h])]
    by_cases h1 : prio < -1
    · exact .inr (.inl ⟨h, h1, if_pos (.inl h1)⟩)
    · by_cases h2 : 2 < prio
      · exact .inr (.inr (.inl ⟨h, h1, h2, if_pos (.inr h2)⟩))
      · exact .inr (.inr (.inr ⟨h, h1, h2, if_neg (by simp [h1, h2])⟩))
  · exact .inl ⟨h, if_pos h⟩
def couR (b : List Bn) (l : List Oc) (prio : Int) : List Int := if prioC b l prio = 0 then couO b l prio else []
theorem prioC_v {b : List Bn} {l : List Oc} {prio : Int} (h : prioC b l prio = 0) : RunV b l ∧ -1 ≤ prio ∧ prio ≤ 2 := by
  rcases prioC_cases b l prio with ⟨h1, h2⟩ | ⟨h1, h2, h3⟩ | ⟨h1, h2, h3, h4⟩ | ⟨h1, h2, h3, h4⟩
  · rw [h2] at h; exact absurd h h1
  · rw [h3] at h; exact absurd h (by decide)
  · rw [h4] at h; exact absurd h (by decide)
  · exact ⟨runC_zero h1, by omega, by omega⟩
theorem RunV.kinds {b : List Bn} {l : List Oc} (h : RunV b l) : ∀ x ∈ l, 0 ≤ x.ki ∧ x.ki < 16 := fun x hx => by
  obtain ⟨i, hi, rfl⟩ := List.getElem_of_mem hx
  have h1 := h.one i hi
  unfold oneC at h1
  split at h1
  · cases h1
  · rename_i h2; omega
theorem srow_cou {w : World} {g : Nat} {f : Nat → Int} (h : blk w g = some (outI f)) : SRow ic 1 w (some ⟨g, 0, none⟩) 6 [f 0, f 1, f 2, f 3, f 4, f 5] := by
  refine ⟨Nat.le_refl _, by unfold maxLen; omega, by simp, fun _ => ⟨g, 0, rfl, blk_lt h, fun i hi j u hj => ?_⟩⟩
  have hi : i < 6 := hi
  have hj0 : j = 0 := by
    have := (List.getElem?_eq_some_iff.1 hj).1
    rw [ic_len] at this; omega
  subst hj0
  rw [blk_cell h]
  simp only [Nat.zero_add, Nat.mul_one, Nat.add_zero]
  rw [outI_at f hi]
  rw [← hj]
  match i, hi with
  | 0, _ => rfl
  | 1, _ => rfl
  | 2, _ => rfl
  | 3, _ => rfl
  | 4, _ => rfl
  | 5, _ => rfl
set_option maxRecDepth 100000 in
set_option maxHeartbeats 1600000 in
theorem pcounts_any (ab al : Option Addr) (cb cl : Nat) (b : List Bn) (l : List Oc) (prio : Int) (hd : ∀ x ∈ b, x.da.size ≤ maxLen) (w : World) (hT : FTab w) (hb : SRow bn 9 w ab cb b) (hl : SRow oc 7 w al cl l) :
    Calls Tryz.prog 25 #[.slice ab b.length cb, .slice al l.length cl, .int .i64 prio] w (RetI (couR b l prio) (prioC b l prio) w) := by
  have go : ∀ W, Below w.heap.size w W → Calls Tryz.prog 30 #[.slice ab b.length cb, .slice al l.length cl] W fun e w' => e = .returned (.tuple #[.agg #[.slice ab b.length cb, .slice al l.length cl], .int .i64 (runC b l).1]) ∧ Below W.heap.size W w' := fun W hB => open_any ab al cb cl b l hd W (hT.on hB) (hb.below hB) (hl.below hB)
  have gc : prioC b l prio = 0 → ∀ W, Below w.heap.size w W → Calls Tryz.prog 39 #[.agg #[.slice ab b.length cb, .slice al l.length cl], .int .i64 prio] W fun e w' => e = .returned (.agg (outI (cntO b l prio))) ∧ Below W.heap.size W w' := fun h W hB => counts_any ab al cb cl b l prio (prioC_v h).1.len (prioC_v h).1.kinds W (hb.below hB) (hl.below hB)
  have hc := prioC_cases b l prio
  obtain ⟨p, hp⟩ : ∃ p, prioC b l prio = p := ⟨_, rfl⟩
  have hcr : couR b l prio = if p = 0 then couO b l prio else [] := by unfold couR; rw [hp]
  obtain ⟨r, hr⟩ : ∃ r, (runC b l).1 = r := ⟨_, rfl⟩
  obtain ⟨L, hL⟩ : ∃ L, couR b l prio = L := ⟨_, rfl⟩
  rw [hp] at hc gc ⊢
  rw [hr] at hc go
  rw [hL] at hcr ⊢
  have GO := Lib.hid go; have GC := Lib.hid gc
  clear go gc hp hr hL hd hT hb hl
  rcases hc with ⟨h1, rfl⟩ | ⟨rfl, h2, rfl⟩ | ⟨rfl, h2, h3, rfl⟩ | ⟨rfl, h2, h3, rfl⟩
  · have q0 : (p != 0) = true := by simpa using h1
    rw [if_neg h1] at hcr
    subst hcr
    clear h1 GC
    go_enter Tryz.func25, Tryz.ntmps25
    go_wp2_with (go_at_call 30; (with_reducible refine (GO.out _ (by (repeat (first | (with_reducible assumption) | (with_reducible exact Below.refl _ _) | (with_reducible refine beld_drew ?_) | ((with_reducible refine bset' ?_ ?_); (first | (focus (dsimp only; assumption)) | (focus (simp; done)) | (focus (dsimp only; omega)))) | (with_reducible refine belt_alloc ?_) | ((with_reducible refine zeroed_below' ?_ ?_); (first | (focus (simp; done)) | (focus (dsimp only; omega)))) | (with_reducible refine bt ?_ (by assumption)))))).mono ?_); rintro e w2 ⟨rfl, h2⟩)
    go_ret2
    exact RetI.err p (by (repeat (first | (with_reducible assumption) | (with_reducible exact Below.refl _ _) | (with_reducible refine beld_drew ?_) | ((with_reducible refine bset' ?_ ?_); (first | (focus (dsimp only; assumption)) | (focus (simp; done)) | (focus (dsimp only; omega)))) | (with_reducible refine belt_alloc ?_) | ((with_reducible refine zeroed_below' ?_ ?_); (first | (focus (simp; done)) | (focus (dsimp only; omega)))) | (with_reducible refine bt ?_ (by assumption)))))
  · rw [if_neg (by decide)] at hcr
    subst hcr
    have q0 : ((0 : Int) != 0) = false := rfl
    have q1 : decide (prio < -1) = true := decide_eq_true h2
    clear GC
    go_enter Tryz.func25, Tryz.ntmps25
    go_wp2_with (go_at_call 30; (with_reducible refine (GO.out _ (by (repeat (first | (with_reducible assumption) | (with_reducible exact Below.refl _ _) | (with_reducible refine beld_drew ?_) | ((with_reducible refine bset' ?_ ?_); (first | (focus (dsimp only; assumption)) | (focus (simp; done)) | (focus (dsimp only; omega)))) | (with_reducible refine belt_alloc ?_) | ((with_reducible refine zeroed_below' ?_ ?_); (first | (focus (simp; done)) | (focus (dsimp only; omega)))) | (with_reducible refine bt ?_ (by assumption)))))).mono ?_); rintro e w2 ⟨rfl, h2⟩)
    go_ret2
    exact RetI.err 2 (by (repeat (first | (with_reducible assumption) | (with_reducible exact Below.refl _ _) | (with_reducible refine beld_drew ?_) | ((with_reducible refine bset' ?_ ?_); (first | (focus (dsimp only; assumption)) | (focus (simp; done)) | (focus (dsimp only; omega)))) | (with_reducible refine belt_alloc ?_) | ((with_reducible refine zeroed_below' ?_ ?_); (first | (focus (simp; done)) | (focus (dsimp only; omega)))) | (with_reducible refine bt ?_ (by assumption)))))
  · rw [if_neg (by decide)] at hcr
    subst hcr
    have q0 : ((0 : Int) != 0) = false := rfl
    have q1 : decide (prio < -1) = false := decide_eq_false h2
    have q2 : decide (2 < prio) = true := decide_eq_true h3
    clear GC
    go_enter Tryz.func25, Tryz.ntmps25
    go_wp2_with (go_at_call 30; (with_reducible refine (GO.out _ (by (repeat (first | (with_reducible assumption) | (with_reducible exact Below.refl _ _) | (with_reducible refine beld_drew ?_) | ((with_reducible refine bset' ?_ ?_); (first | (focus (dsimp only; assumption)) | (focus (simp; done)) | (focus (dsimp only; omega)))) | (with_reducible refine belt_alloc ?_) | ((with_reducible refine zeroed_below' ?_ ?_); (first | (focus (simp; done)) | (focus (dsimp only; omega)))) | (with_reducible refine bt ?_ (by assumption)))))).mono ?_); rintro e w2 ⟨rfl, h2⟩)
    go_ret2
    exact RetI.err 2 (by (repeat (first | (with_reducible assumption) | (with_reducible exact Below.refl _ _) | (with_reducible refine beld_drew ?_) | ((with_reducible refine bset' ?_ ?_); (first | (focus (dsimp only; assumption)) | (focus (simp; done)) | (focus (dsimp only; omega)))) | (with_reducible refine belt_alloc ?_) | ((with_reducible refine zeroed_below' ?_ ?_); (first | (focus (simp; done)) | (focus (dsimp only; omega)))) | (with_reducible refine bt ?_ (by assumption)))))
  · rw [if_pos rfl] at hcr
    subst hcr
    have q0 : ((0 : Int) != 0) = false := rfl
    have q1 : decide (prio < -1) = false := decide_eq_false h2
    have q2 : decide (2 < prio) = false := decide_eq_false h3
    replace GC := Lib.hid (GC.out rfl)
    have hcc : couO b l prio = [cntO b l prio 0, cntO b l prio 1, cntO b l prio 2, cntO b l prio 3, cntO b l prio 4, cntO b l prio 5] := rfl
    rw [hcc]
    obtain ⟨f, hf⟩ : ∃ f, cntO b l prio = f := ⟨_, rfl⟩
    rw [hf] at GC ⊢
    clear hcc hf
    unfold outI at GC
    go_enter Tryz.func25, Tryz.ntmps25
    go_wp2_with (first | (go_at_call 30; (with_reducible refine (GO.out _ (by (repeat (first | (with_reducible assumption) | (with_reducible exact Below.refl _ _) | (with_reducible refine beld_drew ?_) | ((with_reducible refine bset' ?_ ?_); (first | (focus (dsimp only; assumption)) | (focus (simp; done)) | (focus (dsimp only; omega)))) | (with_reducible refine belt_alloc ?_) | ((with_reducible refine zeroed_below' ?_ ?_); (first | (focus (simp; done)) | (focus (dsimp only; omega)))) | (with_reducible refine bt ?_ (by assumption)))))).mono ?_); rintro e w2 ⟨rfl, h2⟩; (have B2 : Below w.heap.size w w2 := (by (repeat (first | (with_reducible assumption) | (with_reducible exact Below.refl _ _) | (with_reducible refine beld_drew ?_) | ((with_reducible refine bset' ?_ ?_); (first | (focus (dsimp only; assumption)) | (focus (simp; done)) | (focus (dsimp only; omega)))) | (with_reducible refine belt_alloc ?_) | ((with_reducible refine zeroed_below' ?_ ?_); (first | (focus (simp; done)) | (focus (dsimp only; omega)))) | (with_reducible refine bt ?_ (by assumption))))))) | (go_at_call 39; (with_reducible refine (GC.out _ (by (repeat (first | (with_reducible assumption) | (with_reducible exact Below.refl _ _) | (with_reducible refine beld_drew ?_) | ((with_reducible refine bset' ?_ ?_); (first | (focus (dsimp only; assumption)) | (focus (simp; done)) | (focus (dsimp only; omega)))) | (with_reducible refine belt_alloc ?_) | ((with_reducible refine zeroed_below' ?_ ?_); (first | (focus (simp; done)) | (focus (dsimp only; omega)))) | (with_reducible refine bt ?_ (by assumption)))))).mono ?_); rintro e w3 ⟨rfl, h3⟩))
    have hB3 := h3.size
    go_ret2
    exact ⟨_, 6, rfl, srow_cou (f := f) (blk_alloc_new _ _ _ rfl), by (repeat (first | (with_reducible assumption) | (with_reducible exact Below.refl _ _) | (with_reducible refine beld_drew ?_) | ((with_reducible refine bset' ?_ ?_); (first | (focus (dsimp only; assumption)) | (focus (simp; done)) | (focus (dsimp only; omega)))) | (with_reducible refine belt_alloc ?_) | ((with_reducible refine zeroed_below' ?_ ?_); (first | (focus (simp; done)) | (focus (dsimp only; omega)))) | (with_reducible refine bt ?_ (by assumption))))⟩
end Go.Proofs.YthfmkkkdjgkaoaaGreatDoor
namespace Go.Proofs.YthfmkkkdjgkaoaaGreatDoor
open Go.RowKit
theorem bcode_id {x : Bn} (h : bcode x = 0) : idC x.no x.sq x.of = 0 := by
  rcases idC_cases x.no x.sq x.of with ⟨h0, _⟩ | ⟨h0, h1⟩
  · exact h0
  · unfold bcode buC at h
    rw [if_pos h1] at h
    exact absurd h (by decide)
theorem RunV.ticks {b : List Bn} {l : List Oc} (h : RunV b l) : ∀ x ∈ l, 0 ≤ x.ti ∧ x.ti ≤ 1099511627776 := fun x hx => by
  obtain ⟨i, hi, rfl⟩ := List.getElem_of_mem hx
  have h1 := h.one i hi
  unfold oneC at h1
  split at h1
  · cases h1
  · split at h1
    · cases h1
    · rename_i h2; omega
theorem RunV.trc {b : List Bn} {l : List Oc} (h : RunV b l) : (trcC l).1 = 0 := by rw [trcC_ok h.tlen h.one h.ord]
theorem RunV.mem {b : List Bn} {l : List Oc} (h : RunV b l) : ∀ x ∈ b, bcode x = 0 := fun x hx => by
  obtain ⟨i, hi, rfl⟩ := List.getElem_of_mem hx
  exact h.bun i hi
def lats (f : List Bn) (l : List Oc) : List Int := f.filterMap fun x => latO l (bid x)
theorem lats_snoc (f : List Bn) (l : List Oc) (x : Bn) : lats (f ++ [x]) l = lats f l ++ (latO l (bid x)).toList := by
  unfold lats
  rw [List.filterMap_append]
  cases h : latO l (bid x) <;> simp [h]
theorem lats_len (f : List Bn) (l : List Oc) : (lats f l).length ≤ f.length := List.length_filterMap_le _ _
theorem latO_bd {l : List Oc} {k : Id3} {n : Int} (ht : ∀ x ∈ l, 0 ≤ x.ti ∧ x.ti ≤ 1099511627776) (h : latO l k = some n) : -1099511627776 ≤ n ∧ n ≤ 1099511627776 := by
  have hc := latV_cases l k ht _ rfl
  have e : latV l k = (n, 0) := by unfold latV; rw [h]; rfl
  rw [e] at hc
  rcases hc with ⟨_, h1⟩ | ⟨a, d, _, ha, hd, h1⟩
  · cases h1
  · rcases h1 with ⟨_, h1⟩ | ⟨_, _, h1⟩ | ⟨_, _, h1⟩
    · cases h1
    · cases h1
    · cases h1; omega
theorem lats_bd {f : List Bn} {l : List Oc} (ht : ∀ x ∈ l, 0 ≤ x.ti ∧ x.ti ≤ 1099511627776) : ∀ n ∈ lats f l, -1099511627776 ≤ n ∧ n ≤ 1099511627776 := fun n hn => by
  obtain ⟨x, _, hx⟩ := List.mem_filterMap.1 hn
  exact latO_bd ht hx
end Go.Proofs.YthfmkkkdjgkaoaaGreatDoor
namespace Go.Proofs.YthfmkkkdjgkaoaaGreatDoor
open Go.RowKit
theorem ms_asc (zs : List Int) : (zs.mergeSort fun x y => decide (x ≤ y)) = ascO zs := by
  refine sorted_is (List.mergeSort_perm _ _) ?_
  have h := List.pairwise_mergeSort (le := fun (x y : Int) => decide (x ≤ y)) (fun a b c h1 h2 => by simp at h1 h2 ⊢; omega) (fun a b => by simp; omega) zs
  exact h.imp (fun h => by simpa using h)
theorem psortI_any (base g cap : Nat) (zs : List Int) (h0 : 0 < zs.length) (hl : zs.length ≤ 100000) (w : World) (ho : w.ownsRow base 3 1 (.slice (some ⟨g, 0, none⟩) zs.length cap) zs.length (rowC ic zs)) :
    Calls Tryz.prog 67 #[.slice (some ⟨g, 0, none⟩) zs.length cap] w fun e w' => e = .returned (.tuple #[]) ∧ w'.ownsRow base 3 1 (.slice (some ⟨g, 0, none⟩) zs.length cap) zs.length (rowC ic (ascO zs)) ∧ w.grownBy w' (some g) := by
  obtain ⟨_, h2⟩ := ho
  rcases h2 with ⟨h2, _⟩ | ⟨g', cap', cur, h3, h4, h5, h6, h7, h8, h9⟩
  · cases h2
  · simp only [Value.slice.injEq, Option.some.injEq, Addr.mk.injEq] at h3
    obtain ⟨⟨rfl, _⟩, _, rfl⟩ := h3
    rw [rowC_ic, Nat.mul_one] at h9
    have hH := holds_of_blockI h5 h9
    have hb : g < w.heap.size := (Array.getElem?_eq_some_iff.1 h5).1
    refine (Tryz.slices_Sort_int g 0 cap zs w hH hb (by omega)).mono ?_
    rintro e w' ⟨he, n, os, rfl⟩
    refine ⟨he, ?_, grownBy_sortedI _⟩
    rw [ms_asc, rowC_ic]
    exact ownsRow_sortedI (ascO_len zs) h4 h5 h6 h7 h8
end Go.Proofs.YthfmkkkdjgkaoaaGreatDoor
namespace Go.Proofs.YthfmkkkdjgkaoaaGreatDoor
open Go.RowKit
theorem owns_setNe {w : World} {base : Nat} {e : TypeId} {k g cap n : Nat} {xs : List Value} (h : w.ownsRow base e k (.slice (some ⟨g, 0, none⟩) n cap) n xs) {p : Addr} (hp : g ≠ p.block) (u : Value) : (w.setCell p u).ownsRow base e k (.slice (some ⟨g, 0, none⟩) n cap) n xs := by
  obtain ⟨h1, h2⟩ := h
  refine ⟨h1, ?_⟩
  rcases h2 with ⟨h2, _⟩ | ⟨g', cap', cur, h3, h4, h5, h6⟩
  · cases h2
  · simp only [Value.slice.injEq, Option.some.injEq, Addr.mk.injEq] at h3
    obtain ⟨⟨rfl, _⟩, _, rfl⟩ := h3
    exact .inr ⟨g, cap, cur, rfl, h4, by rw [Below.heap_setCell w p u g hp]; exact h5, h6⟩
theorem cell_ic {w : World} {g j : Nat} {L : List Int} (hj : j < L.length) (h : w.rangeAt g (j * 1) (ic L[j])) : w.cell? ⟨g, j, none⟩ = some (.int .i64 L[j]) := by
  have := h 0 _ rfl
  simpa using this
theorem sum_take {L : List Int} (hb : ∀ n ∈ L, -1099511627776 ≤ n ∧ n ≤ 1099511627776) (j : Nat) : -(j : Int) * 1099511627776 ≤ sumI (L.take j) ∧ sumI (L.take j) ≤ (j : Int) * 1099511627776 := by
  have h := sum_bounds (L.take j) (-1099511627776) 1099511627776 (fun x hx => hb x (List.mem_of_mem_take hx))
  have hl : (L.take j).length ≤ j := List.length_take_le _ _
  omega
set_option maxRecDepth 100000 in
set_option maxHeartbeats 6400000 in
theorem late_any (ab al : Option Addr) (cb cl : Nat) (b : List Bn) (l : List Oc) (prio : Int) (hv : RunV b l) (w : World) (hT : FTab w) (hb : SRow bn 9 w ab cb b) (hl : SRow oc 7 w al cl l) :
    Calls Tryz.prog 40 #[.agg #[.slice ab b.length cb, .slice al l.length cl], .int .i64 prio] w fun e w' => e = .returned (.agg (dv (dlyO (allO b l prio)))) ∧ Below w.heap.size w w' := by
  have gw : ∀ W, Below w.heap.size w W → Calls Tryz.prog 64 #[.agg #[.slice ab b.length cb, .slice al l.length cl], .int .i64 prio] W (RowB W.heap.size (b.filter (inP prio)) W) := fun W hB => with_any ab cb b _ prio (by have := hv.len; omega) W (hb.below hB)
  have gl : ∀ x ∈ b.filter (inP prio), ∀ W, Below w.heap.size w W → Calls Tryz.prog 65 #[.slice al l.length cl, .agg #[.int .i64 x.no, .int .u64 x.sq, .int .i64 x.of]] W fun e w' => e = .returned (.tuple #[.int .i64 (latV l (bid x)).1, .int .i64 (latV l (bid x)).2]) ∧ Below W.heap.size W w' := fun x hx W hB => platency_any al cl l (bid x) hv.tlen hv.trc (bcode_id (hv.mem x (List.mem_filter.1 hx).1)) hv.ticks W (hT.on hB) (hl.below hB)
  have hbd : ∀ n ∈ lats (b.filter (inP prio)) l, -1099511627776 ≤ n ∧ n ≤ 1099511627776 := lats_bd hv.ticks
  have hfl : (b.filter (inP prio)).length ≤ 1000 := Nat.le_trans (List.length_filter_le _ _) hv.len
  have ea : allO b l prio = lats (b.filter (inP prio)) l := rfl
  rw [ea]
  obtain ⟨f, hf⟩ : ∃ f, b.filter (inP prio) = f := ⟨_, rfl⟩
  rw [hf] at gw gl hbd hfl ⊢
  have GW := Lib.hid gw; have GL := Lib.hid gl; have HBD := Lib.hid hbd
  clear gw gl hbd hf ea hv hT hb hl
  go_enter Tryz.func40, Tryz.ntmps40
  go_wp2_with (go_at_call 64; (with_reducible refine (GW.out _ (by (repeat (first | (with_reducible assumption) | (with_reducible exact Below.refl _ _) | (with_reducible refine beld_drew ?_) | ((with_reducible refine bset' ?_ ?_); (first | (focus (dsimp only; assumption)) | (focus (simp; done)) | (focus (dsimp only; omega)))) | (with_reducible refine belt_alloc ?_) | ((with_reducible refine zeroed_below' ?_ ?_); (first | (focus (simp; done)) | (focus (dsimp only; omega)))) | (with_reducible refine bt ?_ (by assumption)))))).mono ?_); rintro e w3 ⟨v3, rfl, ho3, h3⟩; (obtain ⟨a3, c3, rfl, hS3, _⟩ := srow_of_owns bn_len ho3); (have kr : blk w3 w.heap.size = some #[.slice ab b.length cb, .slice al l.length cl] := (by (apply blk_to; (focus (repeat (first | (with_reducible assumption) | (with_reducible apply blk_drew) | (with_reducible apply blk_set) | ((with_reducible apply blk_other'); (first | (focus (dsimp only; assumption)) | (focus (simp; done)) | (focus (dsimp only; omega)))) | ((with_reducible apply blk_alloc_new); (first | (with_reducible rfl) | (focus (simp; done)) | (focus (simp; omega)))) | (with_reducible apply blk_alloc) | ((with_reducible apply blk_below); (with_reducible assumption))))); rfl))); (have kz : blk w3 (w.heap.size + 1) = some #[.int .i64 0, .int .i64 0, .int .i64 0, .int .i64 0, .int .i64 0] := (by (apply blk_to; (focus (repeat (first | (with_reducible assumption) | (with_reducible apply blk_drew) | (with_reducible apply blk_set) | ((with_reducible apply blk_other'); (first | (focus (dsimp only; assumption)) | (focus (simp; done)) | (focus (dsimp only; omega)))) | ((with_reducible apply blk_alloc_new); (first | (with_reducible rfl) | (focus (simp; done)) | (focus (simp; omega)))) | (with_reducible apply blk_alloc) | ((with_reducible apply blk_below); (with_reducible assumption))))); rfl))); (have B3 : Below w.heap.size w w3 := (by (repeat (first | (with_reducible assumption) | (with_reducible exact Below.refl _ _) | (with_reducible refine beld_drew ?_) | ((with_reducible refine bset' ?_ ?_); (first | (focus (dsimp only; assumption)) | (focus (simp; done)) | (focus (dsimp only; omega)))) | (with_reducible refine belt_alloc ?_) | ((with_reducible refine zeroed_below' ?_ ?_); (first | (focus (simp; done)) | (focus (dsimp only; omega)))) | (with_reducible refine bt ?_ (by assumption)))))); (have HS3 := Lib.hid hS3); (have hcap := hS3.1); (have hmax := hS3.2.1); clear ho3 hS3 h3)
  unfold maxLen at hmax
  obtain ⟨N, hN⟩ : ∃ N, N = f.length := ⟨_, rfl⟩
  have HN := Lib.hid hN
  rw [← hN] at hcap hfl ⊢
  clear hN GW
  have s3 := B3.size
  have KR := Lib.hid (And.intro kr kz)
  clear kr kz
  obtain ⟨i0, hi, hz0, hz1, hz2⟩ := info_parts infoIn
  have Hi := Lib.hid hi; have Hz0 := Lib.hid hz0; have Hz1 := Lib.hid hz1; have Hz2 := Lib.hid hz2
  clear hi hz0 hz1 hz2
  go_loopw [5, 18] (fun s5 s18 wr => ∃ j : Nat, s18 = .int .i64 j ∧ j ≤ N ∧ Below w3.heap.size w3 wr ∧ Hid (wr.ownsRow w3.heap.size 3 1 s5 (lats (f.take j) l).length (rowC ic (lats (f.take j) l)))) (fun _ s18 _ => N - (intOf s18).toNat)
  case atStart => exact ⟨0, rfl, Nat.zero_le _, Below.refl _ _, Lib.hid (by simpa [rowC, lats] using World.ownsRow_nil w3 _ _ _)⟩
  case round =>
    obtain ⟨j, rfl, hj, hB, HO⟩ := hrel
    by_cases hlt : j < N
    · have hltz : (j : Int) < (N : Int) := by omega
      have hjl : j < f.length := by have := HN.out; omega
      obtain ⟨g, off, hab, hbl, hcs⟩ := (HS3.out.below hB).2.2.2 (by omega)
      subst hab
      obtain ⟨x, hx⟩ : ∃ x, x = f[j] := ⟨_, rfl⟩
      have hr := hcs j hjl
      rw [← hx] at hr
      have hsn : lats (f.take (j + 1)) l = lats (f.take j) l ++ (latO l (bid x)).toList := by rw [List.take_succ_eq_append_getElem hjl, lats_snoc, ← hx]
      have hnl : (lats (f.take j) l).length ≤ j := Nat.le_trans (lats_len _ _) (List.length_take_le _ _)
      have gx := GL.out x (by rw [hx]; exact List.getElem_mem _)
      have GX := Lib.hid gx
      have HSN := Lib.hid hsn
      have HNL := Lib.hid hnl
      clear hx hcs hsn hnl gx
      go_upto_region 4 with fail
      refine wp_region_elem0 54 (.tmp 20) g (off + j * 9) (bn x) #[.int .i64 0, .int .u64 0, .int .i64 0, .int .i64 0, .int .i64 0, .int .i64 0, .int .i64 0, .int .i64 0, .string ⟨#[]⟩] hr rfl (by go_simp) rfl rfl rfl _ Tryz.underlying54 rfl (by kernel_rfl) rfl (by kernel_rfl) rfl _ _ rfl rfl rfl rfl (bn_one x) ?_
      intro c0 w1 hc0 kb hB1
      conv => arg 4; simp [Act.put]
      have hB2 : Below w3.heap.size w3 w1 := bt hB hB1
      have kb : blk w1 c0 = some #[.int .i64 x.no, .int .u64 x.sq, .int .i64 x.of, .int .i64 x.de, .int .i64 x.pr, .int .i64 x.bo, .int .i64 x.li, .int .i64 x.to, .string x.da] := kb
      have nk := kn kb
      have nr := kn (blk_below hB2 KR.out.1)
      have GY := Lib.hid (GX.out w1 (bt B3 hB2))
      have ho1 := owns_belowS HO.out hB1
      obtain ⟨L, hL⟩ : ∃ L, lats (f.take j) l = L := ⟨_, rfl⟩
      rw [hL] at HSN ho1 HNL
      have HO1 := Lib.hid ho1
      clear hL ho1 HO hr hc0 hB1 hbl hB GX
      have hlv : latV l (bid x) = (latO l (bid x)).elim (0, 8) fun n => (n, 0) := rfl
      cases hlo : latO l (bid x) with
      | none =>
        rw [hlo] at hlv HSN
        replace hlv : latV l (bid x) = (0, 8) := hlv
        rw [hlv] at GY
        have HSN2 : Hid (lats (f.take (j + 1)) l = L) := Lib.hid (by have := HSN.out; simpa using this)
        clear HSN hlv hlo
        go_wp2_with (go_at_call 65; (with_reducible refine (GY.out).mono ?_); rintro e w4 ⟨rfl, h4⟩)
        have ho2 : Hid (w4.ownsRow w3.heap.size 3 1 u5 (lats (f.take (j + 1)) l).length (rowC ic (lats (f.take (j + 1)) l))) := Lib.hid (by
          rw [HSN2.out]; exact owns_belowS HO1.out h4)
        have hB4 := bt hB2 h4
        clear h4 HO1
        go_roundw
        case rel => exact ⟨j + 1, by go_num, by omega, hB4, ho2⟩
        case measure => simp [intOf]; omega
      | some n =>
        rw [hlo] at hlv HSN
        replace hlv : latV l (bid x) = (n, 0) := hlv
        rw [hlv] at GY
        have HSN2 : Hid (lats (f.take (j + 1)) l = L ++ [n]) := Lib.hid (by have := HSN.out; simpa using this)
        clear HSN hlv hlo
        go_wp2_with (first
          | (go_at_call 65; (with_reducible refine (GY.out).mono ?_); rintro e w4 ⟨rfl, h4⟩; (have hB3 := bt hB2 h4); (have HO2 := Lib.hid (owns_belowS HO1.out h4)))
          | (at_builtin; go_loud (refine wpList_append_struct (enc := ic) rfl _ _ 45 rfl w3.heap.size 3 i0 (.int .i64 0) 1 8 Tryz.underlying45 Hi.out Hz0.out Hz1.out Hz2.out rfl (by decide) ic_len ic_one _ L rfl (HO2.out.alloc _) w4.heap.size 1 n rfl (blk_alloc_new _ _ _ rfl) (by have := HNL.out; unfold maxLen; omega) (by have := HNL.out; omega) (by have := hB3.size; simp; omega) ?_); intro v' wb hown2 hgrow2))
        have hB4 : Below w3.heap.size w3 wb := (hB3.alloc hB3.size _).grown hgrow2 (by have := hB3.size; simp; omega) (fun k e => (HO2.out.lt k e).1)
        have ho3 : Hid (wb.ownsRow w3.heap.size 3 1 v' (lats (f.take (j + 1)) l).length (rowC ic (lats (f.take (j + 1)) l))) := Lib.hid (by
          rw [HSN2.out]; exact hown2)
        clear hown2 hgrow2 HO2 HO1
        go_wp2
        go_roundw
        case rel => exact ⟨j + 1, by go_num, by omega, hB4, ho3⟩
        case measure => simp [intOf]; omega
    · obtain rfl : j = N := by omega
      have ho := HO.out
      rw [HN.out, List.take_length] at ho
      obtain ⟨L, hL⟩ : ∃ L, lats f l = L := ⟨_, rfl⟩
      have hln : L.length ≤ 1000 := by rw [← hL]; have := lats_len f l; have := HN.out; omega
      rw [hL] at HBD ho
      have HL := Lib.hid hL
      have kz := blk_below hB KR.out.2
      have B5 : Below w.heap.size w wr := bt B3 hB
      obtain ⟨a5, c5, rfl, hS5, hd5⟩ := srow_of_owns ic_len ho
      have hcap5 := hS5.1
      have hmax5 := hS5.2.1
      unfold maxLen at hmax5
      clear HO hL KR GL
      by_cases hL0 : L.length = 0
      · have t0 : ((L.length : Int) == 0) = true := by simp [hL0]
        have e0 : dv (dlyO (lats f l)) = #[.int .i64 0, .int .i64 0, .int .i64 0, .int .i64 0, .int .i64 0] := by
          rw [HL.out, List.length_eq_zero_iff.1 hL0]; rfl
        have HE := Lib.hid e0
        clear e0 hL0 hS5 hd5 ho
        have nz := kn kz
        go_wp2
        refine ret_blk (b := w.heap.size + 1) (c := #[.int .i64 0, .int .i64 0, .int .i64 0, .int .i64 0, .int .i64 0]) (v := .agg #[.int .i64 0, .int .i64 0, .int .i64 0, .int .i64 0, .int .i64 0]) (by (apply blk_to; (focus (repeat (first | (with_reducible assumption) | (with_reducible apply blk_drew) | (with_reducible apply blk_set) | ((with_reducible apply blk_other'); (first | (focus (dsimp only; assumption)) | (focus (simp; done)) | (focus (dsimp only; omega)))) | ((with_reducible apply blk_alloc_new); (first | (with_reducible rfl) | (focus (simp; done)) | (focus (simp; omega)))) | (with_reducible apply blk_alloc) | ((with_reducible apply blk_below); (with_reducible assumption))))); rfl)) (fun W' hc => by simp [results, Tryz.results40, go_sem, hc]) rfl ⟨by rw [HE.out], by (repeat (first | (with_reducible assumption) | (with_reducible exact Below.refl _ _) | (with_reducible refine beld_drew ?_) | ((with_reducible refine bset' ?_ ?_); (first | (focus (dsimp only; assumption)) | (focus (simp; done)) | (focus (dsimp only; omega)))) | (with_reducible refine belt_alloc ?_) | ((with_reducible refine zeroed_below' ?_ ?_); (first | (focus (simp; done)) | (focus (dsimp only; omega)))) | (with_reducible refine bt ?_ (by assumption))))⟩
      · have t0 : ((L.length : Int) == 0) = false := by simp; simpa using hL0
        have hpos : 0 < L.length := by omega
        obtain ⟨g5, c5', e5, hg5, hl5, _, _, _, _⟩ := owns_cells ic_len ho hpos
        simp only [Value.slice.injEq] at e5
        obtain ⟨rfl, _, rfl⟩ := e5
        have HO := Lib.hid ho
        obtain ⟨n, hn⟩ : ∃ n, n = L.length := ⟨_, rfl⟩
        have HN2 := Lib.hid hn
        rw [← hn] at hln hcap5 hpos t0 ⊢
        clear hL0 hS5 hd5 ho hn
        have nz := kn kz
        go_wp2
        obtain ⟨d, hd⟩ : ∃ d, d = wr.heap.size := ⟨_, rfl⟩
        obtain ⟨u0, hu0⟩ : ∃ u, u = wr.alloc (.cells #[.int .i64 n, .int .i64 0, .int .i64 0, .int .i64 0, .int .i64 0] 65) := ⟨_, rfl⟩
        have kd : blk u0 d = some #[.int .i64 n, .int .i64 (sumI (L.take 0)), .int .i64 0, .int .i64 0, .int .i64 0] := by rw [hu0, hd]; exact blk_alloc_new _ _ _ rfl
        have kz0 : blk u0 (w.heap.size + 1) = some #[.int .i64 0, .int .i64 0, .int .i64 0, .int .i64 0, .int .i64 0] := by rw [hu0]; exact blk_alloc kz _
        have hO0 : u0.ownsRow w3.heap.size 3 1 (.slice (some ⟨g5, 0, none⟩) n c5) n (rowC ic L) := by
          have := HO.out
          rw [← HN2.out] at this
          rw [hu0]; exact this.alloc _
        have B6 : Below w.heap.size w u0 := by rw [hu0]; exact B5.alloc B5.size _
        have hgd : g5 ≠ d := by omega
        have hdl : w3.heap.size ≤ d := by omega
        have hwd : w.heap.size + 1 < d := by have := blk_lt kz; omega
        rw [← hu0, ← hd]
        have HS0 := Lib.hid (And.intro kd (And.intro kz0 hO0))
        clear hu0 hd kd kz0 hO0 kz HO B5 nz hl5 B3 hB
        go_loopw [46] (fun s46 wv => ∃ i : Nat, s46 = .int .i64 i ∧ i ≤ n ∧ Below w.heap.size w wv ∧ Hid (blk wv d = some #[.int .i64 n, .int .i64 (sumI (L.take i)), .int .i64 0, .int .i64 0, .int .i64 0] ∧ blk wv (w.heap.size + 1) = some #[.int .i64 0, .int .i64 0, .int .i64 0, .int .i64 0, .int .i64 0] ∧ wv.ownsRow w3.heap.size 3 1 (.slice (some ⟨g5, 0, none⟩) n c5) n (rowC ic L))) (fun s46 _ => n - (intOf s46).toNat)
        case atStart => exact ⟨0, rfl, Nat.zero_le _, B6, HS0⟩
        case round =>
          clear B6 HS0
          obtain ⟨i, rfl, hin, hB, HQ⟩ := hrel
          by_cases hlti : i < n
          · have hltz : (i : Int) < (n : Int) := by omega
            have hil : i < L.length := by have := HN2.out; omega
            obtain ⟨v, hv⟩ : ∃ v, v = L[i] := ⟨_, rfl⟩
            have kv1 : wr.cell? ⟨g5, i, none⟩ = some (.int .i64 v) := by
              have := HQ.out.2.2
              rw [HN2.out] at this
              rw [hv]
              exact cell_ic hil (owns_range ic_len this hil)
            have hsn : sumI (L.take (i + 1)) = sumI (L.take i) + v := by rw [List.take_succ_eq_append_getElem hil, sumI_app, ← hv, sumI_cons, sumI_nil, Int.add_zero]
            have hs1 := sum_take HBD.out i
            have hb1 := HBD.out v (by rw [hv]; exact List.getElem_mem _)
            obtain ⟨s, hs⟩ : ∃ s, sumI (L.take i) = s := ⟨_, rfl⟩
            rw [hs] at hsn hs1
            have kd1 : blk wr d = some #[.int .i64 n, .int .i64 s, .int .i64 0, .int .i64 0, .int .i64 0] := by rw [← hs]; exact HQ.out.1
            have nd := kn kd1
            have m1 : IntKind.i64.wrap (s + v) = s + v := IntWalk.i64_in _ (by omega)
            have hset : Hid (blk (wr.setCell ⟨d, 1, none⟩ (.int .i64 (s + v))) d = some #[.int .i64 n, .int .i64 (sumI (L.take (i + 1))), .int .i64 0, .int .i64 0, .int .i64 0] ∧ blk (wr.setCell ⟨d, 1, none⟩ (.int .i64 (s + v))) (w.heap.size + 1) = some #[.int .i64 0, .int .i64 0, .int .i64 0, .int .i64 0, .int .i64 0] ∧ (wr.setCell ⟨d, 1, none⟩ (.int .i64 (s + v))).ownsRow w3.heap.size 3 1 (.slice (some ⟨g5, 0, none⟩) n c5) n (rowC ic L)) := Lib.hid ⟨by rw [hsn]; exact blk_set kd1, blk_other HQ.out.2.1 (by dsimp only; omega), owns_setNe HQ.out.2.2 hgd _⟩
            have hB' : Below w.heap.size w (wr.setCell ⟨d, 1, none⟩ (.int .i64 (s + v))) := hB.setCell (by dsimp only; omega) _
            have hs2 : -4611686018427387904 ≤ s ∧ s ≤ 4611686018427387904 := by omega
            have b1 := hs2.1
            have b2 := hs2.2
            have b3 := hb1.1
            have b4 := hb1.2
            clear hv hsn hs1 hb1 hs hs2 kd1 HQ hB
            go_wp2
            go_roundw
            case rel => exact ⟨i + 1, by go_num, by omega, hB', hset⟩
            case measure => simp [intOf]; omega
          · obtain rfl : i = n := by omega
            have hsum : sumI (L.take i) = sumI L := by rw [HN2.out, List.take_length]
            have kd : blk wr d = some #[.int .i64 i, .int .i64 (sumI L), .int .i64 0, .int .i64 0, .int .i64 0] := by rw [← hsum]; exact HQ.out.1
            have kz := HQ.out.2.1
            have hO := HQ.out.2.2
            clear HQ hsum
            have hO' : wr.ownsRow w3.heap.size 3 1 (.slice (some ⟨g5, 0, none⟩) L.length c5) L.length (rowC ic L) := by rwa [HN2.out] at hO
            obtain ⟨a6, c6, e6, hS6, _⟩ := srow_of_owns ic_len hO'
            cases e6
            have gcl : Calls Tryz.prog 66 #[.slice (some ⟨g5, 0, none⟩) i c5] wr fun e w' => OwnR ic 1 3 L wr e w' := by
              have := cloneI_any (some ⟨g5, 0, none⟩) c5 L (by have := HN2.out; omega) wr hS6
              rwa [← HN2.out] at this
            have GCL := Lib.hid gcl
            clear gcl hS6 hO hO'
            go_upto_region 18 with (go_at_call 66; (with_reducible refine (GCL.out).mono ?_); rintro e w7 ⟨v7, rfl, ho7, h7⟩; (obtain ⟨g7, c7, rfl, hg7, hl7, _, _, _, _⟩ := owns_cells ic_len ho7 (by have := HN2.out; omega)); (have gso := psortI_any wr.heap.size g7 c7 L (by have := HN2.out; omega) (by have := HN2.out; omega) w7 ho7); (rw [← HN2.out] at gso); (rw [← HN2.out]); (have GSO := Lib.hid gso); (have kd7 := blk_below h7 kd); (have kz7 := blk_below h7 kz); (have B7 := bt hB h7); (have hdl7 := blk_lt kd); clear gso ho7 h7 kd kz)
            go_upto_region 19 with (go_at_call 67; (with_reducible refine (GSO.out).mono ?_); rintro e w8 ⟨rfl, ho8, hg8⟩)
            have B8 : Below w.heap.size w w8 := B7.grown hg8 B7.size (fun k e => by cases e; omega)
            have kd8 : blk w8 d = some #[.int .i64 i, .int .i64 (sumI L), .int .i64 0, .int .i64 0, .int .i64 0] := (blk_kept (hg8.block d (blk_lt kd7) (by simp; omega))).trans kd7
            have kz8 : blk w8 (w.heap.size + 1) = some #[.int .i64 0, .int .i64 0, .int .i64 0, .int .i64 0, .int .i64 0] := (blk_kept (hg8.block _ (blk_lt kz7) (by simp; omega))).trans kz7
            have hdf := dlyO_form (all := L) (by intro e; have := HN2.out; rw [e] at this; simp at this; omega)
            obtain ⟨h0, hdf⟩ := hdf
            have hal : (ascO L).length = i := by rw [ascO_len, HN2.out]
            obtain ⟨S, hS⟩ : ∃ S, ascO L = S := ⟨_, rfl⟩
            simp only [hS] at hdf hal h0 ho8
            obtain ⟨p, hp⟩ : ∃ p, i = p + 1 := ⟨i - 1, by omega⟩
            have ho9 : w8.ownsRow wr.heap.size 3 1 (.slice (some ⟨g7, 0, none⟩) S.length c7) S.length (rowC ic S) := by rw [hal]; exact ho8
            have r0 := cell_ic (j := 0) (by omega) (owns_range ic_len ho9 (by omega))
            have rL := cell_ic (j := p) (by omega) (owns_range ic_len ho9 (by omega))
            have rM := cell_ic (j := p / 2) (by omega) (owns_range ic_len ho9 (by omega))
            have hdv : dlyO L = ⟨i, sumI L, S[0]'(by omega), S[p]'(by omega), S[p / 2]'(by omega)⟩ := by
              rw [hdf, ← HN2.out]
              congr 1
              · congr 1; omega
              · congr 2; omega
            obtain ⟨s0, hs0⟩ : ∃ v, S[0]'(by omega) = v := ⟨_, rfl⟩
            obtain ⟨sL, hsL⟩ : ∃ v, S[p]'(by omega) = v := ⟨_, rfl⟩
            obtain ⟨sM, hsM⟩ : ∃ v, S[p / 2]'(by omega) = v := ⟨_, rfl⟩
            rw [hs0, hsL, hsM] at hdv
            rw [hs0] at r0
            rw [hsL] at rL
            rw [hsM] at rM
            have HDV := Lib.hid hdv
            have HCUR : Hid (∃ cur, blk w8 g7 = some cur) := Lib.hid (by
              obtain ⟨_, h2⟩ := ho9
              rcases h2 with ⟨h2, _⟩ | ⟨g', cap', cur, h3, h4, h5, _⟩
              · cases h2
              · simp only [Value.slice.injEq, Option.some.injEq, Addr.mk.injEq] at h3
                obtain ⟨⟨rfl, _⟩, _, _⟩ := h3
                exact ⟨cur, blk_of h5⟩)
            have hg7l : g7 < w8.heap.size := by
              obtain ⟨_, _, e9, _, h9, _⟩ := owns_cells ic_len ho9 (by omega)
              cases e9; exact h9
            have HR8 := Lib.hid (And.intro r0 (And.intro rL rM))
            clear r0 rL rM hs0 hsL hsM hdv hdf hal ho8 ho9 hS h0 hg8 kd7 kz7 B7 GCL GSO
            have hgd7 : g7 ≠ d := by omega
            have m1 : IntKind.i64.wrap ((i : Int) - 1) = (p : Int) := (IntWalk.i64_in _ (by omega)).trans (by omega)
            have i1 : (0 : Int) < (i : Int) := by omega
            have i2 : (p : Int) < (i : Int) := by omega
            have i3 : ((p / 2 : Nat) : Int) < (i : Int) := by omega
            have HPI := Lib.hid hp
            clear hp
            obtain ⟨cur, kc8⟩ := HCUR.out
            have r0 : cur[0]? = some (.int .i64 s0) := (blk_cell kc8 0).symm.trans HR8.out.1
            have rL : cur[p]? = some (.int .i64 sL) := (blk_cell kc8 p).symm.trans HR8.out.2.1
            have rM : cur[p / 2]? = some (.int .i64 sM) := (blk_cell kc8 (p / 2)).symm.trans HR8.out.2.2
            clear HR8 i3
            obtain ⟨h, hh⟩ : ∃ h, h = p / 2 := ⟨_, rfl⟩
            rw [← hh] at rM
            have m2 : (p : Int) / 2 = (h : Int) := by omega
            have m3 : Int.tdiv (p : Int) 2 = (h : Int) := by rw [Int.tdiv_eq_ediv_of_nonneg (by omega)]; exact m2
            have m4 : p / 2 = h := hh.symm
            have i3 : (h : Int) < (i : Int) := by omega
            have i4 : h < i := by omega
            have m5 : IntKind.i64.wrap (h : Int) = (h : Int) := IntWalk.i64_in _ (by omega)
            clear hh
            have nd8 := kn kd8
            go_region_held3 (fun W => ∀ o, W.cell? ⟨g7, o, none⟩ = cur[o]?) (exact fun o => blk_cell (by (apply blk_to; (focus (repeat (first | (with_reducible assumption) | (with_reducible apply blk_drew) | (with_reducible apply blk_set) | ((with_reducible apply blk_other'); (first | (focus (dsimp only; assumption)) | (focus (simp; done)) | (focus (dsimp only; omega)))) | ((with_reducible apply blk_alloc_new); (first | (with_reducible rfl) | (focus (simp; done)) | (focus (simp; omega)))) | (with_reducible apply blk_alloc) | ((with_reducible apply blk_below); (with_reducible assumption))))); rfl)) o) (fail)
            obtain ⟨u, hu⟩ : ∃ u, u = (((w8.setCell ⟨d, 2, none⟩ (.int .i64 s0)).setCell ⟨d, 3, none⟩ (.int .i64 sL)).setCell ⟨d, 4, none⟩ (.int .i64 sM)).drew := ⟨_, rfl⟩
            have kd9 : blk u d = some #[.int .i64 i, .int .i64 (sumI L), .int .i64 s0, .int .i64 sL, .int .i64 sM] := by rw [hu]; (apply blk_to; (focus (repeat (first | (with_reducible assumption) | (with_reducible apply blk_drew) | (with_reducible apply blk_set) | ((with_reducible apply blk_other'); (first | (focus (dsimp only; assumption)) | (focus (simp; done)) | (focus (dsimp only; omega)))) | ((with_reducible apply blk_alloc_new); (first | (with_reducible rfl) | (focus (simp; done)) | (focus (simp; omega)))) | (with_reducible apply blk_alloc) | ((with_reducible apply blk_below); (with_reducible assumption))))); rfl)
            have kz9 : blk u (w.heap.size + 1) = some #[.int .i64 0, .int .i64 0, .int .i64 0, .int .i64 0, .int .i64 0] := by
              rw [hu]
              exact blk_drew (blk_other (blk_other (blk_other kz8 (by dsimp only; omega)) (by dsimp only; omega)) (by dsimp only; omega))
            have B9 : Below w.heap.size w u := by
              rw [hu]
              exact ((((B8.setCell (by dsimp only; omega) _).setCell (by dsimp only; omega) _).setCell (by dsimp only; omega) _)).drew
            rw [← hu]
            clear hu kd8 kz8 B8 nd8 kc8 r0 rL rM HCUR
            have nd9 := kn kd9
            have nz9 := kn kz9
            have e0 : dv (dlyO (lats f l)) = #[.int .i64 i, .int .i64 (sumI L), .int .i64 s0, .int .i64 sL, .int .i64 sM] := by rw [HL.out, HDV.out]; rfl
            have HE := Lib.hid e0
            clear e0 m1 m2 m3 m4 m5
            go_wp2
            refine ret_blk (b := w.heap.size + 1) (c := #[.int .i64 i, .int .i64 (sumI L), .int .i64 s0, .int .i64 sL, .int .i64 sM]) (v := .agg #[.int .i64 i, .int .i64 (sumI L), .int .i64 s0, .int .i64 sL, .int .i64 sM]) (by (apply blk_to; (focus (repeat (first | (with_reducible assumption) | (with_reducible apply blk_drew) | (with_reducible apply blk_set) | ((with_reducible apply blk_other'); (first | (focus (dsimp only; assumption)) | (focus (simp; done)) | (focus (dsimp only; omega)))) | ((with_reducible apply blk_alloc_new); (first | (with_reducible rfl) | (focus (simp; done)) | (focus (simp; omega)))) | (with_reducible apply blk_alloc) | ((with_reducible apply blk_below); (with_reducible assumption))))); rfl)) (fun W' hc => by simp [results, Tryz.results40, go_sem, hc]) rfl ⟨by rw [HE.out], by (repeat (first | (with_reducible assumption) | (with_reducible exact Below.refl _ _) | (with_reducible refine beld_drew ?_) | ((with_reducible refine bset' ?_ ?_); (first | (focus (dsimp only; assumption)) | (focus (simp; done)) | (focus (dsimp only; omega)))) | (with_reducible refine belt_alloc ?_) | ((with_reducible refine zeroed_below' ?_ ?_); (first | (focus (simp; done)) | (focus (dsimp only; omega)))) | (with_reducible refine bt ?_ (by assumption))))⟩
end Go.Proofs.YthfmkkkdjgkaoaaGreatDoor
namespace Go.Proofs.YthfmkkkdjgkaoaaGreatDoor
open Go.RowKit
def latD (b : List Bn) (l : List Oc) (prio : Int) : Dly := if prioC b l prio = 0 then dlyO (allO b l prio) else ⟨0, 0, 0, 0, 0⟩
set_option maxRecDepth 100000 in
set_option maxHeartbeats 3200000 in
theorem plate_any (ab al : Option Addr) (cb cl : Nat) (b : List Bn) (l : List Oc) (prio : Int) (hd : ∀ x ∈ b, x.da.size ≤ maxLen) (w : World) (hT : FTab w) (hb : SRow bn 9 w ab cb b) (hl : SRow oc 7 w al cl l) :
    Calls Tryz.prog 28 #[.slice ab b.length cb, .slice al l.length cl, .int .i64 prio] w fun e w' => e = .returned (.tuple #[.agg (dv (latD b l prio)), .int .i64 (prioC b l prio)]) ∧ Below w.heap.size w w' := by
  have go : ∀ W, Below w.heap.size w W → Calls Tryz.prog 30 #[.slice ab b.length cb, .slice al l.length cl] W fun e w' => e = .returned (.tuple #[.agg #[.slice ab b.length cb, .slice al l.length cl], .int .i64 (runC b l).1]) ∧ Below W.heap.size W w' := fun W hB => open_any ab al cb cl b l hd W (hT.on hB) (hb.below hB) (hl.below hB)
  have gc : prioC b l prio = 0 → ∀ W, Below w.heap.size w W → Calls Tryz.prog 40 #[.agg #[.slice ab b.length cb, .slice al l.length cl], .int .i64 prio] W fun e w' => e = .returned (.agg (dv (latD b l prio))) ∧ Below W.heap.size W w' := fun h W hB => by
    have := late_any ab al cb cl b l prio (prioC_v h).1 W (hT.on hB) (hb.below hB) (hl.below hB)
    unfold latD
    rwa [if_pos h]
  have hc := prioC_cases b l prio
  have hz : prioC b l prio ≠ 0 → latD b l prio = ⟨0, 0, 0, 0, 0⟩ := fun h => by unfold latD; rw [if_neg h]
  obtain ⟨p, hp⟩ : ∃ p, prioC b l prio = p := ⟨_, rfl⟩
  obtain ⟨r, hr⟩ : ∃ r, (runC b l).1 = r := ⟨_, rfl⟩
  obtain ⟨D, hD⟩ : ∃ D, latD b l prio = D := ⟨_, rfl⟩
  rw [hp] at hc gc hz ⊢
  rw [hr] at hc go
  rw [hD] at gc hz ⊢
  have GO := Lib.hid go; have GC := Lib.hid gc; have HZ := Lib.hid hz
  clear go gc hp hr hD hd hT hb hl hz
  rcases hc with ⟨h1, rfl⟩ | ⟨rfl, h2, rfl⟩ | ⟨rfl, h2, h3, rfl⟩ | ⟨rfl, h2, h3, rfl⟩
  · have q0 : (p != 0) = true := by simpa using h1
    obtain rfl := HZ.out h1
    clear h1 GC HZ
    go_enter Tryz.func28, Tryz.ntmps28
    go_wp2_with (go_at_call 30; (with_reducible refine (GO.out _ (by (repeat (first | (with_reducible assumption) | (with_reducible exact Below.refl _ _) | (with_reducible refine beld_drew ?_) | ((with_reducible refine bset' ?_ ?_); (first | (focus (dsimp only; assumption)) | (focus (simp; done)) | (focus (dsimp only; omega)))) | (with_reducible refine belt_alloc ?_) | ((with_reducible refine zeroed_below' ?_ ?_); (first | (focus (simp; done)) | (focus (dsimp only; omega)))) | (with_reducible refine bt ?_ (by assumption)))))).mono ?_); rintro e w2 ⟨rfl, h2⟩; (have kb := blk_below h2 (blk_alloc_new w #[.int .i64 0, .int .i64 0, .int .i64 0, .int .i64 0, .int .i64 0] 65 rfl)); (have nb := kn kb); (have b2 : Below w.heap.size w w2 := (by (repeat (first | (with_reducible assumption) | (with_reducible exact Below.refl _ _) | (with_reducible refine beld_drew ?_) | ((with_reducible refine bset' ?_ ?_); (first | (focus (dsimp only; assumption)) | (focus (simp; done)) | (focus (dsimp only; omega)))) | (with_reducible refine belt_alloc ?_) | ((with_reducible refine zeroed_below' ?_ ?_); (first | (focus (simp; done)) | (focus (dsimp only; omega)))) | (with_reducible refine bt ?_ (by assumption)))))))
    refine ret_blk (b := w.heap.size) (c := #[.int .i64 0, .int .i64 0, .int .i64 0, .int .i64 0, .int .i64 0]) (v := .tuple #[.agg #[.int .i64 0, .int .i64 0, .int .i64 0, .int .i64 0, .int .i64 0], .int .i64 p]) (by (apply blk_to; (focus (repeat (first | (with_reducible assumption) | (with_reducible apply blk_drew) | (with_reducible apply blk_set) | ((with_reducible apply blk_other'); (first | (focus (dsimp only; assumption)) | (focus (simp; done)) | (focus (dsimp only; omega)))) | ((with_reducible apply blk_alloc_new); (first | (with_reducible rfl) | (focus (simp; done)) | (focus (simp; omega)))) | (with_reducible apply blk_alloc) | ((with_reducible apply blk_below); (with_reducible assumption))))); rfl)) (fun W' hc => by simp [results, Tryz.results28, go_sem, hc]) rfl ⟨rfl, by (repeat (first | (with_reducible assumption) | (with_reducible exact Below.refl _ _) | (with_reducible refine beld_drew ?_) | ((with_reducible refine bset' ?_ ?_); (first | (focus (dsimp only; assumption)) | (focus (simp; done)) | (focus (dsimp only; omega)))) | (with_reducible refine belt_alloc ?_) | ((with_reducible refine zeroed_below' ?_ ?_); (first | (focus (simp; done)) | (focus (dsimp only; omega)))) | (with_reducible refine bt ?_ (by assumption))))⟩
  · obtain rfl := HZ.out (by decide)
    have q0 : ((0 : Int) != 0) = false := rfl
    have q1 : decide (prio < -1) = true := decide_eq_true h2
    clear GC HZ
    go_enter Tryz.func28, Tryz.ntmps28
    go_wp2_with (go_at_call 30; (with_reducible refine (GO.out _ (by (repeat (first | (with_reducible assumption) | (with_reducible exact Below.refl _ _) | (with_reducible refine beld_drew ?_) | ((with_reducible refine bset' ?_ ?_); (first | (focus (dsimp only; assumption)) | (focus (simp; done)) | (focus (dsimp only; omega)))) | (with_reducible refine belt_alloc ?_) | ((with_reducible refine zeroed_below' ?_ ?_); (first | (focus (simp; done)) | (focus (dsimp only; omega)))) | (with_reducible refine bt ?_ (by assumption)))))).mono ?_); rintro e w2 ⟨rfl, h2⟩; (have kb := blk_below h2 (blk_alloc_new w #[.int .i64 0, .int .i64 0, .int .i64 0, .int .i64 0, .int .i64 0] 65 rfl)); (have nb := kn kb); (have b2 : Below w.heap.size w w2 := (by (repeat (first | (with_reducible assumption) | (with_reducible exact Below.refl _ _) | (with_reducible refine beld_drew ?_) | ((with_reducible refine bset' ?_ ?_); (first | (focus (dsimp only; assumption)) | (focus (simp; done)) | (focus (dsimp only; omega)))) | (with_reducible refine belt_alloc ?_) | ((with_reducible refine zeroed_below' ?_ ?_); (first | (focus (simp; done)) | (focus (dsimp only; omega)))) | (with_reducible refine bt ?_ (by assumption)))))))
    refine ret_blk (b := w.heap.size) (c := #[.int .i64 0, .int .i64 0, .int .i64 0, .int .i64 0, .int .i64 0]) (v := .tuple #[.agg #[.int .i64 0, .int .i64 0, .int .i64 0, .int .i64 0, .int .i64 0], .int .i64 2]) (by (apply blk_to; (focus (repeat (first | (with_reducible assumption) | (with_reducible apply blk_drew) | (with_reducible apply blk_set) | ((with_reducible apply blk_other'); (first | (focus (dsimp only; assumption)) | (focus (simp; done)) | (focus (dsimp only; omega)))) | ((with_reducible apply blk_alloc_new); (first | (with_reducible rfl) | (focus (simp; done)) | (focus (simp; omega)))) | (with_reducible apply blk_alloc) | ((with_reducible apply blk_below); (with_reducible assumption))))); rfl)) (fun W' hc => by simp [results, Tryz.results28, go_sem, hc]) rfl ⟨rfl, by (repeat (first | (with_reducible assumption) | (with_reducible exact Below.refl _ _) | (with_reducible refine beld_drew ?_) | ((with_reducible refine bset' ?_ ?_); (first | (focus (dsimp only; assumption)) | (focus (simp; done)) | (focus (dsimp only; omega)))) | (with_reducible refine belt_alloc ?_) | ((with_reducible refine zeroed_below' ?_ ?_); (first | (focus (simp; done)) | (focus (dsimp only; omega)))) | (with_reducible refine bt ?_ (by assumption))))⟩
  · obtain rfl := HZ.out (by decide)
    have q0 : ((0 : Int) != 0) = false := rfl
    have q1 : decide (prio < -1) = false := decide_eq_false h2
    have q2 : decide (2 < prio) = true := decide_eq_true h3
    clear GC HZ
    go_enter Tryz.func28, Tryz.ntmps28
    go_wp2_with (go_at_call 30; (with_reducible refine (GO.out _ (by (repeat (first | (with_reducible assumption) | (with_reducible exact Below.refl _ _) | (with_reducible refine beld_drew ?_) | ((with_reducible refine bset' ?_ ?_); (first | (focus (dsimp only; assumption)) | (focus (simp; done)) | (focus (dsimp only; omega)))) | (with_reducible refine belt_alloc ?_) | ((with_reducible refine zeroed_below' ?_ ?_); (first | (focus (simp; done)) | (focus (dsimp only; omega)))) | (with_reducible refine bt ?_ (by assumption)))))).mono ?_); rintro e w2 ⟨rfl, h2⟩; (have kb := blk_below h2 (blk_alloc_new w #[.int .i64 0, .int .i64 0, .int .i64 0, .int .i64 0, .int .i64 0] 65 rfl)); (have nb := kn kb); (have b2 : Below w.heap.size w w2 := (by (repeat (first | (with_reducible assumption) | (with_reducible exact Below.refl _ _) | (with_reducible refine beld_drew ?_) | ((with_reducible refine bset' ?_ ?_); (first | (focus (dsimp only; assumption)) | (focus (simp; done)) | (focus (dsimp only; omega)))) | (with_reducible refine belt_alloc ?_) | ((with_reducible refine zeroed_below' ?_ ?_); (first | (focus (simp; done)) | (focus (dsimp only; omega)))) | (with_reducible refine bt ?_ (by assumption)))))))
    refine ret_blk (b := w.heap.size) (c := #[.int .i64 0, .int .i64 0, .int .i64 0, .int .i64 0, .int .i64 0]) (v := .tuple #[.agg #[.int .i64 0, .int .i64 0, .int .i64 0, .int .i64 0, .int .i64 0], .int .i64 2]) (by (apply blk_to; (focus (repeat (first | (with_reducible assumption) | (with_reducible apply blk_drew) | (with_reducible apply blk_set) | ((with_reducible apply blk_other'); (first | (focus (dsimp only; assumption)) | (focus (simp; done)) | (focus (dsimp only; omega)))) | ((with_reducible apply blk_alloc_new); (first | (with_reducible rfl) | (focus (simp; done)) | (focus (simp; omega)))) | (with_reducible apply blk_alloc) | ((with_reducible apply blk_below); (with_reducible assumption))))); rfl)) (fun W' hc => by simp [results, Tryz.results28, go_sem, hc]) rfl ⟨rfl, by (repeat (first | (with_reducible assumption) | (with_reducible exact Below.refl _ _) | (with_reducible refine beld_drew ?_) | ((with_reducible refine bset' ?_ ?_); (first | (focus (dsimp only; assumption)) | (focus (simp; done)) | (focus (dsimp only; omega)))) | (with_reducible refine belt_alloc ?_) | ((with_reducible refine zeroed_below' ?_ ?_); (first | (focus (simp; done)) | (focus (dsimp only; omega)))) | (with_reducible refine bt ?_ (by assumption))))⟩
  · have q0 : ((0 : Int) != 0) = false := rfl
    have q1 : decide (prio < -1) = false := decide_eq_false h2
    have q2 : decide (2 < prio) = false := decide_eq_false h3
    replace GC := Lib.hid (GC.out rfl)
    obtain ⟨n, su, le, gr, me⟩ := D
    clear HZ
    unfold dv at GC ⊢
    dsimp only at GC ⊢
    go_enter Tryz.func28, Tryz.ntmps28
    go_wp2_with (first | (go_at_call 30; (with_reducible refine (GO.out _ (by (repeat (first | (with_reducible assumption) | (with_reducible exact Below.refl _ _) | (with_reducible refine beld_drew ?_) | ((with_reducible refine bset' ?_ ?_); (first | (focus (dsimp only; assumption)) | (focus (simp; done)) | (focus (dsimp only; omega)))) | (with_reducible refine belt_alloc ?_) | ((with_reducible refine zeroed_below' ?_ ?_); (first | (focus (simp; done)) | (focus (dsimp only; omega)))) | (with_reducible refine bt ?_ (by assumption)))))).mono ?_); rintro e w2 ⟨rfl, h2⟩; (have kb := blk_below h2 (blk_alloc_new w #[.int .i64 0, .int .i64 0, .int .i64 0, .int .i64 0, .int .i64 0] 65 rfl)); (have nb := kn kb); (have B2 : Below w.heap.size w w2 := (by (repeat (first | (with_reducible assumption) | (with_reducible exact Below.refl _ _) | (with_reducible refine beld_drew ?_) | ((with_reducible refine bset' ?_ ?_); (first | (focus (dsimp only; assumption)) | (focus (simp; done)) | (focus (dsimp only; omega)))) | (with_reducible refine belt_alloc ?_) | ((with_reducible refine zeroed_below' ?_ ?_); (first | (focus (simp; done)) | (focus (dsimp only; omega)))) | (with_reducible refine bt ?_ (by assumption))))))) | (go_at_call 40; (with_reducible refine (GC.out _ (by (repeat (first | (with_reducible assumption) | (with_reducible exact Below.refl _ _) | (with_reducible refine beld_drew ?_) | ((with_reducible refine bset' ?_ ?_); (first | (focus (dsimp only; assumption)) | (focus (simp; done)) | (focus (dsimp only; omega)))) | (with_reducible refine belt_alloc ?_) | ((with_reducible refine zeroed_below' ?_ ?_); (first | (focus (simp; done)) | (focus (dsimp only; omega)))) | (with_reducible refine bt ?_ (by assumption)))))).mono ?_); rintro e w3 ⟨rfl, h3⟩; (have kb3 : blk w3 w.heap.size = some #[.int .i64 0, .int .i64 0, .int .i64 0, .int .i64 0, .int .i64 0] := (by (apply blk_to; (focus (repeat (first | (with_reducible assumption) | (with_reducible apply blk_drew) | (with_reducible apply blk_set) | ((with_reducible apply blk_other'); (first | (focus (dsimp only; assumption)) | (focus (simp; done)) | (focus (dsimp only; omega)))) | ((with_reducible apply blk_alloc_new); (first | (with_reducible rfl) | (focus (simp; done)) | (focus (simp; omega)))) | (with_reducible apply blk_alloc) | ((with_reducible apply blk_below); (with_reducible assumption))))); rfl))); clear nb; (have nb := kn kb3); (have B3 : Below w.heap.size w w3 := (by (repeat (first | (with_reducible assumption) | (with_reducible exact Below.refl _ _) | (with_reducible refine beld_drew ?_) | ((with_reducible refine bset' ?_ ?_); (first | (focus (dsimp only; assumption)) | (focus (simp; done)) | (focus (dsimp only; omega)))) | (with_reducible refine belt_alloc ?_) | ((with_reducible refine zeroed_below' ?_ ?_); (first | (focus (simp; done)) | (focus (dsimp only; omega)))) | (with_reducible refine bt ?_ (by assumption))))))))
    refine ret_blk (b := w.heap.size) (c := #[.int .i64 n, .int .i64 su, .int .i64 le, .int .i64 gr, .int .i64 me]) (v := .tuple #[.agg #[.int .i64 n, .int .i64 su, .int .i64 le, .int .i64 gr, .int .i64 me], .int .i64 0]) (by (apply blk_to; (focus (repeat (first | (with_reducible assumption) | (with_reducible apply blk_drew) | (with_reducible apply blk_set) | ((with_reducible apply blk_other'); (first | (focus (dsimp only; assumption)) | (focus (simp; done)) | (focus (dsimp only; omega)))) | ((with_reducible apply blk_alloc_new); (first | (with_reducible rfl) | (focus (simp; done)) | (focus (simp; omega)))) | (with_reducible apply blk_alloc) | ((with_reducible apply blk_below); (with_reducible assumption))))); rfl)) (fun W' hc => by simp [results, Tryz.results28, go_sem, hc]) rfl ⟨rfl, by (repeat (first | (with_reducible assumption) | (with_reducible exact Below.refl _ _) | (with_reducible refine beld_drew ?_) | ((with_reducible refine bset' ?_ ?_); (first | (focus (dsimp only; assumption)) | (focus (simp; done)) | (focus (dsimp only; omega)))) | (with_reducible refine belt_alloc ?_) | ((with_reducible refine zeroed_below' ?_ ?_); (first | (focus (simp; done)) | (focus (dsimp only; omega)))) | (with_reducible refine bt ?_ (by assumption))))⟩
end Go.Proofs.YthfmkkkdjgkaoaaGreatDoor
namespace Go.Proofs.YthfmkkkdjgkaoaaGreatDoor
open Go.Lib (decDigits nDigits)
def rowT (word : List UInt8) (ns : List Nat) : List UInt8 := word ++ (ns.flatMap fun n => 32 :: decDigits n) ++ [10]
def priW : List UInt8 := [112, 114, 105, 111]
def nodW : List UInt8 := [110, 111, 100, 101]
def faiW : List UInt8 := [102, 97, 105, 114, 110, 101, 115, 115]
def dlyL (d : Dly) : List Int := [d.n, d.su, d.le, d.gr, d.me]
def priR (b : List Bn) (l : List Oc) (p : Nat) : List UInt8 := rowT priW (p :: ((couO b l p).map Int.toNat ++ (dlyL (dlyO (allO b l p))).map Int.toNat))
def nodR (b : List Bn) (sz : Bn → Int) (l : List Oc) (n : Nat) : List UInt8 := if stepsO b sz n l = [] then [] else rowT nodW [n, (pkO (stepsO b sz n l)).1.toNat, (pkO (stepsO b sz n l)).2.toNat]
def faiR (b : List Bn) (l : List Oc) : List UInt8 := rowT faiW [(faiO b l).1.toNat, (faiO b l).2.toNat]
def nodsR (b : List Bn) (sz : Bn → Int) (l : List Oc) (n : Nat) : List UInt8 := (List.range n).flatMap fun i => nodR b sz l (i + 1)
def txtO (b : List Bn) (sz : Bn → Int) (l : List Oc) : List UInt8 := priR b l 0 ++ priR b l 1 ++ priR b l 2 ++ nodsR b sz l 16 ++ faiR b l
theorem nodsR_succ (b : List Bn) (sz : Bn → Int) (l : List Oc) (n : Nat) : nodsR b sz l (n + 1) = nodsR b sz l n ++ nodR b sz l (n + 1) := by
  unfold nodsR; rw [List.range_succ, List.flatMap_append]; simp
end Go.Proofs.YthfmkkkdjgkaoaaGreatDoor
