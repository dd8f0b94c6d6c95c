/- Parts of a proof, printed by a program of mine out of my texts: RpBnd, RpMdP, Slice, KitMod, KitAt, KitBytes. -/
import Derived.Lib.ItoaLen
import Derived.Test.YthfmkkkdjgkaoaaGreatDoorMA
import Derived.Test.YthfmkkkdjgkaoaaGreatDoorMK
import Derived.Test.YthfmkkkdjgkaoaaGreatDoorMN
import Derived.Test.YthfmkkkdjgkaoaaGreatDoorMR
import Derived.Test.YthfmkkkdjgkaoaaGreatDoorMW
set_option linter.unusedSimpArgs false
set_option linter.unusedVariables false
namespace Go.Proofs.YthfmkkkdjgkaoaaGreatDoor
open Go.Lib (decDigits nDigits)
theorem dec20 {n : Nat} (h : n < 9223372036854775808) : (decDigits n).length ≤ 20 := by
  rw [Lib.decDigits_length]; exact Lib.nDigits_le20 _ (by omega)
theorem rowT_len (word : List UInt8) (ns : List Nat) (h : ∀ n ∈ ns, n < 9223372036854775808) : (rowT word ns).length ≤ word.length + 21 * ns.length + 1 := by
  have key : ∀ ns : List Nat, (∀ n ∈ ns, n < 9223372036854775808) → (ns.flatMap fun n => (32 : UInt8) :: decDigits n).length ≤ 21 * ns.length := by
    intro ns
    induction ns with
    | nil => intro _; simp
    | cons a ns ih =>
      intro h
      have h1 := dec20 (h a (by simp))
      have h2 := ih fun n hn => h n (List.mem_cons_of_mem _ hn)
      rw [List.flatMap_cons, List.length_append, List.length_cons, List.length_cons]
      omega
  have := key ns h
  unfold rowT
  rw [List.length_append, List.length_append]
  simp only [List.length_cons, List.length_nil]
  omega
theorem ti_mono {b : List Bn} {l : List Oc} (hv : RunV b l) : ∀ (j : Nat) (hj : j < l.length) (i : Nat) (hi : i ≤ j), (l[i]'(by omega)).ti ≤ l[j].ti
  | 0, hj, i, hi => by
    obtain rfl : i = 0 := by omega
    exact Int.le_refl _
  | j + 1, hj, i, hi => by
    rcases Nat.lt_or_eq_of_le hi with h | rfl
    · have h1 := ti_mono hv j (by omega) i (by omega)
      have h2 := hv.ord (j + 1) hj (by omega)
      exact Int.le_trans h1 h2
    · exact Int.le_refl _
theorem ti_bd {b : List Bn} {l : List Oc} (hv : RunV b l) : ∀ x ∈ l, 0 ≤ x.ti ∧ x.ti ≤ 1099511627776 := fun x hx => by
  obtain ⟨i, hi, rfl⟩ := List.getElem_of_mem hx
  have h := hv.one i hi
  unfold oneC at h
  split at h
  · cases h
  · split at h
    · cases h
    · omega
theorem latO_nn {b : List Bn} {l : List Oc} (hv : RunV b l) {k : Id3} {n : Int} (h : latO l k = some n) : 0 ≤ n := by
  have hp : (l.filter fun o => decide (oid o = k) && (decide (o.ki = 1) || decide (o.ki = 8))).Pairwise fun a d => a.ti ≤ d.ti := by
    refine List.Pairwise.filter _ (List.pairwise_iff_getElem.2 fun i j hi hj hij => ti_mono hv j hj i (by omega))
  unfold latO at h
  split at h
  · rename_i a d e
    rw [e] at hp
    have h1 := (List.pairwise_cons.1 hp).1 d (by simp)
    split at h
    · cases h; omega
    · cases h
  · cases h
theorem allO_bd {b : List Bn} {l : List Oc} (hv : RunV b l) (p : Int) : ∀ n ∈ allO b l p, 0 ≤ n ∧ n ≤ 1099511627776 := fun n hn => by
  obtain ⟨x, _, hx⟩ := List.mem_filterMap.1 hn
  exact ⟨latO_nn hv hx, (latO_bd (ti_bd hv) hx).2⟩
theorem dly_bd {b : List Bn} {l : List Oc} (hv : RunV b l) (p : Int) : (0 ≤ (dlyO (allO b l p)).n ∧ (dlyO (allO b l p)).n ≤ 1000) ∧ (0 ≤ (dlyO (allO b l p)).su ∧ (dlyO (allO b l p)).su ≤ 1099511627776000) ∧ (0 ≤ (dlyO (allO b l p)).le ∧ (dlyO (allO b l p)).le ≤ 1099511627776) ∧ (0 ≤ (dlyO (allO b l p)).gr ∧ (dlyO (allO b l p)).gr ≤ 1099511627776) ∧ (0 ≤ (dlyO (allO b l p)).me ∧ (dlyO (allO b l p)).me ≤ 1099511627776) := by
  have hb := allO_bd hv p
  have hlen : (allO b l p).length ≤ 1000 := by
    have h1 : (allO b l p).length ≤ (b.filter (inP p)).length := List.length_filterMap_le _ _
    have h2 := List.length_filter_le (inP p) b
    have h3 := hv.len
    omega
  obtain ⟨L, hL⟩ : ∃ L, allO b l p = L := ⟨_, rfl⟩
  rw [hL] at hb hlen ⊢
  by_cases h : L = []
  · subst h
    have e : dlyO [] = ⟨0, 0, 0, 0, 0⟩ := rfl
    rw [e]
    simp only
    omega
  · obtain ⟨h0, e⟩ := dlyO_form h
    rw [e]
    have hm : ∀ i (hi : i < (ascO L).length), 0 ≤ (ascO L)[i] ∧ (ascO L)[i] ≤ 1099511627776 := fun i hi => hb _ ((ascO_mem L _).1 (List.getElem_mem hi))
    have hs := sum_bounds L 0 1099511627776 hb
    have h1 := hm 0 h0
    have h2 := hm ((ascO L).length - 1) (by omega)
    have h3 := hm (((ascO L).length - 1) / 2) (by omega)
    simp only
    refine ⟨by omega, ⟨by omega, ?_⟩, h1, h2, h3⟩
    have h4 : (L.length : Int) * 1099511627776 ≤ 1000 * 1099511627776 := Int.mul_le_mul_of_nonneg_right (by omega) (by omega)
    omega
theorem fold_mem (s : List (Int × Int)) : ∀ m : Int × Int, s.foldl (fun m x => if m.2 < x.2 then x else m) m = m ∨ s.foldl (fun m x => if m.2 < x.2 then x else m) m ∈ s := by
  induction s with
  | nil => intro m; exact .inl rfl
  | cons a s ih =>
    intro m
    rw [List.foldl_cons]
    rcases ih (if m.2 < a.2 then a else m) with h | h
    · rw [h]
      split
      · exact .inr (by simp)
      · exact .inl rfl
    · exact .inr (List.mem_cons_of_mem _ h)
theorem stp_bd {b : List Bn} {l : List Oc} (hv : RunV b l) (node : Int) : ∀ i, i ≤ l.length → ∀ x ∈ (stpS b szB node l i).2.2, (0 ≤ x.1 ∧ x.1 ≤ 1099511627776) ∧ (0 ≤ x.2 ∧ x.2 ≤ 6000000)
  | 0, _, x, hx => by simp [stpS] at hx
  | i + 1, hi, x, hx => by
    have hbd : ∀ y ∈ b, bcode y = 0 := fun y hy => by obtain ⟨j, hj, rfl⟩ := List.getElem_of_mem hy; exact hv.bun j hj
    have hil : i < l.length := by omega
    have ih := stp_bd hv node i (by omega)
    have hld := ld_le b szB (fun y hy => szB_bd (hbd y hy)) (hldO b node (stpS b szB node l i).1 l[i])
    have hln : (hldO b node (stpS b szB node l i).1 l[i]).length ≤ i + 1 := Nat.le_trans hld_len (Nat.succ_le_succ (held_len i (by omega)))
    have htl := hv.tlen
    rw [stpS_succ hil] at hx
    split at hx
    · rcases List.mem_append.1 hx with h | h
      · exact ih x h
      · simp only [List.mem_singleton] at h
        subst h
        exact ⟨ti_bd hv _ (List.getElem_mem _), hld.1, by
          have h4 : ((hldO b node (stpS b szB node l i).1 l[i]).length : Int) * 1200 ≤ 5000 * 1200 := Int.mul_le_mul_of_nonneg_right (by omega) (by omega)
          have h5 := hld.2
          show ldO b szB (hldO b node (stpS b szB node l i).1 l[i]) ≤ 6000000
          omega⟩
    · exact ih x hx
theorem pk_bd {b : List Bn} {l : List Oc} (hv : RunV b l) (node : Int) : (0 ≤ (pkO (stepsO b szB node l)).1 ∧ (pkO (stepsO b szB node l)).1 ≤ 1099511627776) ∧ (0 ≤ (pkO (stepsO b szB node l)).2 ∧ (pkO (stepsO b szB node l)).2 ≤ 6000000) := by
  rcases fold_mem (stepsO b szB node l) (0, 0) with h | h
  · have e : pkO (stepsO b szB node l) = (0, 0) := h
    rw [e]; simp
  · exact stp_bd hv node _ (Nat.le_refl _) _ h
theorem fai_bd {b : List Bn} {l : List Oc} (hv : RunV b l) : (0 ≤ (faiO b l).1 ∧ (faiO b l).1 ≤ 256000000000000) ∧ (0 ≤ (faiO b l).2 ∧ (faiO b l).2 ≤ 256000000000000) := by
  have hda : ∀ x ∈ b, x.da.size ≤ 1000 := fun y hy => by obtain ⟨j, hj, rfl⟩ := List.getElem_of_mem hy; exact (node_bd (hv.bun j hj)).2
  obtain ⟨⟨s1, s2⟩, q1, q2⟩ := sums_bd (l := l) hda hv.len
  unfold faiO
  split
  · simp
  · obtain ⟨S, hS⟩ : ∃ S, sumO b l = S := ⟨_, rfl⟩
    obtain ⟨R, hR⟩ : ∃ S, sqsO b l = S := ⟨_, rfl⟩
    obtain ⟨M, hM⟩ : ∃ M : Nat, (nodO b l).length = M := ⟨_, rfl⟩
    have hM16 := nodO_len b l
    rw [hM] at hM16
    rw [hS] at s1 s2 ⊢
    rw [hR] at q1 q2 ⊢
    rw [hM]
    have x0 : 0 ≤ S * S := Int.mul_nonneg s1 s1
    have x1 : S * S ≤ 16000000 * 16000000 := Int.mul_le_mul s2 s2 s1 (by omega)
    have y0 : 0 ≤ (M : Int) * R := Int.mul_nonneg (by omega) q1
    have y1 : (M : Int) * R ≤ 16 * 16000000000000 := Int.mul_le_mul (by omega) q2 q1 (by omega)
    obtain ⟨X, hX⟩ : ∃ X, S * S = X := ⟨_, rfl⟩
    obtain ⟨Y, hY⟩ : ∃ X, (M : Int) * R = X := ⟨_, rfl⟩
    rw [hX] at x0 x1 ⊢
    rw [hY] at y0 y1 ⊢
    have g0 : 0 ≤ ((Int.gcd X Y : Nat) : Int) := by omega
    have k1 := Int.ediv_nonneg x0 g0
    have k2 := Int.ediv_nonneg y0 g0
    have k3 := Int.ediv_le_self ((Int.gcd X Y : Nat) : Int) x0
    have k4 := Int.ediv_le_self ((Int.gcd X Y : Nat) : Int) y0
    simp only
    omega
def priN (b : List Bn) (l : List Oc) (j : Nat) : List Int := [(j : Int), cntO b l j 0, cntO b l j 1, cntO b l j 2, cntO b l j 3, cntO b l j 4, cntO b l j 5, (dlyO (allO b l j)).n, (dlyO (allO b l j)).su, (dlyO (allO b l j)).le, (dlyO (allO b l j)).gr, (dlyO (allO b l j)).me]
theorem priN_bd {b : List Bn} {l : List Oc} (hv : RunV b l) {j : Nat} (hj : j ≤ 3) : ∀ n ∈ priN b l j, 0 ≤ n ∧ n < 9223372036854775808 := by
  obtain ⟨h1, h2, h3, h4, h5⟩ := dly_bd hv (j : Int)
  have hc := fun i => cntO_le b l (j : Int) i
  have hb := hv.len
  have c0 := hc 0; have c1 := hc 1; have c2 := hc 2; have c3 := hc 3; have c4 := hc 4; have c5 := hc 5
  intro n hn
  simp only [priN, List.mem_cons, List.not_mem_nil, or_false] at hn
  rcases hn with rfl | rfl | rfl | rfl | rfl | rfl | rfl | rfl | rfl | rfl | rfl | rfl <;> omega
theorem priR_eq (b : List Bn) (l : List Oc) (j : Nat) : priR b l j = rowT priW ((priN b l j).map Int.toNat) := by
  unfold priR priN couO dlyL
  simp
theorem priR_len {b : List Bn} {l : List Oc} (hv : RunV b l) {j : Nat} (hj : j ≤ 3) : (priR b l j).length ≤ 1000 := by
  rw [priR_eq]
  have h := rowT_len priW ((priN b l j).map Int.toNat) (fun n hn => by
    obtain ⟨x, hx, rfl⟩ := List.mem_map.1 hn
    have := priN_bd hv hj x hx
    omega)
  have e : priW.length = 4 := rfl
  have e2 : ((priN b l j).map Int.toNat).length = 12 := by simp [priN]
  rw [e, e2] at h
  omega
theorem nodR_len {b : List Bn} {l : List Oc} (hv : RunV b l) {n : Nat} (hn : n ≤ 16) : (nodR b szB l n).length ≤ 1000 := by
  unfold nodR
  split
  · simp
  · obtain ⟨h1, h2⟩ := pk_bd hv (n : Int)
    have h := rowT_len nodW [n, (pkO (stepsO b szB n l)).1.toNat, (pkO (stepsO b szB n l)).2.toNat] (fun x hx => by
      simp only [List.mem_cons, List.not_mem_nil, or_false] at hx
      rcases hx with rfl | rfl | rfl <;> omega)
    have e : nodW.length = 4 := rfl
    simp only [List.length_cons, List.length_nil] at h
    omega
end Go.Proofs.YthfmkkkdjgkaoaaGreatDoor
namespace Go.Proofs.YthfmkkkdjgkaoaaGreatDoor
theorem MkBs.nil : MkBs [] := ⟨fun i h => absurd h (by simp), fun i h => absurd h (by simp), fun i h => absurd h (by simp)⟩
theorem MkBs.snoc {b : List Bn} {x : Bn} (h : MkBs b) (h1 : bcode x = 0) (h2 : x.sq = b.length) (h3 : 1 ≤ x.no ∧ x.no ≤ 4) : MkBs (b ++ [x]) := by
  have key : ∀ (p : Nat → Bn → Prop), (∀ i (h : i < b.length), p i b[i]) → p b.length x → ∀ i (h : i < (b ++ [x]).length), p i (b ++ [x])[i] := by
    intro p hb hx i hi
    by_cases e : i < b.length
    · rw [List.getElem_append_left e]; exact hb i e
    · have : i = b.length := by simp at hi; omega
      subst this
      rw [List.getElem_append_right (Nat.le_refl _)]
      simpa using hx
  exact ⟨key (fun _ y => bcode y = 0) h.ok h1, key (fun i y => y.sq = i) h.sq h2, key (fun _ y => 1 ≤ y.no ∧ y.no ≤ 4) h.no h3⟩
def mkB0 (k : Int) (i : Nat) (da : ByteArray) : Bn := ⟨1 + k % 3, i, 0, 1 + k / 3 % 4, k / 12 % 3, 0, 9, 1 + k % 40, da⟩
def mkBn (k : Int) (i : Nat) (da : ByteArray) : Bn := ⟨1 + k % 3, i, 0, 1 + k / 3 % 4, k / 12 % 3, 0, 9, max (1 + k % 40) da.size, da⟩
theorem mkBn_ok {k : Int} {i : Nat} {da : ByteArray} (h0 : 0 ≤ k) (hi : i < 6) (h1 : 1 ≤ da.size) (h2 : da.size ≤ 6) : bcode (mkBn k i da) = 0 := by
  unfold bcode mkBn
  simp only
  have hI : okI (1 + k % 3) i 0 := by unfold okI; omega
  have hN : okN (1 + k / 3 % 4) (k / 12 % 3) 0 9 (max (1 + k % 40) da.size) := by unfold okN; omega
  rcases buC_cases (1 + k % 3) i 0 (1 + k / 3 % 4) (k / 12 % 3) 0 9 (max (1 + k % 40) da.size) da.size with h | h | h | h | h | h
  · exact absurd hI h.2
  · exact absurd hN h.2.2
  · exfalso; have h9 := h.2.2.2; omega
  · exfalso; have h9 := h.2.2.2.2; omega
  · exfalso; have h9 := h.2.2.2.2.2; omega
  · exact h.1
def fixO (t no ki : Int) (x : Bn) : Oc :=
  if ki = 1 then ⟨t, x.no, 1, x.no, x.sq, x.of, 0⟩ else if ki = 6 ∨ ki = 7 then ⟨t, no, ki, x.no, x.sq, x.of, 1 + no % 4⟩ else if ki = 14 then ⟨t, no, ki, 0, 0, 0, 0⟩ else ⟨t, no, ki, x.no, x.sq, x.of, 0⟩
def kinds8 : List Int := [1, 6, 7, 8, 9, 2, 14, 1]
theorem fixO_ti (t no ki : Int) (x : Bn) : (fixO t no ki x).ti = t := by
  unfold fixO; split
  · rfl
  · split
    · rfl
    · split <;> rfl
theorem fixO_ok {t no ki : Int} {x : Bn} (hk : ki ∈ kinds8) (ht : 0 ≤ t ∧ t ≤ 1099511627776) (hn : 1 ≤ no ∧ no ≤ 4) (hx : bcode x = 0) : oneC (fixO t no ki x) = 0 ∧ (useI (fixO t no ki x).ki = true → oid (fixO t no ki x) = bid x) := by
  have hI : okI x.no x.sq x.of := (buC_ok (show buC x.no x.sq x.of x.de x.pr x.bo x.li x.to x.da.size = 0 from hx)).1
  have hid : idC x.no x.sq x.of = 0 := if_pos hI
  have hno : 1 ≤ x.no ∧ x.no ≤ 16 := by unfold okI at hI; omega
  simp only [kinds8, List.mem_cons, List.not_mem_nil, or_false] at hk
  rcases hk with rfl | rfl | rfl | rfl | rfl | rfl | rfl | rfl
  · refine ⟨?_, fun _ => rfl⟩
    show oneC ⟨t, x.no, 1, x.no, x.sq, x.of, 0⟩ = 0
    unfold oneC othB useI useO oid
    simp only
    rw [if_neg (by omega), if_neg (by simp; omega)]
    simpa using hid
  · refine ⟨?_, fun _ => rfl⟩
    show oneC ⟨t, no, 6, x.no, x.sq, x.of, 1 + no % 4⟩ = 0
    unfold oneC othB useI useO oid
    simp only
    rw [if_neg (by omega), if_neg (by simp; omega)]
    simpa using hid
  · refine ⟨?_, fun _ => rfl⟩
    show oneC ⟨t, no, 7, x.no, x.sq, x.of, 1 + no % 4⟩ = 0
    unfold oneC othB useI useO oid
    simp only
    rw [if_neg (by omega), if_neg (by simp; omega)]
    simpa using hid
  · refine ⟨?_, fun _ => rfl⟩
    show oneC ⟨t, no, 8, x.no, x.sq, x.of, 0⟩ = 0
    unfold oneC othB useI useO oid
    simp only
    rw [if_neg (by omega), if_neg (by simp; omega)]
    simpa using hid
  · refine ⟨?_, fun _ => rfl⟩
    show oneC ⟨t, no, 9, x.no, x.sq, x.of, 0⟩ = 0
    unfold oneC othB useI useO oid
    simp only
    rw [if_neg (by omega), if_neg (by simp; omega)]
    simpa using hid
  · refine ⟨?_, fun _ => rfl⟩
    show oneC ⟨t, no, 2, x.no, x.sq, x.of, 0⟩ = 0
    unfold oneC othB useI useO oid
    simp only
    rw [if_neg (by omega), if_neg (by simp; omega)]
    simpa using hid
  · refine ⟨?_, fun h => by have h9 : useI 14 = true := h; exact absurd h9 (by decide)⟩
    show oneC ⟨t, no, 14, 0, 0, 0, 0⟩ = 0
    unfold oneC othB useI useO oid
    simp only
    rw [if_neg (by omega), if_neg (by simp; omega)]
    simp
  · refine ⟨?_, fun _ => rfl⟩
    show oneC ⟨t, x.no, 1, x.no, x.sq, x.of, 0⟩ = 0
    unfold oneC othB useI useO oid
    simp only
    rw [if_neg (by omega), if_neg (by simp; omega)]
    simpa using hid
theorem MkOs.nil (b : List Bn) (t : Int) : MkOs b [] t := ⟨fun i h => absurd h (by simp), fun i h => absurd h (by simp), fun i h => absurd h (by simp), fun i h => absurd h (by simp)⟩
theorem MkOs.fix {b : List Bn} {l : List Oc} {t t2 no ki : Int} {x : Bn} (h : MkOs b l t) (hb : MkBs b) (hx : x ∈ b) (hk : ki ∈ kinds8) (h0 : 0 ≤ t) (ht : t ≤ t2 ∧ t2 ≤ 1000) (hn : 1 ≤ no ∧ no ≤ 4) : MkOs b (l ++ [fixO t2 no ki x]) t2 := by
  have hxc : bcode x = 0 := by obtain ⟨i, hi, rfl⟩ := List.getElem_of_mem hx; exact hb.ok i hi
  obtain ⟨h1, h2⟩ := fixO_ok (t := t2) hk ⟨by omega, by omega⟩ hn hxc
  have h3 := h.snoc h1 (by rw [fixO_ti]; exact ht.1) (fun hu => by rw [h2 hu]; exact List.mem_map_of_mem hx)
  rwa [fixO_ti] at h3
end Go.Proofs.YthfmkkkdjgkaoaaGreatDoor
namespace Go.Proofs.YthfmkkkdjgkaoaaGreatDoor
open Go.RowKit
def IsRow (k : IntKind) (w : World) (a : Option Addr) (len cap : Nat) (zs : List Int) : Prop :=
  (a = none ∧ len = 0 ∧ cap = 0 ∧ zs = []) ∨
  ∃ x, a = some x ∧ len ≤ cap ∧ cap ≤ maxLen ∧ zs.length = cap ∧ (∀ i, i < zs.length → w.cell? (x.add i) = some (.int k (zs.getD i 0))) ∧ ∀ n ∈ zs, (Lit.int k n).wf = true
def Row (k : IntKind) (w : World) (a : Option Addr) (cap : Nat) (zs : List Int) : Prop :=
  zs.length ≤ cap ∧ cap ≤ maxLen ∧ (∀ z ∈ zs, (Lit.int k z).wf = true) ∧
  (a = none → cap = 0) ∧
  (0 < zs.length → ∃ b off, a = some ⟨b, off, none⟩ ∧ b < w.heap.size ∧ ∀ i (h : i < zs.length), w.cell? ⟨b, off + i, none⟩ = some (.int k zs[i]))
theorem row_of {k : IntKind} {w : World} {a : Option Addr} {len cap : Nat} {zs : List Int} (h : IsRow k w a len cap zs) : len = (zs.take len).length ∧ Row k w a cap (zs.take len) := by
  rcases h with ⟨rfl, rfl, rfl, rfl⟩ | ⟨x, rfl, hl, hm, hz, hc, hw⟩
  · exact ⟨rfl, Nat.le_refl _, by unfold maxLen; omega, by simp, fun _ => rfl, fun h => by simp at h⟩
  · have e : (zs.take len).length = len := by rw [List.length_take]; omega
    refine ⟨e.symm, by omega, hm, fun z hz => hw z (List.mem_of_mem_take hz), by simp, fun h0 => ?_⟩
    rw [e] at h0
    have h1 := hc 0 (by omega)
    obtain ⟨b, off, spot⟩ := x
    have hs : spot = none := by simpa [Addr.add] using World.cell?_spot h1
    subst hs
    refine ⟨b, off, rfl, ?_, fun i hi => ?_⟩
    · unfold World.cell? at h1
      simp only [Addr.add] at h1
      have : ∃ o, w.heap[b]? = some o := by
        cases ho : w.heap[b]? with
        | none => simp [ho] at h1
        | some o => exact ⟨o, rfl⟩
      obtain ⟨o, ho⟩ := this
      exact (Array.getElem?_eq_some_iff.1 ho).1
    · have hi' : i < len := by omega
      have := hc i (by omega)
      rw [Addr.add_lit] at this
      rw [this]
      congr 2
      rw [List.getElem_take, List.getD_eq_getElem?_getD, List.getElem?_eq_getElem (by omega)]
      rfl
theorem Row.below {k : IntKind} {w w' : World} {a : Option Addr} {cap : Nat} {zs : List Int} (h : Row k w a cap zs) (hb : Below w.heap.size w w') : Row k w' a cap zs := by
  obtain ⟨h1, h2, h3, h5, h4⟩ := h
  refine ⟨h1, h2, h3, h5, fun h0 => ?_⟩
  obtain ⟨b, off, e, hlt, hc⟩ := h4 h0
  exact ⟨b, off, e, Nat.lt_of_lt_of_le hlt hb.size, fun i hi => (hb.cell (p := ⟨b, off + i, none⟩) hlt).trans (hc i hi)⟩
end Go.Proofs.YthfmkkkdjgkaoaaGreatDoor
namespace Go.Proofs.YthfmkkkdjgkaoaaGreatDoor
open Go.RowKit
theorem emod_tmod (a n : Int) (h : 1 ≤ n) : (a.tmod n < 0 → a % n = a.tmod n + n) ∧ (¬ a.tmod n < 0 → a % n = a.tmod n) ∧ -n < a.tmod n ∧ a.tmod n < n := by
  have h1 := Int.emod_nonneg a (show n ≠ 0 by omega)
  have h2 := Int.emod_lt_of_pos a (show 0 < n by omega)
  have h3 := Int.tmod_eq_emod (a := a) (b := n)
  split at h3 <;> omega
set_option maxRecDepth 100000 in
theorem mod_any (a n : Int) (w : World) (h1 : 1 ≤ n) (h2 : n ≤ 1152921504606846976) :
    Calls Tryz.prog 22 #[.int .i64 a, .int .i64 n] w fun e w' => e = .returned (.int .i64 (a % n)) ∧ w = w' := by
  obtain ⟨m1, m2, m3, m4⟩ := emod_tmod a n h1
  have hz : (n == 0) = false := by simp; omega
  have e1 : IntKind.i64.wrap (a.tmod n) = a.tmod n := IntWalk.i64_in _ (by omega)
  have e2 : IntKind.i64.wrap (a.tmod n + n) = a.tmod n + n := IntWalk.i64_in _ (by omega)
  by_cases c : a.tmod n < 0
  · rw [m1 c]
    clear m1 m2
    go_enter Tryz.func22, Tryz.ntmps22
    go_wp2
    go_ret
    exact ⟨rfl, rfl⟩
  · rw [m2 c]
    clear m1 m2
    go_enter Tryz.func22, Tryz.ntmps22
    go_wp2
    go_ret
    exact ⟨rfl, rfl⟩
end Go.Proofs.YthfmkkkdjgkaoaaGreatDoor
namespace Go.Proofs.YthfmkkkdjgkaoaaGreatDoor
open Go.RowKit
set_option maxRecDepth 100000 in
theorem at_any (a : Option Addr) (cap : Nat) (zs : List Int) (k : Nat) (w : World) (h : Row .i64 w a cap zs) (hk : k ≤ 100) :
    Calls Tryz.prog 49 #[.slice a zs.length cap, .int .i64 k] w fun e w' => e = .returned (.int .i64 (zs.getD k 0)) ∧ w = w' := by
  obtain ⟨r1, r2, _, _, r3⟩ := h
  unfold maxLen at r2
  by_cases c : k < zs.length
  · obtain ⟨b, off, rfl, _, hc⟩ := r3 (by omega)
    have hk1 := hc k c
    clear hc r3
    obtain ⟨x, hx⟩ : ∃ x, x = zs[k] := ⟨_, rfl⟩
    have hv : zs.getD k 0 = x := by rw [hx, List.getD_eq_getElem?_getD, List.getElem?_eq_getElem c]; rfl
    rw [← hx] at hk1
    rw [hv]
    clear hv hx
    have c' : (k : Int) < (zs.length : Int) := by omega
    go_enter Tryz.func49, Tryz.ntmps49
    go_wp2
    go_ret
    exact ⟨rfl, rfl⟩
  · have hv : zs.getD k 0 = 0 := by rw [List.getD_eq_getElem?_getD, List.getElem?_eq_none (by omega)]; rfl
    rw [hv]
    clear hv r3
    have c' : (zs.length : Int) ≤ (k : Int) := by omega
    go_enter Tryz.func49, Tryz.ntmps49
    go_wp2
    go_ret
    exact ⟨rfl, rfl⟩
end Go.Proofs.YthfmkkkdjgkaoaaGreatDoor
namespace Go.Proofs.YthfmkkkdjgkaoaaGreatDoor
open Go.RowKit
theorem infoU8K : (Tryz.prog.info? 5).map (fun i => (i.zero, i.size, i.bytes)) = some (some (.int .u8 0), 1, 1) := by kernel_rfl
def bytL (zs : List Int) (most : Nat) : List UInt8 := (zs.take most).map fun z => UInt8.ofNat (z % 256).toNat
theorem bytL_succ (zs : List Int) (k : Nat) (h : k < zs.length) : bytL zs (k + 1) = bytL zs k ++ [UInt8.ofNat (zs[k] % 256).toNat] := by
  unfold bytL; rw [List.take_succ_eq_append_getElem h, List.map_append]; rfl
theorem bytL_len (zs : List Int) (k : Nat) (h : k ≤ zs.length) : (bytL zs k).length = k := by
  unfold bytL; simp; omega
set_option maxRecDepth 100000 in
set_option maxHeartbeats 1600000 in
theorem bytes_any (a : Option Addr) (cap : Nat) (zs : List Int) (most : Nat) (hm : most ≤ 1000) (w : World) (h : Row .i64 w a cap zs) :
    Calls Tryz.prog 50 #[.slice a zs.length cap, .int .i64 (most : Int)] w fun e w' => e = .returned (bstr (bytL zs (min most zs.length))) ∧ Below w.heap.size w w' := by
  obtain ⟨i0, hi, hz0, hz1, hz2⟩ := info_parts infoU8K
  have Hi := Lib.hid hi; clear hi
  have Hz0 := Lib.hid hz0; clear hz0
  have Hz1 := Lib.hid hz1; clear hz1
  have Hz2 := Lib.hid hz2; clear hz2
  have HR := Lib.hid h
  have h1 := h.1; have h2 := h.2.1
  unfold maxLen at h2
  obtain ⟨N, hN⟩ : ∃ N, min most zs.length = N := ⟨_, rfl⟩
  have hN1 : N ≤ most := by omega
  have hN2 : N ≤ zs.length := by omega
  have hN3 : ∀ k, k ≤ N → ¬ k < N → (most ≤ k ∨ zs.length ≤ k) := fun k _ _ => by omega
  rw [hN]
  have HN := Lib.hid hN3
  clear h hN hN3
  go_enter Tryz.func50, Tryz.ntmps50
  go_wp2
  go_loopw [5, 6] (fun v ii wr => ∃ j : Nat, ii = .int .i64 (j : Int) ∧ j ≤ N ∧ wr.ownsRow w.heap.size 5 1 v j ((bytL zs j).map fun b => Value.int .u8 (b.toNat : Int)) ∧ Below w.heap.size w wr) (fun _ ii _ => N - (intOf ii).toNat)
  case atStart => exact ⟨0, rfl, by omega, World.ownsRow_nil _ _ _ _, Below.refl _ _⟩
  case round =>
    obtain ⟨j, rfl, hj, hown, hb⟩ := hrel
    have Hown := Lib.hid hown; clear hown
    have hbs := hb.size
    by_cases hlt : j < N
    · have hjl : j < zs.length := by omega
      have c1 : (j : Int) < (zs.length : Int) := by omega
      have c2 : (j : Int) < (most : Int) := by omega
      obtain ⟨b, off, ha, hblt, hcell⟩ := (HR.out.below hb).2.2.2.2 (by omega)
      have hx := hcell j hjl
      clear hcell
      have hs := bytL_succ zs j hjl
      obtain ⟨z, hz⟩ : ∃ z, zs[j] = z := ⟨_, rfl⟩
      rw [hz] at hx hs
      have z1 := Int.emod_nonneg z (show (256 : Int) ≠ 0 by omega)
      have z2 := Int.emod_lt_of_pos z (show (0 : Int) < 256 by omega)
      obtain ⟨y, hy⟩ : ∃ y : Int, z % 256 = y := ⟨_, rfl⟩
      have gm := fun w => mod_any z 256 w (by omega) (by omega)
      rw [hy] at z1 z2 hs gm
      have q1 : IntKind.u8.wrap y = ((UInt8.ofNat y.toNat).toNat : Int) := by rw [IntKind.wrap_u8', UInt8.toNat_ofNat']; omega
      obtain ⟨bb, hbb⟩ : ∃ bb, UInt8.ofNat y.toNat = bb := ⟨_, rfl⟩
      rw [hbb] at q1 hs
      replace gm := Lib.hid gm
      have Hs := Lib.hid hs
      subst ha
      clear hs hz hy hbb z1 z2
      go_wp2_with (first | (go_at_call 22; (with_reducible refine (gm.out _).mono ?_); rintro e wx ⟨rfl, rfl⟩) | (at_builtin; refine wpList_append_own _ rfl _ _ 85 rfl w.heap.size 5 i0 (.int .u8 0) 1 1 Tryz.underlying85 Hi.out Hz0.out Hz1.out Hz2.out rfl (by decide) _ j _ rfl (Hown.out.alloc _) ⟨wr.heap.size, 0, none⟩ 1 1 [.int .u8 (bb.toNat : Int)] rfl rfl (cell_one_new _ _ _) (by simp [Value.oneCell']) (by unfold maxLen; omega) (by omega) (by simp; omega) ?_; intro v' w2 hown2 hgrow2 _))
      go_roundw
      case rel => exact ⟨j + 1, by go_num, by omega, by rw [Hs.out, List.map_append]; exact hown2, (hb.alloc hb.size _).grown hgrow2 (by simp; omega) (fun k e => (Hown.out.lt k e).1)⟩
      case measure => simp [intOf]; omega
    · obtain rfl : j = N := by omega
      have hbl := bytL_len zs j hN2
      have hend : (convert 85 9 u5).run Tryz.prog wr = .ok (bstr (bytL zs j)) wr := by
        rcases Hown.out.2 with ⟨h, hnil⟩ | ⟨g, cap', cur, h, hg⟩
        · have hj0 : j = 0 := by simpa using hnil
          have h0 : bytL zs j = [] := by rw [hj0]; rfl
          rw [h0, h]
          first | kernel_rfl | rfl | (rw [run_convert_bytes_string _ _ _ _ _ _ _ Tryz.underlying85 Tryz.underlying5 Tryz.underlying9]; rfl)
        · rw [h]
          have := run_convert_bytes_back (P := Tryz.prog) wr 85 9 5 ⟨g, 0, none⟩ cap' (bytL zs j) Tryz.underlying85 Tryz.underlying5 Tryz.underlying9 (fun i hi => by
            rw [Addr.add_lit, Nat.zero_add]
            have hc := World.ownsRow.cellAt (h ▸ Hown.out) i (by omega)
            rw [hc]
            simp [hi])
          rw [hbl] at this
          exact this
      rcases HN.out j (Nat.le_refl _) (by omega) with hc | hc
      · have c2 : (most : Int) ≤ (j : Int) := by omega
        by_cases c1 : (j : Int) < (zs.length : Int)
        · go_wp2
          go_ret
          exact ⟨rfl, hb⟩
        · go_wp2
          go_ret
          exact ⟨rfl, hb⟩
      · have c1 : (zs.length : Int) ≤ (j : Int) := by omega
        go_wp2
        go_ret
        exact ⟨rfl, hb⟩
end Go.Proofs.YthfmkkkdjgkaoaaGreatDoor
