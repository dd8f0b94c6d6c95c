/- Parts of a proof, printed by a program of mine out of my texts: more of SoMath, SoEq, SoMap, SoOwn, SoSame, RpLat, RpOwn, RpAsc, RpRCo, RpAsp, RpSame, RpHlp, RpTxF, RpLsP. -/
import Derived.Deep.Cut
import Derived.Deep.CutRange
import Derived.Deep.RegionHeld
import Derived.Laws.AppendOwnNone
import Derived.Maps.OwnOps
import Derived.OrdersHeld
import Derived.OwnWalk
import Derived.RowKit
import Derived.Test.YthfmkkkdjgkaoaaGreatDoorMAC
import Derived.Test.YthfmkkkdjgkaoaaGreatDoorMH
import Derived.Test.YthfmkkkdjgkaoaaGreatDoorMK
import Derived.Test.YthfmkkkdjgkaoaaGreatDoorMM
import Derived.Test.YthfmkkkdjgkaoaaGreatDoorMP
import Derived.Test.YthfmkkkdjgkaoaaGreatDoorMR
import Derived.Test.YthfmkkkdjgkaoaaGreatDoorMU
import Derived.Test.YthfmkkkdjgkaoaaGreatDoorMZ
set_option linter.unusedSimpArgs false
set_option linter.unusedVariables false
namespace Go.Proofs.YthfmkkkdjgkaoaaGreatDoor
variable {α : Type}
theorem insRev_mid (lt : α → α → Bool) (x : α) : ∀ (a b : List α), (∀ y ∈ a, lt x y = true) → (∀ y, b.head? = some y → lt x y = false) → insRev lt x (a ++ b) = a ++ x :: b
  | [], [], _, _ => rfl
  | [], y :: r, _, h => by simp [insRev, h y rfl]
  | y :: a, b, h, h2 => by
    simp only [List.cons_append, insRev]
    rw [if_pos (h y (by simp)), insRev_mid lt x a b (fun z hz => h z (by simp [hz])) h2]
theorem insR_mid (lt : α → α → Bool) (x : α) (a b : List α) (h : ∀ y ∈ b, lt x y = true) (h2 : ∀ y, a.getLast? = some y → lt x y = false) : insR lt x (a ++ b) = a ++ x :: b := by
  unfold insR
  rw [List.reverse_append, insRev_mid lt x b.reverse a.reverse (by simpa using h) (by simpa [List.head?_reverse] using h2)]
  simp
theorem isort_snoc (lt : α → α → Bool) (l : List α) (x : α) : isort lt (l ++ [x]) = insR lt x (isort lt l) := by simp [isort]
end Go.Proofs.YthfmkkkdjgkaoaaGreatDoor
namespace Go.Proofs.YthfmkkkdjgkaoaaGreatDoor
open Go.RowKit
theorem bytes_toList_iff (a b : ByteArray) : a.toList = b.toList ↔ a = b := by
  rw [ByteArray.toList_eq, ByteArray.toList_eq]
  constructor
  · intro h
    obtain ⟨⟨a⟩⟩ := a
    obtain ⟨⟨b⟩⟩ := b
    have : a = b := h
    rw [this]
  · rintro rfl; rfl
def eqB (x y : Bn) : Bool := decide (x.no = y.no ∧ x.sq = y.sq ∧ x.of = y.of ∧ x.de = y.de ∧ x.pr = y.pr ∧ x.bo = y.bo ∧ x.li = y.li ∧ x.to = y.to ∧ x.da.toList = y.da.toList)
theorem eqB_iff (x y : Bn) : eqB x y = true ↔ x = y := by
  constructor
  · intro h
    obtain ⟨a1, a2, a3, a4, a5, a6, a7, a8, a9⟩ := x
    obtain ⟨b1, b2, b3, b4, b5, b6, b7, b8, b9⟩ := y
    simp only [eqB, decide_eq_true_eq, bytes_toList_iff] at h
    obtain ⟨rfl, rfl, rfl, rfl, rfl, rfl, rfl, rfl, rfl⟩ := h
    rfl
  · rintro rfl; simp [eqB]
set_option maxHeartbeats 1600000 in
theorem run_bnNe (x y : Bn) (w : World) : Sem.run Tryz.prog (binOp BinOp.neq 54 (.agg (bn x).toArray) (.agg (bn y).toArray)) w = .ok (.bool (!eqB x y)) w := by
  obtain ⟨a1, a2, a3, a4, a5, a6, a7, a8, a9⟩ := x
  obtain ⟨b1, b2, b3, b4, b5, b6, b7, b8, b9⟩ := y
  simp only [eqB, bn]
  go_simp
  refine (Decidable.em (a1 = b1)).elim (fun h1 => ?_) (fun h1 => by simp [h1])
  subst h1
  refine (Decidable.em (a2 = b2)).elim (fun h2 => ?_) (fun h2 => by simp [h2])
  subst h2
  refine (Decidable.em (a3 = b3)).elim (fun h3 => ?_) (fun h3 => by simp [h3])
  subst h3
  refine (Decidable.em (a4 = b4)).elim (fun h4 => ?_) (fun h4 => by simp [h4])
  subst h4
  refine (Decidable.em (a5 = b5)).elim (fun h5 => ?_) (fun h5 => by simp [h5])
  subst h5
  refine (Decidable.em (a6 = b6)).elim (fun h6 => ?_) (fun h6 => by simp [h6])
  subst h6
  refine (Decidable.em (a7 = b7)).elim (fun h7 => ?_) (fun h7 => by simp [h7])
  subst h7
  refine (Decidable.em (a8 = b8)).elim (fun h8 => ?_) (fun h8 => by simp [h8])
  subst h8
  by_cases h9 : a9.toList = b9.toList
  · simp [h9]
  · simp [h9]
end Go.Proofs.YthfmkkkdjgkaoaaGreatDoor
namespace Go.Proofs.YthfmkkkdjgkaoaaGreatDoor
open Go.RowKit
theorem idL_len (k : Id3) : (idL k).length = 3 := rfl
theorem idL_one (k : Id3) : ∀ u ∈ idL k, u.oneCell' = true := by
  intro u hu
  simp only [idL, List.mem_cons, List.not_mem_nil, or_false] at hu
  rcases hu with rfl | rfl | rfl <;> rfl
theorem run_idKNe (a b : Id3) (w : World) : Sem.run Tryz.prog (binOp BinOp.neq 52 (.agg (idL a).toArray) (.agg (idL b).toArray)) w = .ok (.bool (!decide (a = b))) w := by
  obtain ⟨a1, a2, a3⟩ := a
  obtain ⟨b1, b2, b3⟩ := b
  unfold idL
  go_simp
  by_cases h1 : a1 = b1
  · by_cases h2 : a2 = b2
    · by_cases h3 : a3 = b3 <;> simp [h1, h2, h3]
    · simp [h1, h2]
  · simp [h1]
section
variable {ops : Array Oper} {rest : List Oper} {o : Oper} {a : Act} {w : World}
end
end Go.Proofs.YthfmkkkdjgkaoaaGreatDoor
namespace Go.Proofs.YthfmkkkdjgkaoaaGreatDoor
open Go.RowKit
theorem infoBu : (Tryz.prog.info? 54).map (fun i => (i.zero, i.size, i.bytes)) = some (some (.agg #[.int .i64 0, .int .u64 0, .int .i64 0, .int .i64 0, .int .i64 0, .int .i64 0, .int .i64 0, .int .i64 0, .string ⟨#[]⟩]), 9, 80) := by kernel_rfl
theorem rowC_one_cell (l : List Bn) : ∀ u ∈ rowC bn l, u.oneCell' = true := by
  intro u hu
  simp only [rowC, List.mem_flatMap] at hu
  obtain ⟨x, _, hx⟩ := hu
  exact bn_one x u hx
theorem srow_cells {w : World} {a : Option Addr} {cap : Nat} {l : List Bn} (h : SRow bn 9 w a cap l) (h0 : 0 < l.length) : ∃ b off, a = some ⟨b, off, none⟩ ∧ b < w.heap.size ∧ ∀ j u, (rowC bn l)[j]? = some u → w.cell? ⟨b, off + j, none⟩ = some u := by
  obtain ⟨b, off, e, hlt, hc⟩ := h.2.2.2 h0
  refine ⟨b, off, e, hlt, fun j u hj => ?_⟩
  have hjl : j < l.length * 9 := by
    have := (List.getElem?_eq_some_iff.1 hj).1
    rwa [rowC_length bn_len] at this
  have hi : j / 9 < l.length := by omega
  have h2 := rowC_cell bn_len l (j / 9) (j % 9) hi (by omega) []
  rw [List.append_nil, show j / 9 * 9 + j % 9 = j by omega, hj] at h2
  have := hc (j / 9) hi (j % 9) u h2.symm
  rwa [show off + j / 9 * 9 + j % 9 = off + j by omega] at this
theorem own_empty9 (w : World) (e : TypeId) : (w.alloc (.cells #[] e)).ownsRow w.heap.size e 9 (.slice (some ⟨w.heap.size, 0, none⟩) 0 0) 0 [] :=
  ⟨rfl, .inr ⟨w.heap.size, 0, #[], rfl, Nat.le_refl _, heap_alloc_new w _, Nat.le_refl _, by unfold maxLen; omega, rfl, rfl⟩⟩
set_option maxRecDepth 100000 in
set_option maxHeartbeats 1600000 in
theorem ownB_any (a : Option Addr) (cap : Nat) (l : List Bn) (hl : l.length ≤ 100000) (h0 : 0 < l.length) (w : World) (hrow : SRow bn 9 w a cap l) :
    Calls Tryz.prog 7 #[.slice a l.length cap] w fun e w' => ∃ v, e = .returned v ∧ w'.ownsRow w.heap.size 54 9 v l.length (rowC bn l) ∧ Below w.heap.size w w' := by
  obtain ⟨b, off, rfl, hlt, hc⟩ := srow_cells hrow h0
  obtain ⟨i0, hi, hz0, hz1, hz2⟩ := info_parts infoBu
  have Hi := Lib.hid hi; have Hz0 := Lib.hid hz0; have Hz1 := Lib.hid hz1; have Hz2 := Lib.hid hz2
  have HC := Lib.hid hc
  clear hi hz0 hz1 hz2 hc hrow
  go_enter Tryz.func7, Tryz.ntmps7
  go_wp2_with (at_builtin; refine wpList_append_own _ rfl _ _ 22 rfl w.heap.size 54 i0 (.agg #[.int .i64 0, .int .u64 0, .int .i64 0, .int .i64 0, .int .i64 0, .int .i64 0, .int .i64 0, .int .i64 0, .string ⟨#[]⟩]) 9 80 Tryz.underlying22 Hi.out Hz0.out Hz1.out Hz2.out rfl (by decide) _ 0 [] rfl (own_empty9 w _) ⟨b, off, none⟩ l.length cap (rowC bn l) rfl (rowC_length bn_len l) (fun j u hj => (by rw [Addr.add_mid, ((Below.refl w.heap.size w).alloc (Nat.le_refl _) _).cell (p := ⟨b, off + j, none⟩) hlt]; exact HC.out j u hj)) (rowC_one_cell l) (by unfold maxLen; omega) (by omega) (by simp) ?_; intro v' wb hown2 hgrow2 _)
  go_ret
  refine ⟨_, rfl, ?_, ?_⟩
  · simpa using hown2
  · exact ((Below.refl _ _).alloc (Nat.le_refl _) _).grown hgrow2 (by simp) (fun k e => (own_empty9 w 54).lt k e |>.1)
set_option maxRecDepth 100000 in
set_option maxHeartbeats 1600000 in
theorem ownB_nil (a : Option Addr) (cap : Nat) (hn : a = none → cap = 0) (w : World) :
    Calls Tryz.prog 7 #[.slice a 0 cap] w fun e w' => ∃ v, e = .returned v ∧ w'.ownsRow w.heap.size 54 9 v 0 [] ∧ Below w.heap.size w w' := by
  obtain ⟨i0, hi, hz0, hz1, hz2⟩ := info_parts infoBu
  have Hi := Lib.hid hi; have Hz0 := Lib.hid hz0; have Hz1 := Lib.hid hz1; have Hz2 := Lib.hid hz2
  clear hi hz0 hz1 hz2
  cases a with
  | none =>
    obtain rfl := hn rfl
    clear hn
    go_enter Tryz.func7, Tryz.ntmps7
    go_wp2_with (at_builtin; refine wpList_append_own_none rfl _ _ 22 rfl w.heap.size 54 i0 9 Tryz.underlying22 Hi.out _ 0 [] rfl (own_empty9 w _) rfl ?_)
    go_ret
    exact ⟨_, rfl, own_empty9 w _, by (repeat (first | (with_reducible assumption) | (with_reducible exact Below.refl _ _) | (with_reducible refine beld_drew ?_) | ((with_reducible refine bset' ?_ ?_); (first | (focus (dsimp only; assumption)) | (focus (simp; done)) | (focus (dsimp only; omega)))) | (with_reducible refine belt_alloc ?_) | ((with_reducible refine zeroed_below' ?_ ?_); (first | (focus (simp; done)) | (focus (dsimp only; omega)))) | (with_reducible refine bt ?_ (by assumption))))⟩
  | some ad =>
    clear hn
    go_enter Tryz.func7, Tryz.ntmps7
    go_wp2_with (at_builtin; refine wpList_append_own _ rfl _ _ 22 rfl w.heap.size 54 i0 (.agg #[.int .i64 0, .int .u64 0, .int .i64 0, .int .i64 0, .int .i64 0, .int .i64 0, .int .i64 0, .int .i64 0, .string ⟨#[]⟩]) 9 80 Tryz.underlying22 Hi.out Hz0.out Hz1.out Hz2.out rfl (by decide) _ 0 [] rfl (own_empty9 w _) ad 0 cap [] rfl rfl (fun j u hj => by simp at hj) (by simp) (by unfold maxLen; omega) (by omega) (by simp) ?_; intro v' wb hown2 hgrow2 _)
    go_ret
    refine ⟨_, rfl, ?_, ?_⟩
    · simpa using hown2
    · exact ((Below.refl _ _).alloc (Nat.le_refl _) _).grown hgrow2 (by simp) (fun k e => (own_empty9 w 54).lt k e |>.1)
theorem own_any (a : Option Addr) (cap : Nat) (l : List Bn) (hl : l.length ≤ 100000) (w : World) (hrow : SRow bn 9 w a cap l) :
    Calls Tryz.prog 7 #[.slice a l.length cap] w fun e w' => ∃ v, e = .returned v ∧ w'.ownsRow w.heap.size 54 9 v l.length (rowC bn l) ∧ Below w.heap.size w w' := by
  rcases Nat.eq_zero_or_pos l.length with h | h
  · obtain rfl := List.length_eq_zero_iff.1 h
    exact ownB_nil a cap hrow.2.2.1 w
  · exact ownB_any a cap l hl h w hrow
end Go.Proofs.YthfmkkkdjgkaoaaGreatDoor
namespace Go.Proofs.YthfmkkkdjgkaoaaGreatDoor
open Go.RowKit
def sameL : List Bn → List Bn → Bool
  | [], [] => true
  | x :: l, y :: m => eqB x y && sameL l m
  | _, _ => false
theorem sameL_iff : ∀ l m : List Bn, sameL l m = true ↔ l = m
  | [], [] => by simp [sameL]
  | [], y :: m => by simp [sameL]
  | x :: l, [] => by simp [sameL]
  | x :: l, y :: m => by simp [sameL, eqB_iff, sameL_iff l m]
theorem sameL_no {l m : List Bn} (h : l ≠ m) : sameL l m = false := by
  cases hs : sameL l m
  · rfl
  · exact absurd ((sameL_iff l m).1 hs) h
theorem takeB_succ {xs ys : List Bn} {k : Nat} (h1 : k < xs.length) (h2 : k < ys.length) (h : xs.take k = ys.take k) (he : xs[k] = ys[k]) : xs.take (k + 1) = ys.take (k + 1) := by
  rw [List.take_succ_eq_append_getElem h1, List.take_succ_eq_append_getElem h2, h, he]
set_option maxRecDepth 100000 in
set_option maxHeartbeats 1600000 in
theorem sameB_any (a1 a2 : Option Addr) (c1 c2 : Nat) (l m : List Bn) (hl : l.length ≤ 100000) (hm : m.length ≤ 100000) (w : World) (h1 : SRow bn 9 w a1 c1 l) (h2 : SRow bn 9 w a2 c2 m) :
    Calls Tryz.prog 18 #[.slice a1 l.length c1, .slice a2 m.length c2] w fun e w' => e = .returned (.bool (sameL l m)) ∧ Below w.heap.size w w' := by
  have H1 := Lib.hid h1; have H2 := Lib.hid h2; clear h1 h2
  by_cases hlen : l.length = m.length
  · have q1 : ((l.length : Int) != (m.length : Int)) = false := by simp [hlen]
    have HL := Lib.hid hlen
    clear hlen
    go_enter Tryz.func18, Tryz.ntmps18
    go_wp2
    go_loopw [5] (fun i wr => ∃ k : Nat, i = .int .i64 k ∧ k ≤ l.length ∧ Hid (l.take k = m.take k) ∧ Below w.heap.size w wr) (fun i _ => l.length - (intOf i).toNat)
    case atStart => exact ⟨0, rfl, Nat.zero_le _, Lib.hid rfl, Below.refl _ _⟩
    case round =>
      obtain ⟨k, rfl, hk, hE0, hB⟩ := hrel
      by_cases hlt : k < l.length
      · have hlm : k < m.length := by have := HL.out; omega
        have i1 : (k : Int) < (l.length : Int) := by omega
        have i2 : (k : Int) < (m.length : Int) := by omega
        obtain ⟨b1, o1, rfl, g1, r1⟩ := (H1.out.below hB).2.2.2 (by omega)
        obtain ⟨b2, o2, rfl, g2, r2⟩ := (H2.out.below hB).2.2.2 (by omega)
        obtain ⟨x, hx⟩ : ∃ x, x = l[k] := ⟨_, rfl⟩
        obtain ⟨y, hy⟩ : ∃ x, x = m[k] := ⟨_, rfl⟩
        have R1 := r1 k hlt
        have R2 := r2 k hlm
        rw [← hx] at R1
        rw [← hy] at R2
        clear r1 r2
        have E := fun W => run_bnNe x y W
        obtain ⟨q, hq⟩ : ∃ q, eqB x y = q := ⟨_, rfl⟩
        rw [hq] at E
        have HX := Lib.hid hx; have HY := Lib.hid hy; have HQ := Lib.hid hq
        clear hx hy hq
        go_wp2_with fail
        refine wp_region_in (by kernel_rfl) (by kernel_rfl) ?_
        intro W0 hE hN
        have r1 : W0.rangeAt b1 (o1 + k * 9) (bn x) := (by rw [hE.out]; exact R1)
        have r2 : W0.rangeAt b2 (o2 + k * 9) (bn y) := (by rw [hE.out]; exact R2)
        have g1' : b1 < W0.heap.size := (by rw [hE.out]; exact g1)
        have g2' : b2 < W0.heap.size := (by rw [hE.out]; exact g2)
        have hB' : Below w.heap.size w W0 := (by rw [hE.out]; exact hB)
        clear hE R1 R2 g1 g2 hB
        refine wpQuiet_split 3 ?_
        simp only [List.take_succ_cons, List.take_zero, List.drop_succ_cons, List.drop_zero]
        repeat (go_big_quiet_step (fail))
        refine wpQuiet_nil ?_
        refine wpQuiet_load_range 54 (.tmp 19) b1 (o1 + k * 9) (bn x) (fun W hW => by obtain ⟨x', rfl⟩ := hW; exact range_below g1' r1 x'.ok) _ (by kernel_rfl) rfl (by kernel_rfl) Tryz.underlying54 rfl (by kernel_rfl) ?_
        conv => arg 6; simp [Act.put]
        refine wpQuiet_split 3 ?_
        simp only [List.take_succ_cons, List.take_zero, List.drop_succ_cons, List.drop_zero]
        repeat (go_big_quiet_step (fail))
        refine wpQuiet_nil ?_
        refine wpQuiet_load_range 54 (.tmp 23) b2 (o2 + k * 9) (bn y) (fun W hW => by obtain ⟨x', rfl⟩ := hW; exact range_below g2' r2 x'.ok) _ (by kernel_rfl) rfl (by kernel_rfl) Tryz.underlying54 rfl (by kernel_rfl) ?_
        conv => arg 6; simp [Act.put]
        repeat (go_big_quiet_step (fail))
        refine wpQuiet_nil ?_
        rintro _ ⟨x', rfl⟩
        have hB2 := bt hB' x'.ok
        obtain ⟨u, hu⟩ : ∃ u, u = x'.wd := ⟨_, rfl⟩
        rw [← hu] at hB2 ⊢
        clear hu x' hN r1 r2 g1' g2' hB' E
        cases q
        · go_wp2
          go_ret
          refine ⟨?_, hB2⟩
          rw [sameL_no (fun e => by subst e; have h3 := HQ.out; rw [HX.out, HY.out] at h3; exact absurd ((eqB_iff _ _).2 rfl) (by rw [h3]; decide))]
          rfl
        · go_wp2
          go_roundw
          case rel => exact ⟨k + 1, by go_num, by omega, Lib.hid (takeB_succ hlt hlm hE0.out (by rw [← HX.out, ← HY.out]; exact (eqB_iff _ _).1 HQ.out)), hB2⟩
          case measure => simp [intOf]; omega
      · obtain rfl : k = l.length := by omega
        have e : l = m := by
          have := hE0.out
          rwa [List.take_length, HL.out, List.take_length] at this
        have hs : sameL l m = true := (sameL_iff l m).2 e
        have HS := Lib.hid hs
        clear hs e
        go_wp2
        go_ret
        exact ⟨by rw [HS.out]; rfl, hB⟩
  · have q1 : ((l.length : Int) != (m.length : Int)) = true := by simp; omega
    rw [sameL_no (fun e => hlen (by rw [e]))]
    clear hlen
    go_enter Tryz.func18, Tryz.ntmps18
    go_wp2
    go_ret
    exact ⟨rfl, Below.refl _ _⟩
end Go.Proofs.YthfmkkkdjgkaoaaGreatDoor
namespace Go.Proofs.YthfmkkkdjgkaoaaGreatDoor
def rlG : List Oc → Int → Int → Int → Option (Int × Int × Int)
  | [], f, t, m => some (f, t, m)
  | o :: r, f, t, m => if o.ki = 1 then (if 0 ≤ t then none else rlG r o.ti t (m + 1)) else if o.ki = 8 then (if f < 0 ∨ 0 ≤ t then none else rlG r f o.ti m) else rlG r f t m
def rlE (x : Option (Int × Int × Int)) : Option Int := x.bind fun s => if s.2.2 ≠ 1 ∨ s.2.1 < 0 then none else some (s.2.1 - s.1)
theorem rlG_filter : ∀ (l : List Oc) (f t m : Int), rlG l f t m = rlG (l.filter kin18) f t m
  | [], _, _, _ => rfl
  | o :: r, f, t, m => by
    by_cases h1 : o.ki = 1
    · rw [List.filter_cons, if_pos (by simp [kin18, h1])]
      unfold rlG
      rw [if_pos h1, if_pos h1, rlG_filter r]
    · by_cases h8 : o.ki = 8
      · rw [List.filter_cons, if_pos (by simp [kin18, h8])]
        unfold rlG
        rw [if_neg h1, if_neg h1, if_pos h8, if_pos h8, rlG_filter r]
      · rw [List.filter_cons, if_neg (by simp [kin18, h1, h8])]
        conv => lhs; unfold rlG
        rw [if_neg h1, if_neg h8, rlG_filter r]
theorem rlG_many : ∀ (l : List Oc) (f t m : Int), 2 ≤ m → rlE (rlG l f t m) = none
  | [], f, t, m, h => by unfold rlG rlE; simp; omega
  | o :: r, f, t, m, h => by
    unfold rlG
    split
    · split
      · rfl
      · exact rlG_many r _ _ _ (by omega)
    · split
      · split
        · rfl
        · exact rlG_many r _ _ _ h
      · exact rlG_many r _ _ _ h
theorem rlG_1 {o : Oc} {r : List Oc} {f t m : Int} (h : o.ki = 1) (ht : t < 0) : rlG (o :: r) f t m = rlG r o.ti t (m + 1) := by
  conv => lhs; unfold rlG
  rw [if_pos h, if_neg (by omega)]
theorem rlG_1n {o : Oc} {r : List Oc} {f t m : Int} (h : o.ki = 1) (ht : 0 ≤ t) : rlG (o :: r) f t m = none := by
  unfold rlG
  rw [if_pos h, if_pos ht]
theorem rlG_8 {o : Oc} {r : List Oc} {f t m : Int} (h : o.ki = 8) (hf : 0 ≤ f) (ht : t < 0) : rlG (o :: r) f t m = rlG r f o.ti m := by
  conv => lhs; unfold rlG
  rw [if_neg (by omega), if_pos h, if_neg (by omega)]
theorem rlG_8n {o : Oc} {r : List Oc} {f t m : Int} (h : o.ki = 8) (ht : f < 0 ∨ 0 ≤ t) : rlG (o :: r) f t m = none := by
  unfold rlG
  rw [if_neg (by omega), if_pos h, if_pos ht]
theorem rlE_ok {f t : Int} (h : 0 ≤ t) : rlE (some (f, t, 1)) = some (t - f) := by
  show (if (1 : Int) ≠ 1 ∨ t < 0 then none else some (t - f)) = _
  rw [if_neg (by omega)]
theorem rlE_no {f t m : Int} (h : m ≠ 1 ∨ t < 0) : rlE (some (f, t, m)) = none := by
  show (if m ≠ 1 ∨ t < 0 then none else some (t - f)) = _
  rw [if_pos h]
theorem rlG_lat (l : List Oc) (id : Id3) (h0 : ∀ o ∈ l, 0 ≤ o.ti) : rlE (rlG (l.filter fun o => useI o.ki && decide (oid o = id)) (-1) (-1) 0) = latO l id := by
  rw [rlG_filter, List.filter_filter]
  have e : (l.filter fun o => kin18 o && (useI o.ki && decide (oid o = id))) = l.filter fun o => decide (oid o = id) && (decide (o.ki = 1) || decide (o.ki = 8)) := by
    refine List.filter_congr fun o _ => ?_
    unfold kin18
    by_cases h1 : o.ki = 1
    · simp [h1, useI]
    · by_cases h8 : o.ki = 8
      · simp [h8, useI]
      · simp [h1, h8]
  rw [e]
  unfold latO
  have hk : ∀ o ∈ l.filter (fun o => decide (oid o = id) && (decide (o.ki = 1) || decide (o.ki = 8))), (o.ki = 1 ∨ o.ki = 8) ∧ 0 ≤ o.ti := fun o ho => by
    obtain ⟨h1, h2⟩ := List.mem_filter.1 ho
    simp only [Bool.and_eq_true, Bool.or_eq_true, decide_eq_true_eq] at h2
    exact ⟨h2.2, h0 o h1⟩
  obtain ⟨F, hF⟩ : ∃ F, F = l.filter (fun o => decide (oid o = id) && (decide (o.ki = 1) || decide (o.ki = 8))) := ⟨_, rfl⟩
  rw [← hF] at hk ⊢
  clear hF e h0
  match F, hk with
  | [], _ => rfl
  | [a], hk =>
    show _ = none
    rcases (hk a (by simp)).1 with h | h
    · rw [rlG_1 h (by omega)]; exact rlE_no (.inr (by omega))
    · rw [rlG_8n h (.inl (by omega))]; rfl
  | [a, d], hk =>
    have ha := hk a (by simp)
    have hd := hk d (by simp)
    show _ = if a.ki = 1 ∧ d.ki = 8 then some (d.ti - a.ti) else none
    rcases ha.1 with h | h
    · rw [rlG_1 h (by omega)]
      rcases hd.1 with h' | h'
      · rw [rlG_1 h' (by omega), if_neg (by omega)]; exact rlE_no (.inl (by omega))
      · rw [rlG_8 h' ha.2 (by omega), if_pos ⟨h, h'⟩]; exact rlE_ok hd.2
    · rw [rlG_8n h (.inl (by omega)), if_neg (by omega)]; rfl
  | a :: d :: e :: r, hk =>
    have ha := hk a (by simp)
    have hd := hk d (by simp)
    have he := hk e (by simp)
    show _ = none
    rcases ha.1 with h | h
    · rw [rlG_1 h (by omega)]
      rcases hd.1 with h' | h'
      · rw [rlG_1 h' (by omega)]; exact rlG_many _ _ _ _ (by omega)
      · rw [rlG_8 h' ha.2 (by omega)]
        rcases he.1 with h9 | h9
        · rw [rlG_1n h9 hd.2]; rfl
        · rw [rlG_8n h9 (.inr hd.2)]; rfl
    · rw [rlG_8n h (.inl (by omega))]; rfl
end Go.Proofs.YthfmkkkdjgkaoaaGreatDoor
namespace Go.Proofs.YthfmkkkdjgkaoaaGreatDoor
open Go.RowKit
theorem rowOc_one_cell (l : List Oc) : ∀ u ∈ rowC oc l, u.oneCell' = true := by
  intro u hu
  simp only [rowC, List.mem_flatMap] at hu
  obtain ⟨x, _, hx⟩ := hu
  exact oc_one x u hx
theorem srow_cellsOc {w : World} {a : Option Addr} {cap : Nat} {l : List Oc} (h : SRow oc 7 w a cap l) (h0 : 0 < l.length) : ∃ b off, a = some ⟨b, off, none⟩ ∧ b < w.heap.size ∧ ∀ j u, (rowC oc l)[j]? = some u → w.cell? ⟨b, off + j, none⟩ = some u := by
  obtain ⟨b, off, e, hlt, hc⟩ := h.2.2.2 h0
  refine ⟨b, off, e, hlt, fun j u hj => ?_⟩
  have hjl : j < l.length * 7 := by
    have := (List.getElem?_eq_some_iff.1 hj).1
    rwa [rowC_length oc_len] at this
  have hi : j / 7 < l.length := by omega
  have h2 := rowC_cell oc_len l (j / 7) (j % 7) hi (by omega) []
  rw [List.append_nil, show j / 7 * 7 + j % 7 = j by omega, hj] at h2
  have := hc (j / 7) hi (j % 7) u h2.symm
  rwa [show off + j / 7 * 7 + j % 7 = off + j by omega] at this
theorem own_emptyOc (w : World) (e : TypeId) : (w.alloc (.cells #[] e)).ownsRow w.heap.size e 7 (.slice (some ⟨w.heap.size, 0, none⟩) 0 0) 0 [] :=
  ⟨rfl, .inr ⟨w.heap.size, 0, #[], rfl, Nat.le_refl _, heap_alloc_new w _, Nat.le_refl _, by unfold maxLen; omega, rfl, rfl⟩⟩
set_option maxRecDepth 100000 in
set_option maxHeartbeats 1600000 in
theorem lownOL_any (a : Option Addr) (cap : Nat) (l : List Oc) (hl : l.length ≤ 100000) (h0 : 0 < l.length) (w : World) (hrow : SRow oc 7 w a cap l) :
    Calls Tryz.prog 8 #[.slice a l.length cap] w fun e w' => OwnR oc 7 56 l w e w' := by
  obtain ⟨b, off, rfl, hlt, hc⟩ := srow_cellsOc hrow h0
  have HC := Lib.hid hc
  obtain ⟨i0, hi, hz0, hz1, hz2⟩ := info_parts infoOc
  have Hi := Lib.hid hi; have Hz0 := Lib.hid hz0; have Hz1 := Lib.hid hz1; have Hz2 := Lib.hid hz2
  clear hi hz0 hz1 hz2
  clear hc hrow
  go_enter Tryz.func8, Tryz.ntmps8
  go_wp2_with (at_builtin; refine wpList_append_own _ rfl _ _ 23 rfl w.heap.size 56 i0 (.agg #[.int .i64 0, .int .i64 0, .int .i64 0, .int .i64 0, .int .u64 0, .int .i64 0, .int .i64 0]) 7 56 Tryz.underlying23 Hi.out Hz0.out Hz1.out Hz2.out rfl (by decide) _ 0 [] rfl (own_emptyOc w _) ⟨b, off, none⟩ l.length cap (rowC oc l) rfl (rowC_length oc_len l) (fun j u hj => (by rw [Addr.add_mid, ((Below.refl w.heap.size w).alloc (Nat.le_refl _) _).cell (p := ⟨b, off + j, none⟩) hlt]; exact HC.out j u hj)) (rowOc_one_cell l) (by unfold maxLen; omega) (by omega) (by simp) ?_; intro v' wb hown2 hgrow2 _)
  go_ret
  refine ⟨_, rfl, ?_, ?_⟩
  · simpa [rowC] using hown2
  · exact ((Below.refl _ _).alloc (Nat.le_refl _) _).grown hgrow2 (by simp) (fun k e => (own_emptyOc w 56).lt k e |>.1)
set_option maxRecDepth 100000 in
set_option maxHeartbeats 1600000 in
theorem lownON_any (a : Option Addr) (cap : Nat) (hn : a = none → cap = 0) (w : World) :
    Calls Tryz.prog 8 #[.slice a 0 cap] w fun e w' => OwnR oc 7 56 [] w e w' := by
  obtain ⟨i0, hi, hz0, hz1, hz2⟩ := info_parts infoOc
  have Hi := Lib.hid hi; have Hz0 := Lib.hid hz0; have Hz1 := Lib.hid hz1; have Hz2 := Lib.hid hz2
  clear hi hz0 hz1 hz2
  cases a with
  | none =>
    obtain rfl := hn rfl
    clear hn
    go_enter Tryz.func8, Tryz.ntmps8
    go_wp2_with (at_builtin; refine wpList_append_own_none rfl _ _ 23 rfl w.heap.size 56 i0 7 Tryz.underlying23 Hi.out _ 0 [] rfl (own_emptyOc w _) rfl ?_)
    go_ret
    exact ⟨_, rfl, own_emptyOc w _, by (repeat (first | (with_reducible assumption) | (with_reducible exact Below.refl _ _) | (with_reducible refine beld_drew ?_) | ((with_reducible refine bset' ?_ ?_); (first | (focus (dsimp only; assumption)) | (focus (simp; done)) | (focus (dsimp only; omega)))) | (with_reducible refine belt_alloc ?_) | ((with_reducible refine zeroed_below' ?_ ?_); (first | (focus (simp; done)) | (focus (dsimp only; omega)))) | (with_reducible refine bt ?_ (by assumption))))⟩
  | some ad =>
    clear hn
    go_enter Tryz.func8, Tryz.ntmps8
    go_wp2_with (at_builtin; refine wpList_append_own _ rfl _ _ 23 rfl w.heap.size 56 i0 (.agg #[.int .i64 0, .int .i64 0, .int .i64 0, .int .i64 0, .int .u64 0, .int .i64 0, .int .i64 0]) 7 56 Tryz.underlying23 Hi.out Hz0.out Hz1.out Hz2.out rfl (by decide) _ 0 [] rfl (own_emptyOc w _) ad 0 cap [] rfl rfl (fun j u hj => by simp at hj) (by simp) (by unfold maxLen; omega) (by omega) (by simp) ?_; intro v' wb hown2 hgrow2 _)
    go_ret
    refine ⟨_, rfl, ?_, ?_⟩
    · simpa [rowC] using hown2
    · exact ((Below.refl _ _).alloc (Nat.le_refl _) _).grown hgrow2 (by simp) (fun k e => (own_emptyOc w 56).lt k e |>.1)
theorem lownO_any (a : Option Addr) (cap : Nat) (l : List Oc) (hl : l.length ≤ 100000) (w : World) (hrow : SRow oc 7 w a cap l) :
    Calls Tryz.prog 8 #[.slice a l.length cap] w fun e w' => OwnR oc 7 56 l w e w' := by
  rcases Nat.eq_zero_or_pos l.length with h | h
  · obtain rfl := List.length_eq_zero_iff.1 h
    exact lownON_any a cap hrow.2.2.1 w
  · exact lownOL_any a cap l hl h w hrow
end Go.Proofs.YthfmkkkdjgkaoaaGreatDoor
namespace Go.Proofs.YthfmkkkdjgkaoaaGreatDoor
def ltI (a b : Int) : Bool := decide (a < b)
theorem asc_put {s : List Int} {n : Int} {k : Nat} (hs : s.Pairwise (fun a b => a ≤ b)) (hk : k ≤ s.length) (h1 : ∀ j (h : j < k), s[j]'(by omega) ≤ n) (h2 : ∀ h : k < s.length, n < s[k]) : s.take k ++ n :: s.drop k = insR ltI n s := by
  conv => rhs; rw [← List.take_append_drop k s]
  refine (insR_mid ltI n _ _ (fun y hy => ?_) (fun y hy => ?_)).symm
  · obtain ⟨j, hj, rfl⟩ := List.getElem_of_mem hy
    rw [List.length_drop] at hj
    rw [List.getElem_drop]
    have h3 : s[k]'(by omega) ≤ s[k + j]'(by omega) := by
      rcases Nat.eq_zero_or_pos j with rfl | h0
      · exact Int.le_refl _
      · exact List.pairwise_iff_getElem.1 hs k (k + j) (by omega) (by omega) (by omega)
    have := h2 (by omega)
    unfold ltI
    exact decide_eq_true (by omega)
  · rw [List.getLast?_eq_getElem?, List.length_take, Nat.min_eq_left hk] at hy
    rcases Nat.eq_zero_or_pos k with rfl | h0
    · simp at hy
    · rw [List.getElem?_take, if_pos (by omega), List.getElem?_eq_getElem (by omega)] at hy
      have := h1 (k - 1) (by omega)
      rw [Option.some.inj hy] at this
      unfold ltI
      exact decide_eq_false (by omega)
theorem ascO_snoc (l : List Int) (n : Int) : ascO (l ++ [n]) = insR ltI n (ascO l) := isort_snoc _ _ _
theorem ascO_put {l : List Int} {n : Int} {k : Nat} (hk : k ≤ (ascO l).length) (h1 : ∀ j (h : j < k), (ascO l)[j]'(by omega) ≤ n) (h2 : ∀ h : k < (ascO l).length, n < (ascO l)[k]) : (ascO l).take k ++ n :: (ascO l).drop k = ascO (l ++ [n]) := by
  rw [ascO_snoc]
  exact asc_put (ascO_srt l) hk h1 h2
end Go.Proofs.YthfmkkkdjgkaoaaGreatDoor
namespace Go.Proofs.YthfmkkkdjgkaoaaGreatDoor
open Go.RowKit
theorem mk6_cell (m0 m1 m2 m3 m4 m5 : Bool) {p : Nat} (hp : p < 6) : (#[.bool m0, .bool m1, .bool m2, .bool m3, .bool m4, .bool m5] : Array Value)[p]? = some (.bool (mk6 m0 m1 m2 m3 m4 m5 p)) := by
  match p, hp with
  | 0, _ => rfl
  | 1, _ => rfl
  | 2, _ => rfl
  | 3, _ => rfl
  | 4, _ => rfl
  | 5, _ => rfl
theorem mark_mk6 (l : List Oc) (id : Id3) {p : Nat} (hp : p < 6) : markO l id p = mk6 (hasO l 1 id) (hasO l 2 id || (hasO l 3 id || hasO l 4 id)) (hasO l 8 id) (hasO l 9 id) (hasO l 1 id && (!hasO l 8 id && !hasO l 9 id)) (!hasO l 1 id && !(hasO l 2 id || (hasO l 3 id || hasO l 4 id))) p := by
  match p, hp with
  | 0, _ => rfl
  | 1, _ => rfl
  | 2, _ => rfl
  | 3, _ => rfl
  | 4, _ => rfl
  | 5, _ => rfl
end Go.Proofs.YthfmkkkdjgkaoaaGreatDoor
namespace Go.Proofs.YthfmkkkdjgkaoaaGreatDoor
open Go.RowKit
theorem wp_append_noneI {P : Program} {w : World} {o : Oper} {a : Act} {K : Act → World → Prop} {Q : Exit → Act → World → Prop} (s x : Operand) (t : TypeId)
    (ho : o.op = .call { callee := .builtin .append, args := #[s, x], argTypes := #[t, t] })
    (base : Nat) (e : TypeId) (i : TypeInfo) (size : Nat) (ht : P.underlying t = some (.slice e)) (hi : P.info? e = some i)
    (v : Value) (n : Nat) (xs : List Value) (hs : a.eval s = v) (hown : w.ownsRow base e size v n xs) (hx : a.eval x = .slice none 0 0)
    (h : K (a.put o.dst v) w) : o.wp P a w K Q := by
  have hrun := run_append_owned_none (P := P) (w := w) base t o.type e i size ht hi v n xs hown
  unfold Oper.wp
  simp [execOp, ho, resolve, invoke, builtin, hs, hx, hrun, Result.andThen]
  exact h
theorem irow_head {cur : Array Value} {L A B : List Int} (h : cur.toList.take (L.length * 1) = rowC ic L) (hL : L = A ++ B) {j : Nat} {u : Value} (hj : (rowC ic A)[j]? = some u) : cur[j]? = some u := by
  have h2 : (rowC ic L)[j]? = some u := by rw [hL, rowC_append, List.getElem?_append_left (List.getElem?_eq_some_iff.1 hj).1]; exact hj
  rw [← h, List.getElem?_take] at h2
  split at h2
  · simpa using h2
  · cases h2
theorem irow_tail {cur : Array Value} {L A B : List Int} (h : cur.toList.take (L.length * 1) = rowC ic L) (hL : L = A ++ B) {j : Nat} {u : Value} (hj : (rowC ic B)[j]? = some u) : cur[A.length + j]? = some u := by
  have e : (rowC ic A).length = A.length := by rw [rowC_length ic_len]; omega
  have h2 : (rowC ic L)[A.length + j]? = some u := by rw [hL, rowC_append, List.getElem?_append_right (by omega), e, show A.length + j - A.length = j by omega]; exact hj
  rw [← h, List.getElem?_take] at h2
  split at h2
  · simpa using h2
  · cases h2
set_option maxRecDepth 100000 in
set_option maxHeartbeats 6400000 in
theorem ascend_any (base : Nat) (v : Value) (M : List Int) (n : Int) (hl : M.length ≤ 100000) (w : World) (ho : w.ownsRow base 3 1 v (ascO M).length (rowC ic (ascO M))) :
    Calls Tryz.prog 74 #[v, .int .i64 n] w fun e w' => OwnR ic 1 3 (ascO (M ++ [n])) w e w' := by
  obtain ⟨i0, hi, hz0, hz1, hz2⟩ := info_parts infoIn
  have Hi := Lib.hid hi; have Hz0 := Lib.hid hz0; have Hz1 := Lib.hid hz1; have Hz2 := Lib.hid hz2
  clear hi hz0 hz1 hz2
  have hal : (ascO M).length ≤ 100000 := by rw [ascO_len]; exact hl
  have KEY : ∀ k, k ≤ (ascO M).length → (∀ j (h : j < k) (h2 : j < (ascO M).length), (ascO M)[j] ≤ n) → (∀ h : k < (ascO M).length, n < (ascO M)[k]) → (ascO M).take k ++ n :: (ascO M).drop k = ascO (M ++ [n]) := fun k hk h1 h2 => ascO_put hk (fun j h => h1 j h (by omega)) h2
  obtain ⟨LL, hLL⟩ : ∃ L, ascO M = L := ⟨_, rfl⟩
  rw [hLL] at ho hal KEY
  have KEYI := Lib.hid KEY
  clear KEY hLL hl
  obtain ⟨a, co, rfl, hS, hdo⟩ := srow_of_owns ic_len ho
  have HSO := Lib.hid hS
  have HDO := Lib.hid hdo
  have hco := hS.1
  have hmo := hS.2.1
  unfold maxLen at hmo
  clear hS hdo ho
  go_enter Tryz.func74, Tryz.ntmps74
  go_wp2
  go_loopw [5] (fun s5 wr => ∃ k : Nat, s5 = .int .i64 k ∧ k ≤ LL.length ∧ Below w.heap.size w wr ∧ Hid (∀ j (h : j < k) (h2 : j < LL.length), LL[j] ≤ n)) (fun s5 _ => LL.length - (intOf s5).toNat)
  case atStart => exact ⟨0, rfl, Nat.zero_le _, Below.refl _ _, Lib.hid (fun j h => absurd h (by omega))⟩
  case round =>
    obtain ⟨k, rfl, hk, hBV, HM⟩ := hrel
    by_cases hlt : k < LL.length
    · have hltz : (k : Int) < (LL.length : Int) := by omega
      have hc : ∃ b off, a = some ⟨b, off, none⟩ ∧ wr.cell? ⟨b, off + k, none⟩ = some (.int .i64 LL[k]) := by
        obtain ⟨b, off, e, _, hcs⟩ := (HSO.out.below hBV).2.2.2 (by omega)
        have h9 := hcs k hlt 0 _ rfl
        exact ⟨b, off, e, by simpa using h9⟩
      obtain ⟨x, hx⟩ : ∃ x, LL[k] = x := ⟨_, rfl⟩
      rw [hx] at hc
      have HX := Lib.hid hx
      clear hx
      by_cases hle : x ≤ n
      · have t1 : decide (x ≤ n) = true := decide_eq_true hle
        have hM2 : Hid (∀ j (h : j < k + 1) (h2 : j < LL.length), LL[j] ≤ n) := Lib.hid (fun j h h2 => by
          rcases Nat.lt_or_ge j k with h3 | h3
          · exact HM.out j h3 h2
          · obtain rfl : j = k := by omega
            rw [HX.out]; exact hle)
        obtain ⟨b, off, rfl, hc⟩ := hc
        clear hle HM HX
        go_wp2
        go_roundw
        case rel => exact ⟨k + 1, by go_num, by omega, hBV, hM2⟩
        case measure => simp [intOf]; omega
      · have t1 : decide (x ≤ n) = false := decide_eq_false hle
        have NEXT := Lib.hid (KEYI.out k hk HM.out (fun _ => by rw [HX.out]; omega))
        clear HX HM hle
        rcases HDO.out with ⟨rfl, hnil⟩ | ⟨g, cur, rfl, _, hbg, hcs, hct⟩
        · obtain ⟨_, _, e, _⟩ := hc; cases e
        · obtain ⟨b, off, e, hc⟩ := hc
          cases e
          rw [Nat.zero_add] at hc
          by_cases hkc : k = co
          · subst hkc
            have kgU := blk_below hBV hbg
            have HCT := Lib.hid hct
            have TKL : Hid ((LL.take k).length = k) := Lib.hid (by rw [List.length_take]; omega)
            have TD : Hid (LL = LL.take k ++ LL.drop k) := Lib.hid (List.take_append_drop k LL).symm
            have LD : Hid ((LL.drop k).length = 0) := Lib.hid (by rw [List.length_drop]; omega)
            have DK : Hid (LL.drop k = []) := Lib.hid (List.drop_of_length_le (by omega))
            clear hct hcs hbg
            go_upto_region 4 with fail
            refine wp_region_held_drew (S := fun W => True) (by kernel_rfl) trivial (fun hHeld => ?_)
            obtain ⟨U0, eU⟩ : ∃ v, v = wr.drew := ⟨_, rfl⟩
            have bU0 : Below w.heap.size w U0 := (by rw [eU]; exact hBV.drew)
            have cU0 : Below U0.heap.size U0 U0 := Below.refl _ _
            have sU := bU0.size
            have kg : blk U0 g = some cur := (by rw [eU]; exact blk_drew kgU)
            have gU := blk_lt kg
            clear kgU
            rw [← eU]
            clear eU hBV
            refine wpAnyH_take (i := 1) (oi := _) (v := ?_) rfl (by kernel_rfl) (by kernel_rfl) (by kernel_rfl) (fun _ _ _ h => h) (Or.inl ⟨by rfl, ?_⟩) (by assumption) ?_
            rotate_left
            focus (intro W hSw; (try dsimp only at hSw); go_simp; (try with_reducible rfl))
            (try simp only [Act.put, List.setIfInBounds_toArray, List.set_cons_zero, List.set_cons_succ, List.getElem_toArray, List.getElem_cons_succ, List.getElem_cons_zero])
            refine wpAnyH_take (i := 2) (oi := _) (v := ?_) rfl (by kernel_rfl) (by kernel_rfl) (by kernel_rfl) (fun _ _ _ h => h) (Or.inl ⟨by rfl, ?_⟩) (by assumption) ?_
            rotate_left
            focus (intro W hSw; (try dsimp only at hSw); go_simp; (try with_reducible rfl))
            (try simp only [Act.put, List.setIfInBounds_toArray, List.set_cons_zero, List.set_cons_succ, List.getElem_toArray, List.getElem_cons_succ, List.getElem_cons_zero])
            refine wpAnyH_take (i := 3) (oi := _) (v := ?_) rfl (by kernel_rfl) (by kernel_rfl) (by kernel_rfl) (fun _ _ _ h => h) (Or.inl ⟨by rfl, ?_⟩) (by assumption) ?_
            rotate_left
            focus (intro W hSw; (try dsimp only at hSw); go_simp; (try with_reducible rfl))
            (try simp only [Act.put, List.setIfInBounds_toArray, List.set_cons_zero, List.set_cons_succ, List.getElem_toArray, List.getElem_cons_succ, List.getElem_cons_zero])
            refine wpAnyH_take (i := 5) (oi := _) (v := ?_) rfl (by kernel_rfl) (by kernel_rfl) (by kernel_rfl) (fun _ _ _ h => h) (Or.inl ⟨by rfl, ?_⟩) (by assumption) ?_
            rotate_left
            focus (intro W hSw; (try dsimp only at hSw); go_simp; (try with_reducible rfl))
            (try simp only [Act.put, List.setIfInBounds_toArray, List.set_cons_zero, List.set_cons_succ, List.getElem_toArray, List.getElem_cons_succ, List.getElem_cons_zero])
            refine wpAnyH_take (i := 8) (oi := _) (v := ?_) rfl (by kernel_rfl) (by kernel_rfl) (by kernel_rfl) (fun _ _ _ h => h) (Or.inl ⟨by rfl, ?_⟩) (by assumption) ?_
            rotate_left
            focus (intro W hSw; (try dsimp only at hSw); go_simp; (try with_reducible rfl))
            (try simp only [Act.put, List.setIfInBounds_toArray, List.set_cons_zero, List.set_cons_succ, List.getElem_toArray, List.getElem_cons_succ, List.getElem_cons_zero])
            refine wpAnyH_take (i := 9) (oi := _) (v := ?_) rfl (by kernel_rfl) (by kernel_rfl) (by kernel_rfl) (fun _ _ _ h => h) (Or.inl ⟨by rfl, ?_⟩) (by assumption) ?_
            rotate_left
            focus (intro W hSw; (try dsimp only at hSw); go_simp; (try with_reducible rfl))
            (try simp only [Act.put, List.setIfInBounds_toArray, List.set_cons_zero, List.set_cons_succ, List.getElem_toArray, List.getElem_cons_succ, List.getElem_cons_zero])
            refine wpAnyH_take (i := 10) (oi := _) (v := ?_) rfl (by kernel_rfl) (by kernel_rfl) (by kernel_rfl) (fun _ _ _ h => h) (Or.inl ⟨by rfl, ?_⟩) (by assumption) ?_
            rotate_left
            focus (intro W hSw; (try dsimp only at hSw); go_simp; (try with_reducible rfl))
            (try simp only [Act.put, List.setIfInBounds_toArray, List.set_cons_zero, List.set_cons_succ, List.getElem_toArray, List.getElem_cons_succ, List.getElem_cons_zero])
            refine wpAnyH_ready (rs := [0, 6]) (by kernel_rfl) (by simp) ?_
            refine AllReadyH.cons rfl (fun K hK => ?_) ?_
            · skip
              go_simp
              refine hK.out _ _ trivial (fun _ => ?_)
              clear hK K
              (try simp only [Act.put, List.setIfInBounds_toArray, List.set_cons_zero, List.set_cons_succ, List.getElem_toArray, List.getElem_cons_succ, List.getElem_cons_zero])
              obtain ⟨V1, eV⟩ : ∃ v, v = U0.alloc (.cells #[] 3) := ⟨_, rfl⟩
              obtain ⟨n1, en⟩ : ∃ v, v = U0.heap.size := ⟨_, rfl⟩
              have bV1 : Below w.heap.size w V1 := (by rw [eV]; exact bU0.alloc bU0.size _)
              have cV1 : Below U0.heap.size U0 V1 := (by rw [eV]; exact cU0.alloc cU0.size _)
              have oV1 : V1.ownsRow n1 3 1 (.slice (some ⟨n1, 0, none⟩) 0 0) 0 [] := (by rw [eV, en]; exact own_emptyIn _ _)
              have l1 : U0.heap.size ≤ n1 := (by rw [en]; exact cU0.size)
              have u1 : n1 < V1.heap.size := (by rw [eV, en]; simp)
              rw [← eV, ← en]
              clear eV en
              refine wpAnyH_ready (rs := [4, 6]) (by kernel_rfl) (by simp) ?_
              refine AllReadyH.cons rfl (fun K hK => ?_) ?_
              · skip
                refine wp_append_own _ (.tmp 20) (.tmp 23) 45 rfl U0.heap.size 3 i0 (.int .i64 0) 1 8 Tryz.underlying45 Hi.out Hz0.out Hz1.out Hz2.out rfl (by decide) (.slice (some ⟨n1, 0, none⟩) 0 0) 0 [] rfl (owns_base oV1 l1) ⟨g, 0, none⟩ k k (rowC ic (LL.take k)) rfl (by rw [rowC_length ic_len, TKL.out]) (fun j' u hj' => (by rw [Addr.add_mid, Nat.zero_add, cV1.cell (p := ⟨g, j', none⟩) gU, blk_cell kg]; exact irow_head HCT.out TD.out hj')) (rowIn_one_cell _) (by unfold maxLen; omega) (by omega) cV1.size ?_
                intro v2 V2 ho hg5 _
                have bV2 : Below w.heap.size w V2 := bV1.grown hg5 bV1.size (fun k e => by have h9 := (oV1.lt k e).1; omega)
                have cV2 : Below U0.heap.size U0 V2 := cV1.grown hg5 cV1.size (fun k e => by have h9 := (oV1.lt k e).1; omega)
                have OV2 : V2.ownsRow U0.heap.size 3 1 v2 (LL.take k).length (rowC ic (LL.take k)) := (by have h9 := ho; rw [Nat.zero_add, List.nil_append] at h9; rw [TKL.out]; exact h9)
                refine hK.out _ _ trivial (fun _ => ?_)
                clear hK K
                (try simp only [Act.put, List.setIfInBounds_toArray, List.set_cons_zero, List.set_cons_succ, List.getElem_toArray, List.getElem_cons_succ, List.getElem_cons_zero])
                clear ho hg5
                refine wpAnyH_ready (rs := [6]) (by kernel_rfl) (by simp) ?_
                refine AllReadyH.cons rfl (fun K hK => ?_) AllReadyH.nil
                go_simp
                refine hK.out _ _ trivial (fun _ => ?_)
                clear hK K
                (try simp only [Act.put, List.setIfInBounds_toArray, List.set_cons_zero, List.set_cons_succ, List.getElem_toArray, List.getElem_cons_succ, List.getElem_cons_zero])
                obtain ⟨V3, eV⟩ : ∃ v, v = V2.alloc (.cells #[.int .i64 n] 3) := ⟨_, rfl⟩
                obtain ⟨n3, en⟩ : ∃ v, v = V2.heap.size := ⟨_, rfl⟩
                have bV3 : Below w.heap.size w V3 := (by rw [eV]; exact bV2.alloc bV2.size _)
                have cV3 : Below U0.heap.size U0 V3 := (by rw [eV]; exact cV2.alloc cV2.size _)
                have z3 : blk V3 n3 = some (ic n).toArray := (by rw [eV, en]; exact blk_alloc_new _ _ _ rfl)
                have l3 : U0.heap.size ≤ n3 := (by rw [en]; exact cV2.size)
                have u3 : n3 < V3.heap.size := (by rw [eV, en]; simp)
                have OV3 : V3.ownsRow U0.heap.size 3 1 _ (LL.take k).length (rowC ic (LL.take k)) := (by rw [eV]; exact OV2.alloc _)
                rw [← eV, ← en]
                clear eV en
                refine wpAnyH_ready (rs := [7]) (by kernel_rfl) (by simp) ?_
                refine AllReadyH.cons rfl (fun K hK => ?_) AllReadyH.nil
                refine wp_append_own _ (.tmp 24) (.tmp 26) 45 rfl U0.heap.size 3 i0 (.int .i64 0) 1 8 Tryz.underlying45 Hi.out Hz0.out Hz1.out Hz2.out rfl (by decide) _ (LL.take k).length (rowC ic (LL.take k)) rfl OV3 ⟨n3, 0, none⟩ 1 1 (ic n) rfl rfl (fun j' u hj' => (by rw [Addr.add_mid, Nat.zero_add, blk_cell z3]; simpa using hj')) (ic_one _) (by rw [TKL.out]; unfold maxLen; omega) (by rw [TKL.out]; omega) cV3.size ?_
                intro v4 V4 ho hg5 _
                have bV4 : Below w.heap.size w V4 := bV3.grown hg5 bV3.size (fun k e => by have h9 := (OV3.lt k e).1; omega)
                have cV4 : Below U0.heap.size U0 V4 := cV3.grown hg5 cV3.size (fun k e => (OV3.lt k e).1)
                refine hK.out _ _ trivial (fun _ => ?_)
                clear hK K
                (try simp only [Act.put, List.setIfInBounds_toArray, List.set_cons_zero, List.set_cons_succ, List.getElem_toArray, List.getElem_cons_succ, List.getElem_cons_zero])
                clear hg5
                refine wpAnyH_ready (rs := [11]) (by kernel_rfl) (by simp) ?_
                refine AllReadyH.cons rfl (fun K hK => ?_) AllReadyH.nil
                refine wp_append_own _ (.tmp 27) (.tmp 30) 45 rfl U0.heap.size 3 i0 (.int .i64 0) 1 8 Tryz.underlying45 Hi.out Hz0.out Hz1.out Hz2.out rfl (by decide) v4 ((LL.take k).length + 1) (rowC ic (LL.take k) ++ ic n) rfl ho ⟨g, 0, none⟩ 0 0 (rowC ic (LL.drop k)) rfl (by rw [rowC_length ic_len, LD.out]) (fun j' u hj' => by rw [DK.out] at hj'; simp [rowC] at hj') (rowIn_one_cell _) (by rw [TKL.out]; unfold maxLen; omega) (by rw [TKL.out]; omega) cV4.size ?_
                intro v5 V5 ho2 hg6 _
                have bV5 : Below w.heap.size w V5 := bV4.grown hg6 bV4.size (fun k e => by have h9 := (ho.lt k e).1; omega)
                refine hK.out _ _ trivial (fun _ => ?_)
                clear hK K
                (try simp only [Act.put, List.setIfInBounds_toArray, List.set_cons_zero, List.set_cons_succ, List.getElem_toArray, List.getElem_cons_succ, List.getElem_cons_zero])
                refine wpAnyH_take (i := 12) (oi := _) (v := ?_) rfl (by kernel_rfl) (by kernel_rfl) (by kernel_rfl) (fun _ _ _ h => h) (Or.inl ⟨by rfl, ?_⟩) (by assumption) ?_
                rotate_left
                focus (intro W hSw; (try dsimp only at hSw); go_simp; (try with_reducible rfl))
                (try simp only [Act.put, List.setIfInBounds_toArray, List.set_cons_zero, List.set_cons_succ, List.getElem_toArray, List.getElem_cons_succ, List.getElem_cons_zero])
                refine wpAnyH_done (by kernel_rfl) ?_ _
                have hN : Hid (V5.ownsRow w.heap.size 3 1 v5 (ascO (M ++ [n])).length (rowC ic (ascO (M ++ [n])))) := Lib.hid (by
                  have h9 := owns_base ho2 (show w.heap.size ≤ U0.heap.size from sU)
                  rw [← NEXT.out, show LL.take k ++ n :: LL.drop k = LL.take k ++ [n] ++ LL.drop k by simp, rowC_append, rowC_append, rowC_one, List.length_append, List.length_append, List.length_singleton, LD.out]
                  exact h9)
                have bN := bV5
                clear ho ho2 hg6
                go_wp2
                go_ret
                exact ⟨_, rfl, hN.out, bN⟩
              refine AllReadyH.cons rfl (fun K hK => ?_) AllReadyH.nil
              go_simp
              refine hK.out _ _ trivial (fun _ => ?_)
              clear hK K
              (try simp only [Act.put, List.setIfInBounds_toArray, List.set_cons_zero, List.set_cons_succ, List.getElem_toArray, List.getElem_cons_succ, List.getElem_cons_zero])
              obtain ⟨V6, eV⟩ : ∃ v, v = V1.alloc (.cells #[.int .i64 n] 3) := ⟨_, rfl⟩
              obtain ⟨n6, en⟩ : ∃ v, v = V1.heap.size := ⟨_, rfl⟩
              have bV6 : Below w.heap.size w V6 := (by rw [eV]; exact bV1.alloc bV1.size _)
              have cV6 : Below U0.heap.size U0 V6 := (by rw [eV]; exact cV1.alloc cV1.size _)
              have z6 : blk V6 n6 = some (ic n).toArray := (by rw [eV, en]; exact blk_alloc_new _ _ _ rfl)
              have l6 : U0.heap.size ≤ n6 := (by rw [en]; exact cV1.size)
              have u6 : n6 < V6.heap.size := (by rw [eV, en]; simp)
              have oV6 : V6.ownsRow n1 3 1 (.slice (some ⟨n1, 0, none⟩) 0 0) 0 [] := (by rw [eV]; exact oV1.alloc _)
              have nz : n6 ≠ n1 := (by rw [en]; omega)
              rw [← eV, ← en]
              clear eV en
              refine wpAnyH_ready (rs := [4]) (by kernel_rfl) (by simp) ?_
              refine AllReadyH.cons rfl (fun K hK => ?_) AllReadyH.nil
              refine wp_append_own _ (.tmp 20) (.tmp 23) 45 rfl U0.heap.size 3 i0 (.int .i64 0) 1 8 Tryz.underlying45 Hi.out Hz0.out Hz1.out Hz2.out rfl (by decide) (.slice (some ⟨n1, 0, none⟩) 0 0) 0 [] rfl (owns_base oV6 l1) ⟨g, 0, none⟩ k k (rowC ic (LL.take k)) rfl (by rw [rowC_length ic_len, TKL.out]) (fun j' u hj' => (by rw [Addr.add_mid, Nat.zero_add, cV6.cell (p := ⟨g, j', none⟩) gU, blk_cell kg]; exact irow_head HCT.out TD.out hj')) (rowIn_one_cell _) (by unfold maxLen; omega) (by omega) cV6.size ?_
              intro v7 V7 ho hg5 _
              have bV7 : Below w.heap.size w V7 := bV6.grown hg5 bV6.size (fun k e => by have h9 := (oV6.lt k e).1; omega)
              have cV7 : Below U0.heap.size U0 V7 := cV6.grown hg5 cV6.size (fun k e => by have h9 := (oV6.lt k e).1; omega)
              have OV7 : V7.ownsRow U0.heap.size 3 1 v7 (LL.take k).length (rowC ic (LL.take k)) := (by have h9 := ho; rw [Nat.zero_add, List.nil_append] at h9; rw [TKL.out]; exact h9)
              replace z6 := (blk_kept (hg5.block n6 u6 (fun e => by simp [Value.ownBlock] at e; omega))).trans z6
              replace u6 := Nat.lt_of_lt_of_le u6 hg5.size
              refine hK.out _ _ trivial (fun _ => ?_)
              clear hK K
              (try simp only [Act.put, List.setIfInBounds_toArray, List.set_cons_zero, List.set_cons_succ, List.getElem_toArray, List.getElem_cons_succ, List.getElem_cons_zero])
              clear ho hg5
              refine wpAnyH_ready (rs := [7]) (by kernel_rfl) (by simp) ?_
              refine AllReadyH.cons rfl (fun K hK => ?_) AllReadyH.nil
              refine wp_append_own _ (.tmp 24) (.tmp 26) 45 rfl U0.heap.size 3 i0 (.int .i64 0) 1 8 Tryz.underlying45 Hi.out Hz0.out Hz1.out Hz2.out rfl (by decide) _ (LL.take k).length (rowC ic (LL.take k)) rfl OV7 ⟨n6, 0, none⟩ 1 1 (ic n) rfl rfl (fun j' u hj' => (by rw [Addr.add_mid, Nat.zero_add, blk_cell z6]; simpa using hj')) (ic_one _) (by rw [TKL.out]; unfold maxLen; omega) (by rw [TKL.out]; omega) cV7.size ?_
              intro v8 V8 ho hg5 _
              have bV8 : Below w.heap.size w V8 := bV7.grown hg5 bV7.size (fun k e => by have h9 := (OV7.lt k e).1; omega)
              have cV8 : Below U0.heap.size U0 V8 := cV7.grown hg5 cV7.size (fun k e => (OV7.lt k e).1)
              refine hK.out _ _ trivial (fun _ => ?_)
              clear hK K
              (try simp only [Act.put, List.setIfInBounds_toArray, List.set_cons_zero, List.set_cons_succ, List.getElem_toArray, List.getElem_cons_succ, List.getElem_cons_zero])
              clear hg5
              refine wpAnyH_ready (rs := [11]) (by kernel_rfl) (by simp) ?_
              refine AllReadyH.cons rfl (fun K hK => ?_) AllReadyH.nil
              refine wp_append_own _ (.tmp 27) (.tmp 30) 45 rfl U0.heap.size 3 i0 (.int .i64 0) 1 8 Tryz.underlying45 Hi.out Hz0.out Hz1.out Hz2.out rfl (by decide) v8 ((LL.take k).length + 1) (rowC ic (LL.take k) ++ ic n) rfl ho ⟨g, 0, none⟩ 0 0 (rowC ic (LL.drop k)) rfl (by rw [rowC_length ic_len, LD.out]) (fun j' u hj' => by rw [DK.out] at hj'; simp [rowC] at hj') (rowIn_one_cell _) (by rw [TKL.out]; unfold maxLen; omega) (by rw [TKL.out]; omega) cV8.size ?_
              intro v9 V9 ho2 hg6 _
              have bV9 : Below w.heap.size w V9 := bV8.grown hg6 bV8.size (fun k e => by have h9 := (ho.lt k e).1; omega)
              refine hK.out _ _ trivial (fun _ => ?_)
              clear hK K
              (try simp only [Act.put, List.setIfInBounds_toArray, List.set_cons_zero, List.set_cons_succ, List.getElem_toArray, List.getElem_cons_succ, List.getElem_cons_zero])
              refine wpAnyH_take (i := 12) (oi := _) (v := ?_) rfl (by kernel_rfl) (by kernel_rfl) (by kernel_rfl) (fun _ _ _ h => h) (Or.inl ⟨by rfl, ?_⟩) (by assumption) ?_
              rotate_left
              focus (intro W hSw; (try dsimp only at hSw); go_simp; (try with_reducible rfl))
              (try simp only [Act.put, List.setIfInBounds_toArray, List.set_cons_zero, List.set_cons_succ, List.getElem_toArray, List.getElem_cons_succ, List.getElem_cons_zero])
              refine wpAnyH_done (by kernel_rfl) ?_ _
              have hN : Hid (V9.ownsRow w.heap.size 3 1 v9 (ascO (M ++ [n])).length (rowC ic (ascO (M ++ [n])))) := Lib.hid (by
                have h9 := owns_base ho2 (show w.heap.size ≤ U0.heap.size from sU)
                rw [← NEXT.out, show LL.take k ++ n :: LL.drop k = LL.take k ++ [n] ++ LL.drop k by simp, rowC_append, rowC_append, rowC_one, List.length_append, List.length_append, List.length_singleton, LD.out]
                exact h9)
              have bN := bV9
              clear ho ho2 hg6
              go_wp2
              go_ret
              exact ⟨_, rfl, hN.out, bN⟩
            refine AllReadyH.cons rfl (fun K hK => ?_) AllReadyH.nil
            go_simp
            refine hK.out _ _ trivial (fun _ => ?_)
            clear hK K
            (try simp only [Act.put, List.setIfInBounds_toArray, List.set_cons_zero, List.set_cons_succ, List.getElem_toArray, List.getElem_cons_succ, List.getElem_cons_zero])
            obtain ⟨V10, eV⟩ : ∃ v, v = U0.alloc (.cells #[.int .i64 n] 3) := ⟨_, rfl⟩
            obtain ⟨n10, en⟩ : ∃ v, v = U0.heap.size := ⟨_, rfl⟩
            have bV10 : Below w.heap.size w V10 := (by rw [eV]; exact bU0.alloc bU0.size _)
            have cV10 : Below U0.heap.size U0 V10 := (by rw [eV]; exact cU0.alloc cU0.size _)
            have z10 : blk V10 n10 = some (ic n).toArray := (by rw [eV, en]; exact blk_alloc_new _ _ _ rfl)
            have l10 : U0.heap.size ≤ n10 := (by rw [en]; exact cU0.size)
            have u10 : n10 < V10.heap.size := (by rw [eV, en]; simp)
            rw [← eV, ← en]
            clear eV en
            refine wpAnyH_ready (rs := [0]) (by kernel_rfl) (by simp) ?_
            refine AllReadyH.cons rfl (fun K hK => ?_) AllReadyH.nil
            go_simp
            refine hK.out _ _ trivial (fun _ => ?_)
            clear hK K
            (try simp only [Act.put, List.setIfInBounds_toArray, List.set_cons_zero, List.set_cons_succ, List.getElem_toArray, List.getElem_cons_succ, List.getElem_cons_zero])
            obtain ⟨V11, eV⟩ : ∃ v, v = V10.alloc (.cells #[] 3) := ⟨_, rfl⟩
            obtain ⟨n11, en⟩ : ∃ v, v = V10.heap.size := ⟨_, rfl⟩
            have bV11 : Below w.heap.size w V11 := (by rw [eV]; exact bV10.alloc bV10.size _)
            have cV11 : Below U0.heap.size U0 V11 := (by rw [eV]; exact cV10.alloc cV10.size _)
            have oV11 : V11.ownsRow n11 3 1 (.slice (some ⟨n11, 0, none⟩) 0 0) 0 [] := (by rw [eV, en]; exact own_emptyIn _ _)
            have l11 : U0.heap.size ≤ n11 := (by rw [en]; exact cV10.size)
            have u11 : n11 < V11.heap.size := (by rw [eV, en]; simp)
            have nz : n10 ≠ n11 := (by rw [en]; omega)
            replace z10 := (by rw [eV]; exact blk_alloc z10 _ : blk V11 n10 = some (ic n).toArray)
            replace u10 : n10 < V11.heap.size := (by rw [eV]; simp; omega)
            rw [← eV, ← en]
            clear eV en
            refine wpAnyH_ready (rs := [4]) (by kernel_rfl) (by simp) ?_
            refine AllReadyH.cons rfl (fun K hK => ?_) AllReadyH.nil
            refine wp_append_own _ (.tmp 20) (.tmp 23) 45 rfl U0.heap.size 3 i0 (.int .i64 0) 1 8 Tryz.underlying45 Hi.out Hz0.out Hz1.out Hz2.out rfl (by decide) (.slice (some ⟨n11, 0, none⟩) 0 0) 0 [] rfl (owns_base oV11 l11) ⟨g, 0, none⟩ k k (rowC ic (LL.take k)) rfl (by rw [rowC_length ic_len, TKL.out]) (fun j' u hj' => (by rw [Addr.add_mid, Nat.zero_add, cV11.cell (p := ⟨g, j', none⟩) gU, blk_cell kg]; exact irow_head HCT.out TD.out hj')) (rowIn_one_cell _) (by unfold maxLen; omega) (by omega) cV11.size ?_
            intro v12 V12 ho hg5 _
            have bV12 : Below w.heap.size w V12 := bV11.grown hg5 bV11.size (fun k e => by have h9 := (oV11.lt k e).1; omega)
            have cV12 : Below U0.heap.size U0 V12 := cV11.grown hg5 cV11.size (fun k e => by have h9 := (oV11.lt k e).1; omega)
            have OV12 : V12.ownsRow U0.heap.size 3 1 v12 (LL.take k).length (rowC ic (LL.take k)) := (by have h9 := ho; rw [Nat.zero_add, List.nil_append] at h9; rw [TKL.out]; exact h9)
            replace z10 := (blk_kept (hg5.block n10 u10 (fun e => by simp [Value.ownBlock] at e; omega))).trans z10
            replace u10 := Nat.lt_of_lt_of_le u10 hg5.size
            refine hK.out _ _ trivial (fun _ => ?_)
            clear hK K
            (try simp only [Act.put, List.setIfInBounds_toArray, List.set_cons_zero, List.set_cons_succ, List.getElem_toArray, List.getElem_cons_succ, List.getElem_cons_zero])
            clear ho hg5
            refine wpAnyH_ready (rs := [7]) (by kernel_rfl) (by simp) ?_
            refine AllReadyH.cons rfl (fun K hK => ?_) AllReadyH.nil
            refine wp_append_own _ (.tmp 24) (.tmp 26) 45 rfl U0.heap.size 3 i0 (.int .i64 0) 1 8 Tryz.underlying45 Hi.out Hz0.out Hz1.out Hz2.out rfl (by decide) _ (LL.take k).length (rowC ic (LL.take k)) rfl OV12 ⟨n10, 0, none⟩ 1 1 (ic n) rfl rfl (fun j' u hj' => (by rw [Addr.add_mid, Nat.zero_add, blk_cell z10]; simpa using hj')) (ic_one _) (by rw [TKL.out]; unfold maxLen; omega) (by rw [TKL.out]; omega) cV12.size ?_
            intro v13 V13 ho hg5 _
            have bV13 : Below w.heap.size w V13 := bV12.grown hg5 bV12.size (fun k e => by have h9 := (OV12.lt k e).1; omega)
            have cV13 : Below U0.heap.size U0 V13 := cV12.grown hg5 cV12.size (fun k e => (OV12.lt k e).1)
            refine hK.out _ _ trivial (fun _ => ?_)
            clear hK K
            (try simp only [Act.put, List.setIfInBounds_toArray, List.set_cons_zero, List.set_cons_succ, List.getElem_toArray, List.getElem_cons_succ, List.getElem_cons_zero])
            clear hg5
            refine wpAnyH_ready (rs := [11]) (by kernel_rfl) (by simp) ?_
            refine AllReadyH.cons rfl (fun K hK => ?_) AllReadyH.nil
            refine wp_append_own _ (.tmp 27) (.tmp 30) 45 rfl U0.heap.size 3 i0 (.int .i64 0) 1 8 Tryz.underlying45 Hi.out Hz0.out Hz1.out Hz2.out rfl (by decide) v13 ((LL.take k).length + 1) (rowC ic (LL.take k) ++ ic n) rfl ho ⟨g, 0, none⟩ 0 0 (rowC ic (LL.drop k)) rfl (by rw [rowC_length ic_len, LD.out]) (fun j' u hj' => by rw [DK.out] at hj'; simp [rowC] at hj') (rowIn_one_cell _) (by rw [TKL.out]; unfold maxLen; omega) (by rw [TKL.out]; omega) cV13.size ?_
            intro v14 V14 ho2 hg6 _
            have bV14 : Below w.heap.size w V14 := bV13.grown hg6 bV13.size (fun k e => by have h9 := (ho.lt k e).1; omega)
            refine hK.out _ _ trivial (fun _ => ?_)
            clear hK K
            (try simp only [Act.put, List.setIfInBounds_toArray, List.set_cons_zero, List.set_cons_succ, List.getElem_toArray, List.getElem_cons_succ, List.getElem_cons_zero])
            refine wpAnyH_take (i := 12) (oi := _) (v := ?_) rfl (by kernel_rfl) (by kernel_rfl) (by kernel_rfl) (fun _ _ _ h => h) (Or.inl ⟨by rfl, ?_⟩) (by assumption) ?_
            rotate_left
            focus (intro W hSw; (try dsimp only at hSw); go_simp; (try with_reducible rfl))
            (try simp only [Act.put, List.setIfInBounds_toArray, List.set_cons_zero, List.set_cons_succ, List.getElem_toArray, List.getElem_cons_succ, List.getElem_cons_zero])
            refine wpAnyH_done (by kernel_rfl) ?_ _
            have hN : Hid (V14.ownsRow w.heap.size 3 1 v14 (ascO (M ++ [n])).length (rowC ic (ascO (M ++ [n])))) := Lib.hid (by
              have h9 := owns_base ho2 (show w.heap.size ≤ U0.heap.size from sU)
              rw [← NEXT.out, show LL.take k ++ n :: LL.drop k = LL.take k ++ [n] ++ LL.drop k by simp, rowC_append, rowC_append, rowC_one, List.length_append, List.length_append, List.length_singleton, LD.out]
              exact h9)
            have bN := bV14
            clear ho ho2 hg6
            go_wp2
            go_ret
            exact ⟨_, rfl, hN.out, bN⟩
          · have hkc2 : ¬ (co = k) := fun h => hkc h.symm
            have hco1 : ¬ (co = 0) := by omega
            have hkco : k ≤ co := by omega
            have kgU := blk_below hBV hbg
            have HCT := Lib.hid hct
            have TKL : Hid ((LL.take k).length = k) := Lib.hid (by rw [List.length_take]; omega)
            have TD : Hid (LL = LL.take k ++ LL.drop k) := Lib.hid (List.take_append_drop k LL).symm
            have LD : Hid ((LL.drop k).length = LL.length - k) := Lib.hid (by rw [List.length_drop])
            clear hct hcs hbg
            go_upto_region 4 with fail
            refine wp_region_held_drew (S := fun W => True) (by kernel_rfl) trivial (fun hHeld => ?_)
            obtain ⟨U0, eU⟩ : ∃ v, v = wr.drew := ⟨_, rfl⟩
            have bU0 : Below w.heap.size w U0 := (by rw [eU]; exact hBV.drew)
            have cU0 : Below U0.heap.size U0 U0 := Below.refl _ _
            have sU := bU0.size
            have kg : blk U0 g = some cur := (by rw [eU]; exact blk_drew kgU)
            have gU := blk_lt kg
            clear kgU
            rw [← eU]
            clear eU hBV
            refine wpAnyH_take (i := 1) (oi := _) (v := ?_) rfl (by kernel_rfl) (by kernel_rfl) (by kernel_rfl) (fun _ _ _ h => h) (Or.inl ⟨by rfl, ?_⟩) (by assumption) ?_
            rotate_left
            focus (intro W hSw; (try dsimp only at hSw); go_simp; (try with_reducible rfl))
            (try simp only [Act.put, List.setIfInBounds_toArray, List.set_cons_zero, List.set_cons_succ, List.getElem_toArray, List.getElem_cons_succ, List.getElem_cons_zero])
            refine wpAnyH_take (i := 2) (oi := _) (v := ?_) rfl (by kernel_rfl) (by kernel_rfl) (by kernel_rfl) (fun _ _ _ h => h) (Or.inl ⟨by rfl, ?_⟩) (by assumption) ?_
            rotate_left
            focus (intro W hSw; (try dsimp only at hSw); go_simp; (try with_reducible rfl))
            (try simp only [Act.put, List.setIfInBounds_toArray, List.set_cons_zero, List.set_cons_succ, List.getElem_toArray, List.getElem_cons_succ, List.getElem_cons_zero])
            refine wpAnyH_take (i := 3) (oi := _) (v := ?_) rfl (by kernel_rfl) (by kernel_rfl) (by kernel_rfl) (fun _ _ _ h => h) (Or.inl ⟨by rfl, ?_⟩) (by assumption) ?_
            rotate_left
            focus (intro W hSw; (try dsimp only at hSw); go_simp; (try with_reducible rfl))
            (try simp only [Act.put, List.setIfInBounds_toArray, List.set_cons_zero, List.set_cons_succ, List.getElem_toArray, List.getElem_cons_succ, List.getElem_cons_zero])
            refine wpAnyH_take (i := 5) (oi := _) (v := ?_) rfl (by kernel_rfl) (by kernel_rfl) (by kernel_rfl) (fun _ _ _ h => h) (Or.inl ⟨by rfl, ?_⟩) (by assumption) ?_
            rotate_left
            focus (intro W hSw; (try dsimp only at hSw); go_simp; (try with_reducible rfl))
            (try simp only [Act.put, List.setIfInBounds_toArray, List.set_cons_zero, List.set_cons_succ, List.getElem_toArray, List.getElem_cons_succ, List.getElem_cons_zero])
            refine wpAnyH_take (i := 8) (oi := _) (v := ?_) rfl (by kernel_rfl) (by kernel_rfl) (by kernel_rfl) (fun _ _ _ h => h) (Or.inl ⟨by rfl, ?_⟩) (by assumption) ?_
            rotate_left
            focus (intro W hSw; (try dsimp only at hSw); go_simp; (try with_reducible rfl))
            (try simp only [Act.put, List.setIfInBounds_toArray, List.set_cons_zero, List.set_cons_succ, List.getElem_toArray, List.getElem_cons_succ, List.getElem_cons_zero])
            refine wpAnyH_take (i := 9) (oi := _) (v := ?_) rfl (by kernel_rfl) (by kernel_rfl) (by kernel_rfl) (fun _ _ _ h => h) (Or.inl ⟨by rfl, ?_⟩) (by assumption) ?_
            rotate_left
            focus (intro W hSw; (try dsimp only at hSw); go_simp; (try with_reducible rfl))
            (try simp only [Act.put, List.setIfInBounds_toArray, List.set_cons_zero, List.set_cons_succ, List.getElem_toArray, List.getElem_cons_succ, List.getElem_cons_zero])
            refine wpAnyH_take (i := 10) (oi := _) (v := ?_) rfl (by kernel_rfl) (by kernel_rfl) (by kernel_rfl) (fun _ _ _ h => h) (Or.inl ⟨by rfl, ?_⟩) (by assumption) ?_
            rotate_left
            focus (intro W hSw; (try dsimp only at hSw); go_simp; (try with_reducible rfl))
            (try simp only [Act.put, List.setIfInBounds_toArray, List.set_cons_zero, List.set_cons_succ, List.getElem_toArray, List.getElem_cons_succ, List.getElem_cons_zero])
            refine wpAnyH_ready (rs := [0, 6]) (by kernel_rfl) (by simp) ?_
            refine AllReadyH.cons rfl (fun K hK => ?_) ?_
            · skip
              go_simp
              refine hK.out _ _ trivial (fun _ => ?_)
              clear hK K
              (try simp only [Act.put, List.setIfInBounds_toArray, List.set_cons_zero, List.set_cons_succ, List.getElem_toArray, List.getElem_cons_succ, List.getElem_cons_zero])
              obtain ⟨V1, eV⟩ : ∃ v, v = U0.alloc (.cells #[] 3) := ⟨_, rfl⟩
              obtain ⟨n1, en⟩ : ∃ v, v = U0.heap.size := ⟨_, rfl⟩
              have bV1 : Below w.heap.size w V1 := (by rw [eV]; exact bU0.alloc bU0.size _)
              have cV1 : Below U0.heap.size U0 V1 := (by rw [eV]; exact cU0.alloc cU0.size _)
              have oV1 : V1.ownsRow n1 3 1 (.slice (some ⟨n1, 0, none⟩) 0 0) 0 [] := (by rw [eV, en]; exact own_emptyIn _ _)
              have l1 : U0.heap.size ≤ n1 := (by rw [en]; exact cU0.size)
              have u1 : n1 < V1.heap.size := (by rw [eV, en]; simp)
              rw [← eV, ← en]
              clear eV en
              refine wpAnyH_ready (rs := [4, 6]) (by kernel_rfl) (by simp) ?_
              refine AllReadyH.cons rfl (fun K hK => ?_) ?_
              · skip
                refine wp_append_own _ (.tmp 20) (.tmp 23) 45 rfl U0.heap.size 3 i0 (.int .i64 0) 1 8 Tryz.underlying45 Hi.out Hz0.out Hz1.out Hz2.out rfl (by decide) (.slice (some ⟨n1, 0, none⟩) 0 0) 0 [] rfl (owns_base oV1 l1) ⟨g, 0, none⟩ k co (rowC ic (LL.take k)) rfl (by rw [rowC_length ic_len, TKL.out]) (fun j' u hj' => (by rw [Addr.add_mid, Nat.zero_add, cV1.cell (p := ⟨g, j', none⟩) gU, blk_cell kg]; exact irow_head HCT.out TD.out hj')) (rowIn_one_cell _) (by unfold maxLen; omega) (by omega) cV1.size ?_
                intro v2 V2 ho hg5 _
                have bV2 : Below w.heap.size w V2 := bV1.grown hg5 bV1.size (fun k e => by have h9 := (oV1.lt k e).1; omega)
                have cV2 : Below U0.heap.size U0 V2 := cV1.grown hg5 cV1.size (fun k e => by have h9 := (oV1.lt k e).1; omega)
                have OV2 : V2.ownsRow U0.heap.size 3 1 v2 (LL.take k).length (rowC ic (LL.take k)) := (by have h9 := ho; rw [Nat.zero_add, List.nil_append] at h9; rw [TKL.out]; exact h9)
                refine hK.out _ _ trivial (fun _ => ?_)
                clear hK K
                (try simp only [Act.put, List.setIfInBounds_toArray, List.set_cons_zero, List.set_cons_succ, List.getElem_toArray, List.getElem_cons_succ, List.getElem_cons_zero])
                clear ho hg5
                refine wpAnyH_ready (rs := [6]) (by kernel_rfl) (by simp) ?_
                refine AllReadyH.cons rfl (fun K hK => ?_) AllReadyH.nil
                go_simp
                refine hK.out _ _ trivial (fun _ => ?_)
                clear hK K
                (try simp only [Act.put, List.setIfInBounds_toArray, List.set_cons_zero, List.set_cons_succ, List.getElem_toArray, List.getElem_cons_succ, List.getElem_cons_zero])
                obtain ⟨V3, eV⟩ : ∃ v, v = V2.alloc (.cells #[.int .i64 n] 3) := ⟨_, rfl⟩
                obtain ⟨n3, en⟩ : ∃ v, v = V2.heap.size := ⟨_, rfl⟩
                have bV3 : Below w.heap.size w V3 := (by rw [eV]; exact bV2.alloc bV2.size _)
                have cV3 : Below U0.heap.size U0 V3 := (by rw [eV]; exact cV2.alloc cV2.size _)
                have z3 : blk V3 n3 = some (ic n).toArray := (by rw [eV, en]; exact blk_alloc_new _ _ _ rfl)
                have l3 : U0.heap.size ≤ n3 := (by rw [en]; exact cV2.size)
                have u3 : n3 < V3.heap.size := (by rw [eV, en]; simp)
                have OV3 : V3.ownsRow U0.heap.size 3 1 _ (LL.take k).length (rowC ic (LL.take k)) := (by rw [eV]; exact OV2.alloc _)
                rw [← eV, ← en]
                clear eV en
                refine wpAnyH_ready (rs := [7]) (by kernel_rfl) (by simp) ?_
                refine AllReadyH.cons rfl (fun K hK => ?_) AllReadyH.nil
                refine wp_append_own _ (.tmp 24) (.tmp 26) 45 rfl U0.heap.size 3 i0 (.int .i64 0) 1 8 Tryz.underlying45 Hi.out Hz0.out Hz1.out Hz2.out rfl (by decide) _ (LL.take k).length (rowC ic (LL.take k)) rfl OV3 ⟨n3, 0, none⟩ 1 1 (ic n) rfl rfl (fun j' u hj' => (by rw [Addr.add_mid, Nat.zero_add, blk_cell z3]; simpa using hj')) (ic_one _) (by rw [TKL.out]; unfold maxLen; omega) (by rw [TKL.out]; omega) cV3.size ?_
                intro v4 V4 ho hg5 _
                have bV4 : Below w.heap.size w V4 := bV3.grown hg5 bV3.size (fun k e => by have h9 := (OV3.lt k e).1; omega)
                have cV4 : Below U0.heap.size U0 V4 := cV3.grown hg5 cV3.size (fun k e => (OV3.lt k e).1)
                refine hK.out _ _ trivial (fun _ => ?_)
                clear hK K
                (try simp only [Act.put, List.setIfInBounds_toArray, List.set_cons_zero, List.set_cons_succ, List.getElem_toArray, List.getElem_cons_succ, List.getElem_cons_zero])
                clear hg5
                refine wpAnyH_ready (rs := [11]) (by kernel_rfl) (by simp) ?_
                refine AllReadyH.cons rfl (fun K hK => ?_) AllReadyH.nil
                refine wp_append_own _ (.tmp 27) (.tmp 30) 45 rfl U0.heap.size 3 i0 (.int .i64 0) 1 8 Tryz.underlying45 Hi.out Hz0.out Hz1.out Hz2.out rfl (by decide) v4 ((LL.take k).length + 1) (rowC ic (LL.take k) ++ ic n) rfl ho ⟨g, k, none⟩ (LL.length - k) (co - k) (rowC ic (LL.drop k)) rfl (by rw [rowC_length ic_len, LD.out]) (fun j' u hj' => (by rw [Addr.add_mid, cV4.cell (p := ⟨g, k + j', none⟩) gU, blk_cell kg]; have h9 := irow_tail HCT.out TD.out hj'; rw [TKL.out] at h9; exact h9)) (rowIn_one_cell _) (by rw [TKL.out]; unfold maxLen; omega) (by rw [TKL.out]; omega) cV4.size ?_
                intro v5 V5 ho2 hg6 _
                have bV5 : Below w.heap.size w V5 := bV4.grown hg6 bV4.size (fun k e => by have h9 := (ho.lt k e).1; omega)
                refine hK.out _ _ trivial (fun _ => ?_)
                clear hK K
                (try simp only [Act.put, List.setIfInBounds_toArray, List.set_cons_zero, List.set_cons_succ, List.getElem_toArray, List.getElem_cons_succ, List.getElem_cons_zero])
                refine wpAnyH_take (i := 12) (oi := _) (v := ?_) rfl (by kernel_rfl) (by kernel_rfl) (by kernel_rfl) (fun _ _ _ h => h) (Or.inl ⟨by rfl, ?_⟩) (by assumption) ?_
                rotate_left
                focus (intro W hSw; (try dsimp only at hSw); go_simp; (try with_reducible rfl))
                (try simp only [Act.put, List.setIfInBounds_toArray, List.set_cons_zero, List.set_cons_succ, List.getElem_toArray, List.getElem_cons_succ, List.getElem_cons_zero])
                refine wpAnyH_done (by kernel_rfl) ?_ _
                have hN : Hid (V5.ownsRow w.heap.size 3 1 v5 (ascO (M ++ [n])).length (rowC ic (ascO (M ++ [n])))) := Lib.hid (by
                  have h9 := owns_base ho2 (show w.heap.size ≤ U0.heap.size from sU)
                  rw [← NEXT.out, show LL.take k ++ n :: LL.drop k = LL.take k ++ [n] ++ LL.drop k by simp, rowC_append, rowC_append, rowC_one, List.length_append, List.length_append, List.length_singleton, LD.out]
                  exact h9)
                have bN := bV5
                clear ho ho2 hg6
                go_wp2
                go_ret
                exact ⟨_, rfl, hN.out, bN⟩
              refine AllReadyH.cons rfl (fun K hK => ?_) AllReadyH.nil
              go_simp
              refine hK.out _ _ trivial (fun _ => ?_)
              clear hK K
              (try simp only [Act.put, List.setIfInBounds_toArray, List.set_cons_zero, List.set_cons_succ, List.getElem_toArray, List.getElem_cons_succ, List.getElem_cons_zero])
              obtain ⟨V6, eV⟩ : ∃ v, v = V1.alloc (.cells #[.int .i64 n] 3) := ⟨_, rfl⟩
              obtain ⟨n6, en⟩ : ∃ v, v = V1.heap.size := ⟨_, rfl⟩
              have bV6 : Below w.heap.size w V6 := (by rw [eV]; exact bV1.alloc bV1.size _)
              have cV6 : Below U0.heap.size U0 V6 := (by rw [eV]; exact cV1.alloc cV1.size _)
              have z6 : blk V6 n6 = some (ic n).toArray := (by rw [eV, en]; exact blk_alloc_new _ _ _ rfl)
              have l6 : U0.heap.size ≤ n6 := (by rw [en]; exact cV1.size)
              have u6 : n6 < V6.heap.size := (by rw [eV, en]; simp)
              have oV6 : V6.ownsRow n1 3 1 (.slice (some ⟨n1, 0, none⟩) 0 0) 0 [] := (by rw [eV]; exact oV1.alloc _)
              have nz : n6 ≠ n1 := (by rw [en]; omega)
              rw [← eV, ← en]
              clear eV en
              refine wpAnyH_ready (rs := [4]) (by kernel_rfl) (by simp) ?_
              refine AllReadyH.cons rfl (fun K hK => ?_) AllReadyH.nil
              refine wp_append_own _ (.tmp 20) (.tmp 23) 45 rfl U0.heap.size 3 i0 (.int .i64 0) 1 8 Tryz.underlying45 Hi.out Hz0.out Hz1.out Hz2.out rfl (by decide) (.slice (some ⟨n1, 0, none⟩) 0 0) 0 [] rfl (owns_base oV6 l1) ⟨g, 0, none⟩ k co (rowC ic (LL.take k)) rfl (by rw [rowC_length ic_len, TKL.out]) (fun j' u hj' => (by rw [Addr.add_mid, Nat.zero_add, cV6.cell (p := ⟨g, j', none⟩) gU, blk_cell kg]; exact irow_head HCT.out TD.out hj')) (rowIn_one_cell _) (by unfold maxLen; omega) (by omega) cV6.size ?_
              intro v7 V7 ho hg5 _
              have bV7 : Below w.heap.size w V7 := bV6.grown hg5 bV6.size (fun k e => by have h9 := (oV6.lt k e).1; omega)
              have cV7 : Below U0.heap.size U0 V7 := cV6.grown hg5 cV6.size (fun k e => by have h9 := (oV6.lt k e).1; omega)
              have OV7 : V7.ownsRow U0.heap.size 3 1 v7 (LL.take k).length (rowC ic (LL.take k)) := (by have h9 := ho; rw [Nat.zero_add, List.nil_append] at h9; rw [TKL.out]; exact h9)
              replace z6 := (blk_kept (hg5.block n6 u6 (fun e => by simp [Value.ownBlock] at e; omega))).trans z6
              replace u6 := Nat.lt_of_lt_of_le u6 hg5.size
              refine hK.out _ _ trivial (fun _ => ?_)
              clear hK K
              (try simp only [Act.put, List.setIfInBounds_toArray, List.set_cons_zero, List.set_cons_succ, List.getElem_toArray, List.getElem_cons_succ, List.getElem_cons_zero])
              clear ho hg5
              refine wpAnyH_ready (rs := [7]) (by kernel_rfl) (by simp) ?_
              refine AllReadyH.cons rfl (fun K hK => ?_) AllReadyH.nil
              refine wp_append_own _ (.tmp 24) (.tmp 26) 45 rfl U0.heap.size 3 i0 (.int .i64 0) 1 8 Tryz.underlying45 Hi.out Hz0.out Hz1.out Hz2.out rfl (by decide) _ (LL.take k).length (rowC ic (LL.take k)) rfl OV7 ⟨n6, 0, none⟩ 1 1 (ic n) rfl rfl (fun j' u hj' => (by rw [Addr.add_mid, Nat.zero_add, blk_cell z6]; simpa using hj')) (ic_one _) (by rw [TKL.out]; unfold maxLen; omega) (by rw [TKL.out]; omega) cV7.size ?_
              intro v8 V8 ho hg5 _
              have bV8 : Below w.heap.size w V8 := bV7.grown hg5 bV7.size (fun k e => by have h9 := (OV7.lt k e).1; omega)
              have cV8 : Below U0.heap.size U0 V8 := cV7.grown hg5 cV7.size (fun k e => (OV7.lt k e).1)
              refine hK.out _ _ trivial (fun _ => ?_)
              clear hK K
              (try simp only [Act.put, List.setIfInBounds_toArray, List.set_cons_zero, List.set_cons_succ, List.getElem_toArray, List.getElem_cons_succ, List.getElem_cons_zero])
              clear hg5
              refine wpAnyH_ready (rs := [11]) (by kernel_rfl) (by simp) ?_
              refine AllReadyH.cons rfl (fun K hK => ?_) AllReadyH.nil
              refine wp_append_own _ (.tmp 27) (.tmp 30) 45 rfl U0.heap.size 3 i0 (.int .i64 0) 1 8 Tryz.underlying45 Hi.out Hz0.out Hz1.out Hz2.out rfl (by decide) v8 ((LL.take k).length + 1) (rowC ic (LL.take k) ++ ic n) rfl ho ⟨g, k, none⟩ (LL.length - k) (co - k) (rowC ic (LL.drop k)) rfl (by rw [rowC_length ic_len, LD.out]) (fun j' u hj' => (by rw [Addr.add_mid, cV8.cell (p := ⟨g, k + j', none⟩) gU, blk_cell kg]; have h9 := irow_tail HCT.out TD.out hj'; rw [TKL.out] at h9; exact h9)) (rowIn_one_cell _) (by rw [TKL.out]; unfold maxLen; omega) (by rw [TKL.out]; omega) cV8.size ?_
              intro v9 V9 ho2 hg6 _
              have bV9 : Below w.heap.size w V9 := bV8.grown hg6 bV8.size (fun k e => by have h9 := (ho.lt k e).1; omega)
              refine hK.out _ _ trivial (fun _ => ?_)
              clear hK K
              (try simp only [Act.put, List.setIfInBounds_toArray, List.set_cons_zero, List.set_cons_succ, List.getElem_toArray, List.getElem_cons_succ, List.getElem_cons_zero])
              refine wpAnyH_take (i := 12) (oi := _) (v := ?_) rfl (by kernel_rfl) (by kernel_rfl) (by kernel_rfl) (fun _ _ _ h => h) (Or.inl ⟨by rfl, ?_⟩) (by assumption) ?_
              rotate_left
              focus (intro W hSw; (try dsimp only at hSw); go_simp; (try with_reducible rfl))
              (try simp only [Act.put, List.setIfInBounds_toArray, List.set_cons_zero, List.set_cons_succ, List.getElem_toArray, List.getElem_cons_succ, List.getElem_cons_zero])
              refine wpAnyH_done (by kernel_rfl) ?_ _
              have hN : Hid (V9.ownsRow w.heap.size 3 1 v9 (ascO (M ++ [n])).length (rowC ic (ascO (M ++ [n])))) := Lib.hid (by
                have h9 := owns_base ho2 (show w.heap.size ≤ U0.heap.size from sU)
                rw [← NEXT.out, show LL.take k ++ n :: LL.drop k = LL.take k ++ [n] ++ LL.drop k by simp, rowC_append, rowC_append, rowC_one, List.length_append, List.length_append, List.length_singleton, LD.out]
                exact h9)
              have bN := bV9
              clear ho ho2 hg6
              go_wp2
              go_ret
              exact ⟨_, rfl, hN.out, bN⟩
            refine AllReadyH.cons rfl (fun K hK => ?_) AllReadyH.nil
            go_simp
            refine hK.out _ _ trivial (fun _ => ?_)
            clear hK K
            (try simp only [Act.put, List.setIfInBounds_toArray, List.set_cons_zero, List.set_cons_succ, List.getElem_toArray, List.getElem_cons_succ, List.getElem_cons_zero])
            obtain ⟨V10, eV⟩ : ∃ v, v = U0.alloc (.cells #[.int .i64 n] 3) := ⟨_, rfl⟩
            obtain ⟨n10, en⟩ : ∃ v, v = U0.heap.size := ⟨_, rfl⟩
            have bV10 : Below w.heap.size w V10 := (by rw [eV]; exact bU0.alloc bU0.size _)
            have cV10 : Below U0.heap.size U0 V10 := (by rw [eV]; exact cU0.alloc cU0.size _)
            have z10 : blk V10 n10 = some (ic n).toArray := (by rw [eV, en]; exact blk_alloc_new _ _ _ rfl)
            have l10 : U0.heap.size ≤ n10 := (by rw [en]; exact cU0.size)
            have u10 : n10 < V10.heap.size := (by rw [eV, en]; simp)
            rw [← eV, ← en]
            clear eV en
            refine wpAnyH_ready (rs := [0]) (by kernel_rfl) (by simp) ?_
            refine AllReadyH.cons rfl (fun K hK => ?_) AllReadyH.nil
            go_simp
            refine hK.out _ _ trivial (fun _ => ?_)
            clear hK K
            (try simp only [Act.put, List.setIfInBounds_toArray, List.set_cons_zero, List.set_cons_succ, List.getElem_toArray, List.getElem_cons_succ, List.getElem_cons_zero])
            obtain ⟨V11, eV⟩ : ∃ v, v = V10.alloc (.cells #[] 3) := ⟨_, rfl⟩
            obtain ⟨n11, en⟩ : ∃ v, v = V10.heap.size := ⟨_, rfl⟩
            have bV11 : Below w.heap.size w V11 := (by rw [eV]; exact bV10.alloc bV10.size _)
            have cV11 : Below U0.heap.size U0 V11 := (by rw [eV]; exact cV10.alloc cV10.size _)
            have oV11 : V11.ownsRow n11 3 1 (.slice (some ⟨n11, 0, none⟩) 0 0) 0 [] := (by rw [eV, en]; exact own_emptyIn _ _)
            have l11 : U0.heap.size ≤ n11 := (by rw [en]; exact cV10.size)
            have u11 : n11 < V11.heap.size := (by rw [eV, en]; simp)
            have nz : n10 ≠ n11 := (by rw [en]; omega)
            replace z10 := (by rw [eV]; exact blk_alloc z10 _ : blk V11 n10 = some (ic n).toArray)
            replace u10 : n10 < V11.heap.size := (by rw [eV]; simp; omega)
            rw [← eV, ← en]
            clear eV en
            refine wpAnyH_ready (rs := [4]) (by kernel_rfl) (by simp) ?_
            refine AllReadyH.cons rfl (fun K hK => ?_) AllReadyH.nil
            refine wp_append_own _ (.tmp 20) (.tmp 23) 45 rfl U0.heap.size 3 i0 (.int .i64 0) 1 8 Tryz.underlying45 Hi.out Hz0.out Hz1.out Hz2.out rfl (by decide) (.slice (some ⟨n11, 0, none⟩) 0 0) 0 [] rfl (owns_base oV11 l11) ⟨g, 0, none⟩ k co (rowC ic (LL.take k)) rfl (by rw [rowC_length ic_len, TKL.out]) (fun j' u hj' => (by rw [Addr.add_mid, Nat.zero_add, cV11.cell (p := ⟨g, j', none⟩) gU, blk_cell kg]; exact irow_head HCT.out TD.out hj')) (rowIn_one_cell _) (by unfold maxLen; omega) (by omega) cV11.size ?_
            intro v12 V12 ho hg5 _
            have bV12 : Below w.heap.size w V12 := bV11.grown hg5 bV11.size (fun k e => by have h9 := (oV11.lt k e).1; omega)
            have cV12 : Below U0.heap.size U0 V12 := cV11.grown hg5 cV11.size (fun k e => by have h9 := (oV11.lt k e).1; omega)
            have OV12 : V12.ownsRow U0.heap.size 3 1 v12 (LL.take k).length (rowC ic (LL.take k)) := (by have h9 := ho; rw [Nat.zero_add, List.nil_append] at h9; rw [TKL.out]; exact h9)
            replace z10 := (blk_kept (hg5.block n10 u10 (fun e => by simp [Value.ownBlock] at e; omega))).trans z10
            replace u10 := Nat.lt_of_lt_of_le u10 hg5.size
            refine hK.out _ _ trivial (fun _ => ?_)
            clear hK K
            (try simp only [Act.put, List.setIfInBounds_toArray, List.set_cons_zero, List.set_cons_succ, List.getElem_toArray, List.getElem_cons_succ, List.getElem_cons_zero])
            clear ho hg5
            refine wpAnyH_ready (rs := [7]) (by kernel_rfl) (by simp) ?_
            refine AllReadyH.cons rfl (fun K hK => ?_) AllReadyH.nil
            refine wp_append_own _ (.tmp 24) (.tmp 26) 45 rfl U0.heap.size 3 i0 (.int .i64 0) 1 8 Tryz.underlying45 Hi.out Hz0.out Hz1.out Hz2.out rfl (by decide) _ (LL.take k).length (rowC ic (LL.take k)) rfl OV12 ⟨n10, 0, none⟩ 1 1 (ic n) rfl rfl (fun j' u hj' => (by rw [Addr.add_mid, Nat.zero_add, blk_cell z10]; simpa using hj')) (ic_one _) (by rw [TKL.out]; unfold maxLen; omega) (by rw [TKL.out]; omega) cV12.size ?_
            intro v13 V13 ho hg5 _
            have bV13 : Below w.heap.size w V13 := bV12.grown hg5 bV12.size (fun k e => by have h9 := (OV12.lt k e).1; omega)
            have cV13 : Below U0.heap.size U0 V13 := cV12.grown hg5 cV12.size (fun k e => (OV12.lt k e).1)
            refine hK.out _ _ trivial (fun _ => ?_)
            clear hK K
            (try simp only [Act.put, List.setIfInBounds_toArray, List.set_cons_zero, List.set_cons_succ, List.getElem_toArray, List.getElem_cons_succ, List.getElem_cons_zero])
            clear hg5
            refine wpAnyH_ready (rs := [11]) (by kernel_rfl) (by simp) ?_
            refine AllReadyH.cons rfl (fun K hK => ?_) AllReadyH.nil
            refine wp_append_own _ (.tmp 27) (.tmp 30) 45 rfl U0.heap.size 3 i0 (.int .i64 0) 1 8 Tryz.underlying45 Hi.out Hz0.out Hz1.out Hz2.out rfl (by decide) v13 ((LL.take k).length + 1) (rowC ic (LL.take k) ++ ic n) rfl ho ⟨g, k, none⟩ (LL.length - k) (co - k) (rowC ic (LL.drop k)) rfl (by rw [rowC_length ic_len, LD.out]) (fun j' u hj' => (by rw [Addr.add_mid, cV13.cell (p := ⟨g, k + j', none⟩) gU, blk_cell kg]; have h9 := irow_tail HCT.out TD.out hj'; rw [TKL.out] at h9; exact h9)) (rowIn_one_cell _) (by rw [TKL.out]; unfold maxLen; omega) (by rw [TKL.out]; omega) cV13.size ?_
            intro v14 V14 ho2 hg6 _
            have bV14 : Below w.heap.size w V14 := bV13.grown hg6 bV13.size (fun k e => by have h9 := (ho.lt k e).1; omega)
            refine hK.out _ _ trivial (fun _ => ?_)
            clear hK K
            (try simp only [Act.put, List.setIfInBounds_toArray, List.set_cons_zero, List.set_cons_succ, List.getElem_toArray, List.getElem_cons_succ, List.getElem_cons_zero])
            refine wpAnyH_take (i := 12) (oi := _) (v := ?_) rfl (by kernel_rfl) (by kernel_rfl) (by kernel_rfl) (fun _ _ _ h => h) (Or.inl ⟨by rfl, ?_⟩) (by assumption) ?_
            rotate_left
            focus (intro W hSw; (try dsimp only at hSw); go_simp; (try with_reducible rfl))
            (try simp only [Act.put, List.setIfInBounds_toArray, List.set_cons_zero, List.set_cons_succ, List.getElem_toArray, List.getElem_cons_succ, List.getElem_cons_zero])
            refine wpAnyH_done (by kernel_rfl) ?_ _
            have hN : Hid (V14.ownsRow w.heap.size 3 1 v14 (ascO (M ++ [n])).length (rowC ic (ascO (M ++ [n])))) := Lib.hid (by
              have h9 := owns_base ho2 (show w.heap.size ≤ U0.heap.size from sU)
              rw [← NEXT.out, show LL.take k ++ n :: LL.drop k = LL.take k ++ [n] ++ LL.drop k by simp, rowC_append, rowC_append, rowC_one, List.length_append, List.length_append, List.length_singleton, LD.out]
              exact h9)
            have bN := bV14
            clear ho ho2 hg6
            go_wp2
            go_ret
            exact ⟨_, rfl, hN.out, bN⟩
    · have hkl : k = LL.length := by omega
      have NEXT := Lib.hid (KEYI.out k hk HM.out (fun h => absurd h hlt))
      have t0 : decide ((k : Int) < (LL.length : Int)) = false := decide_eq_false (by omega)
      have t1 : decide (k < LL.length) = false := decide_eq_false hlt
      clear HM hkl
      rcases HDO.out with ⟨rfl, hnil⟩ | ⟨g, cur, rfl, _, hbg, hcs, hct⟩
      · have hco0 := HSO.out.2.2.1 rfl
        subst hco0
        have hl0 : LL.length = 0 := by rw [hnil]; rfl
        have TK : Hid (LL.take k = []) := Lib.hid (by rw [hnil]; simp)
        have DK : Hid (LL.drop k = []) := Lib.hid (by rw [hnil]; simp)
        have hk0 : k = 0 := by omega
        have LD : Hid ((LL.drop k).length = 0) := Lib.hid (by rw [DK.out]; rfl)
        have TKL : Hid ((LL.take k).length = 0) := Lib.hid (by rw [TK.out]; rfl)
        clear hnil
        go_upto_region 4 with fail
        refine wp_region_held_drew (S := fun W => True) (by kernel_rfl) trivial (fun hHeld => ?_)
        obtain ⟨U0, eU⟩ : ∃ v, v = wr.drew := ⟨_, rfl⟩
        have bU0 : Below w.heap.size w U0 := (by rw [eU]; exact hBV.drew)
        have cU0 : Below U0.heap.size U0 U0 := Below.refl _ _
        have sU := bU0.size
        rw [← eU]
        clear eU hBV
        refine wpAnyH_take (i := 1) (oi := _) (v := ?_) rfl (by kernel_rfl) (by kernel_rfl) (by kernel_rfl) (fun _ _ _ h => h) (Or.inl ⟨by rfl, ?_⟩) (by assumption) ?_
        rotate_left
        focus (intro W hSw; (try dsimp only at hSw); go_simp; (try with_reducible rfl))
        (try simp only [Act.put, List.setIfInBounds_toArray, List.set_cons_zero, List.set_cons_succ, List.getElem_toArray, List.getElem_cons_succ, List.getElem_cons_zero])
        refine wpAnyH_take (i := 2) (oi := _) (v := ?_) rfl (by kernel_rfl) (by kernel_rfl) (by kernel_rfl) (fun _ _ _ h => h) (Or.inl ⟨by rfl, ?_⟩) (by assumption) ?_
        rotate_left
        focus (intro W hSw; (try dsimp only at hSw); go_simp; (try with_reducible rfl))
        (try simp only [Act.put, List.setIfInBounds_toArray, List.set_cons_zero, List.set_cons_succ, List.getElem_toArray, List.getElem_cons_succ, List.getElem_cons_zero])
        refine wpAnyH_take (i := 3) (oi := _) (v := ?_) rfl (by kernel_rfl) (by kernel_rfl) (by kernel_rfl) (fun _ _ _ h => h) (Or.inl ⟨by rfl, ?_⟩) (by assumption) ?_
        rotate_left
        focus (intro W hSw; (try dsimp only at hSw); go_simp; (try with_reducible rfl))
        (try simp only [Act.put, List.setIfInBounds_toArray, List.set_cons_zero, List.set_cons_succ, List.getElem_toArray, List.getElem_cons_succ, List.getElem_cons_zero])
        refine wpAnyH_take (i := 5) (oi := _) (v := ?_) rfl (by kernel_rfl) (by kernel_rfl) (by kernel_rfl) (fun _ _ _ h => h) (Or.inl ⟨by rfl, ?_⟩) (by assumption) ?_
        rotate_left
        focus (intro W hSw; (try dsimp only at hSw); go_simp; (try with_reducible rfl))
        (try simp only [Act.put, List.setIfInBounds_toArray, List.set_cons_zero, List.set_cons_succ, List.getElem_toArray, List.getElem_cons_succ, List.getElem_cons_zero])
        refine wpAnyH_take (i := 8) (oi := _) (v := ?_) rfl (by kernel_rfl) (by kernel_rfl) (by kernel_rfl) (fun _ _ _ h => h) (Or.inl ⟨by rfl, ?_⟩) (by assumption) ?_
        rotate_left
        focus (intro W hSw; (try dsimp only at hSw); go_simp; (try with_reducible rfl))
        (try simp only [Act.put, List.setIfInBounds_toArray, List.set_cons_zero, List.set_cons_succ, List.getElem_toArray, List.getElem_cons_succ, List.getElem_cons_zero])
        refine wpAnyH_take (i := 9) (oi := _) (v := ?_) rfl (by kernel_rfl) (by kernel_rfl) (by kernel_rfl) (fun _ _ _ h => h) (Or.inl ⟨by rfl, ?_⟩) (by assumption) ?_
        rotate_left
        focus (intro W hSw; (try dsimp only at hSw); go_simp; (try with_reducible rfl))
        (try simp only [Act.put, List.setIfInBounds_toArray, List.set_cons_zero, List.set_cons_succ, List.getElem_toArray, List.getElem_cons_succ, List.getElem_cons_zero])
        refine wpAnyH_take (i := 10) (oi := _) (v := ?_) rfl (by kernel_rfl) (by kernel_rfl) (by kernel_rfl) (fun _ _ _ h => h) (Or.inl ⟨by rfl, ?_⟩) (by assumption) ?_
        rotate_left
        focus (intro W hSw; (try dsimp only at hSw); go_simp; (try with_reducible rfl))
        (try simp only [Act.put, List.setIfInBounds_toArray, List.set_cons_zero, List.set_cons_succ, List.getElem_toArray, List.getElem_cons_succ, List.getElem_cons_zero])
        refine wpAnyH_ready (rs := [0, 6]) (by kernel_rfl) (by simp) ?_
        refine AllReadyH.cons rfl (fun K hK => ?_) ?_
        · skip
          go_simp
          refine hK.out _ _ trivial (fun _ => ?_)
          clear hK K
          (try simp only [Act.put, List.setIfInBounds_toArray, List.set_cons_zero, List.set_cons_succ, List.getElem_toArray, List.getElem_cons_succ, List.getElem_cons_zero])
          obtain ⟨V1, eV⟩ : ∃ v, v = U0.alloc (.cells #[] 3) := ⟨_, rfl⟩
          obtain ⟨n1, en⟩ : ∃ v, v = U0.heap.size := ⟨_, rfl⟩
          have bV1 : Below w.heap.size w V1 := (by rw [eV]; exact bU0.alloc bU0.size _)
          have cV1 : Below U0.heap.size U0 V1 := (by rw [eV]; exact cU0.alloc cU0.size _)
          have oV1 : V1.ownsRow n1 3 1 (.slice (some ⟨n1, 0, none⟩) 0 0) 0 [] := (by rw [eV, en]; exact own_emptyIn _ _)
          have l1 : U0.heap.size ≤ n1 := (by rw [en]; exact cU0.size)
          have u1 : n1 < V1.heap.size := (by rw [eV, en]; simp)
          rw [← eV, ← en]
          clear eV en
          refine wpAnyH_ready (rs := [4, 6]) (by kernel_rfl) (by simp) ?_
          refine AllReadyH.cons rfl (fun K hK => ?_) ?_
          · skip
            refine wp_append_noneI (.tmp 20) (.tmp 23) 45 rfl U0.heap.size 3 i0 1 Tryz.underlying45 Hi.out (.slice (some ⟨n1, 0, none⟩) 0 0) 0 [] rfl (owns_base oV1 l1) rfl ?_
            have OV1 : V1.ownsRow U0.heap.size 3 1 (.slice (some ⟨n1, 0, none⟩) 0 0) (LL.take k).length (rowC ic (LL.take k)) := (by rw [TK.out]; exact owns_base oV1 l1)
            refine hK.out _ _ trivial (fun _ => ?_)
            clear hK K
            (try simp only [Act.put, List.setIfInBounds_toArray, List.set_cons_zero, List.set_cons_succ, List.getElem_toArray, List.getElem_cons_succ, List.getElem_cons_zero])
            refine wpAnyH_ready (rs := [6]) (by kernel_rfl) (by simp) ?_
            refine AllReadyH.cons rfl (fun K hK => ?_) AllReadyH.nil
            go_simp
            refine hK.out _ _ trivial (fun _ => ?_)
            clear hK K
            (try simp only [Act.put, List.setIfInBounds_toArray, List.set_cons_zero, List.set_cons_succ, List.getElem_toArray, List.getElem_cons_succ, List.getElem_cons_zero])
            obtain ⟨V2, eV⟩ : ∃ v, v = V1.alloc (.cells #[.int .i64 n] 3) := ⟨_, rfl⟩
            obtain ⟨n2, en⟩ : ∃ v, v = V1.heap.size := ⟨_, rfl⟩
            have bV2 : Below w.heap.size w V2 := (by rw [eV]; exact bV1.alloc bV1.size _)
            have cV2 : Below U0.heap.size U0 V2 := (by rw [eV]; exact cV1.alloc cV1.size _)
            have z2 : blk V2 n2 = some (ic n).toArray := (by rw [eV, en]; exact blk_alloc_new _ _ _ rfl)
            have l2 : U0.heap.size ≤ n2 := (by rw [en]; exact cV1.size)
            have u2 : n2 < V2.heap.size := (by rw [eV, en]; simp)
            have OV2 : V2.ownsRow U0.heap.size 3 1 _ (LL.take k).length (rowC ic (LL.take k)) := (by rw [eV]; exact OV1.alloc _)
            rw [← eV, ← en]
            clear eV en
            refine wpAnyH_ready (rs := [7]) (by kernel_rfl) (by simp) ?_
            refine AllReadyH.cons rfl (fun K hK => ?_) AllReadyH.nil
            refine wp_append_own _ (.tmp 24) (.tmp 26) 45 rfl U0.heap.size 3 i0 (.int .i64 0) 1 8 Tryz.underlying45 Hi.out Hz0.out Hz1.out Hz2.out rfl (by decide) _ (LL.take k).length (rowC ic (LL.take k)) rfl OV2 ⟨n2, 0, none⟩ 1 1 (ic n) rfl rfl (fun j' u hj' => (by rw [Addr.add_mid, Nat.zero_add, blk_cell z2]; simpa using hj')) (ic_one _) (by rw [TKL.out]; unfold maxLen; omega) (by rw [TKL.out]; omega) cV2.size ?_
            intro v3 V3 ho hg5 _
            have bV3 : Below w.heap.size w V3 := bV2.grown hg5 bV2.size (fun k e => by have h9 := (OV2.lt k e).1; omega)
            have cV3 : Below U0.heap.size U0 V3 := cV2.grown hg5 cV2.size (fun k e => (OV2.lt k e).1)
            refine hK.out _ _ trivial (fun _ => ?_)
            clear hK K
            (try simp only [Act.put, List.setIfInBounds_toArray, List.set_cons_zero, List.set_cons_succ, List.getElem_toArray, List.getElem_cons_succ, List.getElem_cons_zero])
            clear hg5
            refine wpAnyH_ready (rs := [11]) (by kernel_rfl) (by simp) ?_
            refine AllReadyH.cons rfl (fun K hK => ?_) AllReadyH.nil
            refine wp_append_noneI (.tmp 27) (.tmp 30) 45 rfl U0.heap.size 3 i0 1 Tryz.underlying45 Hi.out v3 _ _ rfl ho rfl ?_
            refine hK.out _ _ trivial (fun _ => ?_)
            clear hK K
            (try simp only [Act.put, List.setIfInBounds_toArray, List.set_cons_zero, List.set_cons_succ, List.getElem_toArray, List.getElem_cons_succ, List.getElem_cons_zero])
            refine wpAnyH_take (i := 12) (oi := _) (v := ?_) rfl (by kernel_rfl) (by kernel_rfl) (by kernel_rfl) (fun _ _ _ h => h) (Or.inl ⟨by rfl, ?_⟩) (by assumption) ?_
            rotate_left
            focus (intro W hSw; (try dsimp only at hSw); go_simp; (try with_reducible rfl))
            (try simp only [Act.put, List.setIfInBounds_toArray, List.set_cons_zero, List.set_cons_succ, List.getElem_toArray, List.getElem_cons_succ, List.getElem_cons_zero])
            refine wpAnyH_done (by kernel_rfl) ?_ _
            have hN : Hid (V3.ownsRow w.heap.size 3 1 v3 (ascO (M ++ [n])).length (rowC ic (ascO (M ++ [n])))) := Lib.hid (by
              have h9 := owns_base ho (show w.heap.size ≤ U0.heap.size from sU)
              rw [← NEXT.out, show LL.take k ++ n :: LL.drop k = LL.take k ++ [n] ++ LL.drop k by simp, rowC_append, rowC_append, rowC_one, List.length_append, List.length_append, List.length_singleton, LD.out]
              rw [DK.out]
              simpa [rowC] using h9)
            have bN := bV3
            clear ho
            go_wp2
            go_ret
            exact ⟨_, rfl, hN.out, bN⟩
          refine AllReadyH.cons rfl (fun K hK => ?_) AllReadyH.nil
          go_simp
          refine hK.out _ _ trivial (fun _ => ?_)
          clear hK K
          (try simp only [Act.put, List.setIfInBounds_toArray, List.set_cons_zero, List.set_cons_succ, List.getElem_toArray, List.getElem_cons_succ, List.getElem_cons_zero])
          obtain ⟨V5, eV⟩ : ∃ v, v = V1.alloc (.cells #[.int .i64 n] 3) := ⟨_, rfl⟩
          obtain ⟨n5, en⟩ : ∃ v, v = V1.heap.size := ⟨_, rfl⟩
          have bV5 : Below w.heap.size w V5 := (by rw [eV]; exact bV1.alloc bV1.size _)
          have cV5 : Below U0.heap.size U0 V5 := (by rw [eV]; exact cV1.alloc cV1.size _)
          have z5 : blk V5 n5 = some (ic n).toArray := (by rw [eV, en]; exact blk_alloc_new _ _ _ rfl)
          have l5 : U0.heap.size ≤ n5 := (by rw [en]; exact cV1.size)
          have u5 : n5 < V5.heap.size := (by rw [eV, en]; simp)
          have oV5 : V5.ownsRow n1 3 1 (.slice (some ⟨n1, 0, none⟩) 0 0) 0 [] := (by rw [eV]; exact oV1.alloc _)
          have nz : n5 ≠ n1 := (by rw [en]; omega)
          rw [← eV, ← en]
          clear eV en
          refine wpAnyH_ready (rs := [4]) (by kernel_rfl) (by simp) ?_
          refine AllReadyH.cons rfl (fun K hK => ?_) AllReadyH.nil
          refine wp_append_noneI (.tmp 20) (.tmp 23) 45 rfl U0.heap.size 3 i0 1 Tryz.underlying45 Hi.out (.slice (some ⟨n1, 0, none⟩) 0 0) 0 [] rfl (owns_base oV5 l1) rfl ?_
          have OV5 : V5.ownsRow U0.heap.size 3 1 (.slice (some ⟨n1, 0, none⟩) 0 0) (LL.take k).length (rowC ic (LL.take k)) := (by rw [TK.out]; exact owns_base oV5 l1)
          refine hK.out _ _ trivial (fun _ => ?_)
          clear hK K
          (try simp only [Act.put, List.setIfInBounds_toArray, List.set_cons_zero, List.set_cons_succ, List.getElem_toArray, List.getElem_cons_succ, List.getElem_cons_zero])
          refine wpAnyH_ready (rs := [7]) (by kernel_rfl) (by simp) ?_
          refine AllReadyH.cons rfl (fun K hK => ?_) AllReadyH.nil
          refine wp_append_own _ (.tmp 24) (.tmp 26) 45 rfl U0.heap.size 3 i0 (.int .i64 0) 1 8 Tryz.underlying45 Hi.out Hz0.out Hz1.out Hz2.out rfl (by decide) _ (LL.take k).length (rowC ic (LL.take k)) rfl OV5 ⟨n5, 0, none⟩ 1 1 (ic n) rfl rfl (fun j' u hj' => (by rw [Addr.add_mid, Nat.zero_add, blk_cell z5]; simpa using hj')) (ic_one _) (by rw [TKL.out]; unfold maxLen; omega) (by rw [TKL.out]; omega) cV5.size ?_
          intro v6 V6 ho hg5 _
          have bV6 : Below w.heap.size w V6 := bV5.grown hg5 bV5.size (fun k e => by have h9 := (OV5.lt k e).1; omega)
          have cV6 : Below U0.heap.size U0 V6 := cV5.grown hg5 cV5.size (fun k e => (OV5.lt k e).1)
          refine hK.out _ _ trivial (fun _ => ?_)
          clear hK K
          (try simp only [Act.put, List.setIfInBounds_toArray, List.set_cons_zero, List.set_cons_succ, List.getElem_toArray, List.getElem_cons_succ, List.getElem_cons_zero])
          clear hg5
          refine wpAnyH_ready (rs := [11]) (by kernel_rfl) (by simp) ?_
          refine AllReadyH.cons rfl (fun K hK => ?_) AllReadyH.nil
          refine wp_append_noneI (.tmp 27) (.tmp 30) 45 rfl U0.heap.size 3 i0 1 Tryz.underlying45 Hi.out v6 _ _ rfl ho rfl ?_
          refine hK.out _ _ trivial (fun _ => ?_)
          clear hK K
          (try simp only [Act.put, List.setIfInBounds_toArray, List.set_cons_zero, List.set_cons_succ, List.getElem_toArray, List.getElem_cons_succ, List.getElem_cons_zero])
          refine wpAnyH_take (i := 12) (oi := _) (v := ?_) rfl (by kernel_rfl) (by kernel_rfl) (by kernel_rfl) (fun _ _ _ h => h) (Or.inl ⟨by rfl, ?_⟩) (by assumption) ?_
          rotate_left
          focus (intro W hSw; (try dsimp only at hSw); go_simp; (try with_reducible rfl))
          (try simp only [Act.put, List.setIfInBounds_toArray, List.set_cons_zero, List.set_cons_succ, List.getElem_toArray, List.getElem_cons_succ, List.getElem_cons_zero])
          refine wpAnyH_done (by kernel_rfl) ?_ _
          have hN : Hid (V6.ownsRow w.heap.size 3 1 v6 (ascO (M ++ [n])).length (rowC ic (ascO (M ++ [n])))) := Lib.hid (by
            have h9 := owns_base ho (show w.heap.size ≤ U0.heap.size from sU)
            rw [← NEXT.out, show LL.take k ++ n :: LL.drop k = LL.take k ++ [n] ++ LL.drop k by simp, rowC_append, rowC_append, rowC_one, List.length_append, List.length_append, List.length_singleton, LD.out]
            rw [DK.out]
            simpa [rowC] using h9)
          have bN := bV6
          clear ho
          go_wp2
          go_ret
          exact ⟨_, rfl, hN.out, bN⟩
        refine AllReadyH.cons rfl (fun K hK => ?_) AllReadyH.nil
        go_simp
        refine hK.out _ _ trivial (fun _ => ?_)
        clear hK K
        (try simp only [Act.put, List.setIfInBounds_toArray, List.set_cons_zero, List.set_cons_succ, List.getElem_toArray, List.getElem_cons_succ, List.getElem_cons_zero])
        obtain ⟨V8, eV⟩ : ∃ v, v = U0.alloc (.cells #[.int .i64 n] 3) := ⟨_, rfl⟩
        obtain ⟨n8, en⟩ : ∃ v, v = U0.heap.size := ⟨_, rfl⟩
        have bV8 : Below w.heap.size w V8 := (by rw [eV]; exact bU0.alloc bU0.size _)
        have cV8 : Below U0.heap.size U0 V8 := (by rw [eV]; exact cU0.alloc cU0.size _)
        have z8 : blk V8 n8 = some (ic n).toArray := (by rw [eV, en]; exact blk_alloc_new _ _ _ rfl)
        have l8 : U0.heap.size ≤ n8 := (by rw [en]; exact cU0.size)
        have u8 : n8 < V8.heap.size := (by rw [eV, en]; simp)
        rw [← eV, ← en]
        clear eV en
        refine wpAnyH_ready (rs := [0]) (by kernel_rfl) (by simp) ?_
        refine AllReadyH.cons rfl (fun K hK => ?_) AllReadyH.nil
        go_simp
        refine hK.out _ _ trivial (fun _ => ?_)
        clear hK K
        (try simp only [Act.put, List.setIfInBounds_toArray, List.set_cons_zero, List.set_cons_succ, List.getElem_toArray, List.getElem_cons_succ, List.getElem_cons_zero])
        obtain ⟨V9, eV⟩ : ∃ v, v = V8.alloc (.cells #[] 3) := ⟨_, rfl⟩
        obtain ⟨n9, en⟩ : ∃ v, v = V8.heap.size := ⟨_, rfl⟩
        have bV9 : Below w.heap.size w V9 := (by rw [eV]; exact bV8.alloc bV8.size _)
        have cV9 : Below U0.heap.size U0 V9 := (by rw [eV]; exact cV8.alloc cV8.size _)
        have oV9 : V9.ownsRow n9 3 1 (.slice (some ⟨n9, 0, none⟩) 0 0) 0 [] := (by rw [eV, en]; exact own_emptyIn _ _)
        have l9 : U0.heap.size ≤ n9 := (by rw [en]; exact cV8.size)
        have u9 : n9 < V9.heap.size := (by rw [eV, en]; simp)
        have nz : n8 ≠ n9 := (by rw [en]; omega)
        replace z8 := (by rw [eV]; exact blk_alloc z8 _ : blk V9 n8 = some (ic n).toArray)
        replace u8 : n8 < V9.heap.size := (by rw [eV]; simp; omega)
        rw [← eV, ← en]
        clear eV en
        refine wpAnyH_ready (rs := [4]) (by kernel_rfl) (by simp) ?_
        refine AllReadyH.cons rfl (fun K hK => ?_) AllReadyH.nil
        refine wp_append_noneI (.tmp 20) (.tmp 23) 45 rfl U0.heap.size 3 i0 1 Tryz.underlying45 Hi.out (.slice (some ⟨n9, 0, none⟩) 0 0) 0 [] rfl (owns_base oV9 l9) rfl ?_
        have OV9 : V9.ownsRow U0.heap.size 3 1 (.slice (some ⟨n9, 0, none⟩) 0 0) (LL.take k).length (rowC ic (LL.take k)) := (by rw [TK.out]; exact owns_base oV9 l9)
        refine hK.out _ _ trivial (fun _ => ?_)
        clear hK K
        (try simp only [Act.put, List.setIfInBounds_toArray, List.set_cons_zero, List.set_cons_succ, List.getElem_toArray, List.getElem_cons_succ, List.getElem_cons_zero])
        refine wpAnyH_ready (rs := [7]) (by kernel_rfl) (by simp) ?_
        refine AllReadyH.cons rfl (fun K hK => ?_) AllReadyH.nil
        refine wp_append_own _ (.tmp 24) (.tmp 26) 45 rfl U0.heap.size 3 i0 (.int .i64 0) 1 8 Tryz.underlying45 Hi.out Hz0.out Hz1.out Hz2.out rfl (by decide) _ (LL.take k).length (rowC ic (LL.take k)) rfl OV9 ⟨n8, 0, none⟩ 1 1 (ic n) rfl rfl (fun j' u hj' => (by rw [Addr.add_mid, Nat.zero_add, blk_cell z8]; simpa using hj')) (ic_one _) (by rw [TKL.out]; unfold maxLen; omega) (by rw [TKL.out]; omega) cV9.size ?_
        intro v10 V10 ho hg5 _
        have bV10 : Below w.heap.size w V10 := bV9.grown hg5 bV9.size (fun k e => by have h9 := (OV9.lt k e).1; omega)
        have cV10 : Below U0.heap.size U0 V10 := cV9.grown hg5 cV9.size (fun k e => (OV9.lt k e).1)
        refine hK.out _ _ trivial (fun _ => ?_)
        clear hK K
        (try simp only [Act.put, List.setIfInBounds_toArray, List.set_cons_zero, List.set_cons_succ, List.getElem_toArray, List.getElem_cons_succ, List.getElem_cons_zero])
        clear hg5
        refine wpAnyH_ready (rs := [11]) (by kernel_rfl) (by simp) ?_
        refine AllReadyH.cons rfl (fun K hK => ?_) AllReadyH.nil
        refine wp_append_noneI (.tmp 27) (.tmp 30) 45 rfl U0.heap.size 3 i0 1 Tryz.underlying45 Hi.out v10 _ _ rfl ho rfl ?_
        refine hK.out _ _ trivial (fun _ => ?_)
        clear hK K
        (try simp only [Act.put, List.setIfInBounds_toArray, List.set_cons_zero, List.set_cons_succ, List.getElem_toArray, List.getElem_cons_succ, List.getElem_cons_zero])
        refine wpAnyH_take (i := 12) (oi := _) (v := ?_) rfl (by kernel_rfl) (by kernel_rfl) (by kernel_rfl) (fun _ _ _ h => h) (Or.inl ⟨by rfl, ?_⟩) (by assumption) ?_
        rotate_left
        focus (intro W hSw; (try dsimp only at hSw); go_simp; (try with_reducible rfl))
        (try simp only [Act.put, List.setIfInBounds_toArray, List.set_cons_zero, List.set_cons_succ, List.getElem_toArray, List.getElem_cons_succ, List.getElem_cons_zero])
        refine wpAnyH_done (by kernel_rfl) ?_ _
        have hN : Hid (V10.ownsRow w.heap.size 3 1 v10 (ascO (M ++ [n])).length (rowC ic (ascO (M ++ [n])))) := Lib.hid (by
          have h9 := owns_base ho (show w.heap.size ≤ U0.heap.size from sU)
          rw [← NEXT.out, show LL.take k ++ n :: LL.drop k = LL.take k ++ [n] ++ LL.drop k by simp, rowC_append, rowC_append, rowC_one, List.length_append, List.length_append, List.length_singleton, LD.out]
          rw [DK.out]
          simpa [rowC] using h9)
        have bN := bV10
        clear ho
        go_wp2
        go_ret
        exact ⟨_, rfl, hN.out, bN⟩
      · by_cases hkc : k = co
        · subst hkc
          have kgU := blk_below hBV hbg
          have HCT := Lib.hid hct
          have TKL : Hid ((LL.take k).length = k) := Lib.hid (by rw [List.length_take]; omega)
          have TD : Hid (LL = LL.take k ++ LL.drop k) := Lib.hid (List.take_append_drop k LL).symm
          have LD : Hid ((LL.drop k).length = 0) := Lib.hid (by rw [List.length_drop]; omega)
          have DK : Hid (LL.drop k = []) := Lib.hid (List.drop_of_length_le (by omega))
          clear hct hcs hbg
          go_upto_region 4 with fail
          refine wp_region_held_drew (S := fun W => True) (by kernel_rfl) trivial (fun hHeld => ?_)
          obtain ⟨U0, eU⟩ : ∃ v, v = wr.drew := ⟨_, rfl⟩
          have bU0 : Below w.heap.size w U0 := (by rw [eU]; exact hBV.drew)
          have cU0 : Below U0.heap.size U0 U0 := Below.refl _ _
          have sU := bU0.size
          have kg : blk U0 g = some cur := (by rw [eU]; exact blk_drew kgU)
          have gU := blk_lt kg
          clear kgU
          rw [← eU]
          clear eU hBV
          refine wpAnyH_take (i := 1) (oi := _) (v := ?_) rfl (by kernel_rfl) (by kernel_rfl) (by kernel_rfl) (fun _ _ _ h => h) (Or.inl ⟨by rfl, ?_⟩) (by assumption) ?_
          rotate_left
          focus (intro W hSw; (try dsimp only at hSw); go_simp; (try with_reducible rfl))
          (try simp only [Act.put, List.setIfInBounds_toArray, List.set_cons_zero, List.set_cons_succ, List.getElem_toArray, List.getElem_cons_succ, List.getElem_cons_zero])
          refine wpAnyH_take (i := 2) (oi := _) (v := ?_) rfl (by kernel_rfl) (by kernel_rfl) (by kernel_rfl) (fun _ _ _ h => h) (Or.inl ⟨by rfl, ?_⟩) (by assumption) ?_
          rotate_left
          focus (intro W hSw; (try dsimp only at hSw); go_simp; (try with_reducible rfl))
          (try simp only [Act.put, List.setIfInBounds_toArray, List.set_cons_zero, List.set_cons_succ, List.getElem_toArray, List.getElem_cons_succ, List.getElem_cons_zero])
          refine wpAnyH_take (i := 3) (oi := _) (v := ?_) rfl (by kernel_rfl) (by kernel_rfl) (by kernel_rfl) (fun _ _ _ h => h) (Or.inl ⟨by rfl, ?_⟩) (by assumption) ?_
          rotate_left
          focus (intro W hSw; (try dsimp only at hSw); go_simp; (try with_reducible rfl))
          (try simp only [Act.put, List.setIfInBounds_toArray, List.set_cons_zero, List.set_cons_succ, List.getElem_toArray, List.getElem_cons_succ, List.getElem_cons_zero])
          refine wpAnyH_take (i := 5) (oi := _) (v := ?_) rfl (by kernel_rfl) (by kernel_rfl) (by kernel_rfl) (fun _ _ _ h => h) (Or.inl ⟨by rfl, ?_⟩) (by assumption) ?_
          rotate_left
          focus (intro W hSw; (try dsimp only at hSw); go_simp; (try with_reducible rfl))
          (try simp only [Act.put, List.setIfInBounds_toArray, List.set_cons_zero, List.set_cons_succ, List.getElem_toArray, List.getElem_cons_succ, List.getElem_cons_zero])
          refine wpAnyH_take (i := 8) (oi := _) (v := ?_) rfl (by kernel_rfl) (by kernel_rfl) (by kernel_rfl) (fun _ _ _ h => h) (Or.inl ⟨by rfl, ?_⟩) (by assumption) ?_
          rotate_left
          focus (intro W hSw; (try dsimp only at hSw); go_simp; (try with_reducible rfl))
          (try simp only [Act.put, List.setIfInBounds_toArray, List.set_cons_zero, List.set_cons_succ, List.getElem_toArray, List.getElem_cons_succ, List.getElem_cons_zero])
          refine wpAnyH_take (i := 9) (oi := _) (v := ?_) rfl (by kernel_rfl) (by kernel_rfl) (by kernel_rfl) (fun _ _ _ h => h) (Or.inl ⟨by rfl, ?_⟩) (by assumption) ?_
          rotate_left
          focus (intro W hSw; (try dsimp only at hSw); go_simp; (try with_reducible rfl))
          (try simp only [Act.put, List.setIfInBounds_toArray, List.set_cons_zero, List.set_cons_succ, List.getElem_toArray, List.getElem_cons_succ, List.getElem_cons_zero])
          refine wpAnyH_take (i := 10) (oi := _) (v := ?_) rfl (by kernel_rfl) (by kernel_rfl) (by kernel_rfl) (fun _ _ _ h => h) (Or.inl ⟨by rfl, ?_⟩) (by assumption) ?_
          rotate_left
          focus (intro W hSw; (try dsimp only at hSw); go_simp; (try with_reducible rfl))
          (try simp only [Act.put, List.setIfInBounds_toArray, List.set_cons_zero, List.set_cons_succ, List.getElem_toArray, List.getElem_cons_succ, List.getElem_cons_zero])
          refine wpAnyH_ready (rs := [0, 6]) (by kernel_rfl) (by simp) ?_
          refine AllReadyH.cons rfl (fun K hK => ?_) ?_
          · skip
            go_simp
            refine hK.out _ _ trivial (fun _ => ?_)
            clear hK K
            (try simp only [Act.put, List.setIfInBounds_toArray, List.set_cons_zero, List.set_cons_succ, List.getElem_toArray, List.getElem_cons_succ, List.getElem_cons_zero])
            obtain ⟨V1, eV⟩ : ∃ v, v = U0.alloc (.cells #[] 3) := ⟨_, rfl⟩
            obtain ⟨n1, en⟩ : ∃ v, v = U0.heap.size := ⟨_, rfl⟩
            have bV1 : Below w.heap.size w V1 := (by rw [eV]; exact bU0.alloc bU0.size _)
            have cV1 : Below U0.heap.size U0 V1 := (by rw [eV]; exact cU0.alloc cU0.size _)
            have oV1 : V1.ownsRow n1 3 1 (.slice (some ⟨n1, 0, none⟩) 0 0) 0 [] := (by rw [eV, en]; exact own_emptyIn _ _)
            have l1 : U0.heap.size ≤ n1 := (by rw [en]; exact cU0.size)
            have u1 : n1 < V1.heap.size := (by rw [eV, en]; simp)
            rw [← eV, ← en]
            clear eV en
            refine wpAnyH_ready (rs := [4, 6]) (by kernel_rfl) (by simp) ?_
            refine AllReadyH.cons rfl (fun K hK => ?_) ?_
            · skip
              refine wp_append_own _ (.tmp 20) (.tmp 23) 45 rfl U0.heap.size 3 i0 (.int .i64 0) 1 8 Tryz.underlying45 Hi.out Hz0.out Hz1.out Hz2.out rfl (by decide) (.slice (some ⟨n1, 0, none⟩) 0 0) 0 [] rfl (owns_base oV1 l1) ⟨g, 0, none⟩ k k (rowC ic (LL.take k)) rfl (by rw [rowC_length ic_len, TKL.out]) (fun j' u hj' => (by rw [Addr.add_mid, Nat.zero_add, cV1.cell (p := ⟨g, j', none⟩) gU, blk_cell kg]; exact irow_head HCT.out TD.out hj')) (rowIn_one_cell _) (by unfold maxLen; omega) (by omega) cV1.size ?_
              intro v2 V2 ho hg5 _
              have bV2 : Below w.heap.size w V2 := bV1.grown hg5 bV1.size (fun k e => by have h9 := (oV1.lt k e).1; omega)
              have cV2 : Below U0.heap.size U0 V2 := cV1.grown hg5 cV1.size (fun k e => by have h9 := (oV1.lt k e).1; omega)
              have OV2 : V2.ownsRow U0.heap.size 3 1 v2 (LL.take k).length (rowC ic (LL.take k)) := (by have h9 := ho; rw [Nat.zero_add, List.nil_append] at h9; rw [TKL.out]; exact h9)
              refine hK.out _ _ trivial (fun _ => ?_)
              clear hK K
              (try simp only [Act.put, List.setIfInBounds_toArray, List.set_cons_zero, List.set_cons_succ, List.getElem_toArray, List.getElem_cons_succ, List.getElem_cons_zero])
              clear ho hg5
              refine wpAnyH_ready (rs := [6]) (by kernel_rfl) (by simp) ?_
              refine AllReadyH.cons rfl (fun K hK => ?_) AllReadyH.nil
              go_simp
              refine hK.out _ _ trivial (fun _ => ?_)
              clear hK K
              (try simp only [Act.put, List.setIfInBounds_toArray, List.set_cons_zero, List.set_cons_succ, List.getElem_toArray, List.getElem_cons_succ, List.getElem_cons_zero])
              obtain ⟨V3, eV⟩ : ∃ v, v = V2.alloc (.cells #[.int .i64 n] 3) := ⟨_, rfl⟩
              obtain ⟨n3, en⟩ : ∃ v, v = V2.heap.size := ⟨_, rfl⟩
              have bV3 : Below w.heap.size w V3 := (by rw [eV]; exact bV2.alloc bV2.size _)
              have cV3 : Below U0.heap.size U0 V3 := (by rw [eV]; exact cV2.alloc cV2.size _)
              have z3 : blk V3 n3 = some (ic n).toArray := (by rw [eV, en]; exact blk_alloc_new _ _ _ rfl)
              have l3 : U0.heap.size ≤ n3 := (by rw [en]; exact cV2.size)
              have u3 : n3 < V3.heap.size := (by rw [eV, en]; simp)
              have OV3 : V3.ownsRow U0.heap.size 3 1 _ (LL.take k).length (rowC ic (LL.take k)) := (by rw [eV]; exact OV2.alloc _)
              rw [← eV, ← en]
              clear eV en
              refine wpAnyH_ready (rs := [7]) (by kernel_rfl) (by simp) ?_
              refine AllReadyH.cons rfl (fun K hK => ?_) AllReadyH.nil
              refine wp_append_own _ (.tmp 24) (.tmp 26) 45 rfl U0.heap.size 3 i0 (.int .i64 0) 1 8 Tryz.underlying45 Hi.out Hz0.out Hz1.out Hz2.out rfl (by decide) _ (LL.take k).length (rowC ic (LL.take k)) rfl OV3 ⟨n3, 0, none⟩ 1 1 (ic n) rfl rfl (fun j' u hj' => (by rw [Addr.add_mid, Nat.zero_add, blk_cell z3]; simpa using hj')) (ic_one _) (by rw [TKL.out]; unfold maxLen; omega) (by rw [TKL.out]; omega) cV3.size ?_
              intro v4 V4 ho hg5 _
              have bV4 : Below w.heap.size w V4 := bV3.grown hg5 bV3.size (fun k e => by have h9 := (OV3.lt k e).1; omega)
              have cV4 : Below U0.heap.size U0 V4 := cV3.grown hg5 cV3.size (fun k e => (OV3.lt k e).1)
              refine hK.out _ _ trivial (fun _ => ?_)
              clear hK K
              (try simp only [Act.put, List.setIfInBounds_toArray, List.set_cons_zero, List.set_cons_succ, List.getElem_toArray, List.getElem_cons_succ, List.getElem_cons_zero])
              clear hg5
              refine wpAnyH_ready (rs := [11]) (by kernel_rfl) (by simp) ?_
              refine AllReadyH.cons rfl (fun K hK => ?_) AllReadyH.nil
              refine wp_append_own _ (.tmp 27) (.tmp 30) 45 rfl U0.heap.size 3 i0 (.int .i64 0) 1 8 Tryz.underlying45 Hi.out Hz0.out Hz1.out Hz2.out rfl (by decide) v4 ((LL.take k).length + 1) (rowC ic (LL.take k) ++ ic n) rfl ho ⟨g, 0, none⟩ 0 0 (rowC ic (LL.drop k)) rfl (by rw [rowC_length ic_len, LD.out]) (fun j' u hj' => by rw [DK.out] at hj'; simp [rowC] at hj') (rowIn_one_cell _) (by rw [TKL.out]; unfold maxLen; omega) (by rw [TKL.out]; omega) cV4.size ?_
              intro v5 V5 ho2 hg6 _
              have bV5 : Below w.heap.size w V5 := bV4.grown hg6 bV4.size (fun k e => by have h9 := (ho.lt k e).1; omega)
              refine hK.out _ _ trivial (fun _ => ?_)
              clear hK K
              (try simp only [Act.put, List.setIfInBounds_toArray, List.set_cons_zero, List.set_cons_succ, List.getElem_toArray, List.getElem_cons_succ, List.getElem_cons_zero])
              refine wpAnyH_take (i := 12) (oi := _) (v := ?_) rfl (by kernel_rfl) (by kernel_rfl) (by kernel_rfl) (fun _ _ _ h => h) (Or.inl ⟨by rfl, ?_⟩) (by assumption) ?_
              rotate_left
              focus (intro W hSw; (try dsimp only at hSw); go_simp; (try with_reducible rfl))
              (try simp only [Act.put, List.setIfInBounds_toArray, List.set_cons_zero, List.set_cons_succ, List.getElem_toArray, List.getElem_cons_succ, List.getElem_cons_zero])
              refine wpAnyH_done (by kernel_rfl) ?_ _
              have hN : Hid (V5.ownsRow w.heap.size 3 1 v5 (ascO (M ++ [n])).length (rowC ic (ascO (M ++ [n])))) := Lib.hid (by
                have h9 := owns_base ho2 (show w.heap.size ≤ U0.heap.size from sU)
                rw [← NEXT.out, show LL.take k ++ n :: LL.drop k = LL.take k ++ [n] ++ LL.drop k by simp, rowC_append, rowC_append, rowC_one, List.length_append, List.length_append, List.length_singleton, LD.out]
                exact h9)
              have bN := bV5
              clear ho ho2 hg6
              go_wp2
              go_ret
              exact ⟨_, rfl, hN.out, bN⟩
            refine AllReadyH.cons rfl (fun K hK => ?_) AllReadyH.nil
            go_simp
            refine hK.out _ _ trivial (fun _ => ?_)
            clear hK K
            (try simp only [Act.put, List.setIfInBounds_toArray, List.set_cons_zero, List.set_cons_succ, List.getElem_toArray, List.getElem_cons_succ, List.getElem_cons_zero])
            obtain ⟨V6, eV⟩ : ∃ v, v = V1.alloc (.cells #[.int .i64 n] 3) := ⟨_, rfl⟩
            obtain ⟨n6, en⟩ : ∃ v, v = V1.heap.size := ⟨_, rfl⟩
            have bV6 : Below w.heap.size w V6 := (by rw [eV]; exact bV1.alloc bV1.size _)
            have cV6 : Below U0.heap.size U0 V6 := (by rw [eV]; exact cV1.alloc cV1.size _)
            have z6 : blk V6 n6 = some (ic n).toArray := (by rw [eV, en]; exact blk_alloc_new _ _ _ rfl)
            have l6 : U0.heap.size ≤ n6 := (by rw [en]; exact cV1.size)
            have u6 : n6 < V6.heap.size := (by rw [eV, en]; simp)
            have oV6 : V6.ownsRow n1 3 1 (.slice (some ⟨n1, 0, none⟩) 0 0) 0 [] := (by rw [eV]; exact oV1.alloc _)
            have nz : n6 ≠ n1 := (by rw [en]; omega)
            rw [← eV, ← en]
            clear eV en
            refine wpAnyH_ready (rs := [4]) (by kernel_rfl) (by simp) ?_
            refine AllReadyH.cons rfl (fun K hK => ?_) AllReadyH.nil
            refine wp_append_own _ (.tmp 20) (.tmp 23) 45 rfl U0.heap.size 3 i0 (.int .i64 0) 1 8 Tryz.underlying45 Hi.out Hz0.out Hz1.out Hz2.out rfl (by decide) (.slice (some ⟨n1, 0, none⟩) 0 0) 0 [] rfl (owns_base oV6 l1) ⟨g, 0, none⟩ k k (rowC ic (LL.take k)) rfl (by rw [rowC_length ic_len, TKL.out]) (fun j' u hj' => (by rw [Addr.add_mid, Nat.zero_add, cV6.cell (p := ⟨g, j', none⟩) gU, blk_cell kg]; exact irow_head HCT.out TD.out hj')) (rowIn_one_cell _) (by unfold maxLen; omega) (by omega) cV6.size ?_
            intro v7 V7 ho hg5 _
            have bV7 : Below w.heap.size w V7 := bV6.grown hg5 bV6.size (fun k e => by have h9 := (oV6.lt k e).1; omega)
            have cV7 : Below U0.heap.size U0 V7 := cV6.grown hg5 cV6.size (fun k e => by have h9 := (oV6.lt k e).1; omega)
            have OV7 : V7.ownsRow U0.heap.size 3 1 v7 (LL.take k).length (rowC ic (LL.take k)) := (by have h9 := ho; rw [Nat.zero_add, List.nil_append] at h9; rw [TKL.out]; exact h9)
            replace z6 := (blk_kept (hg5.block n6 u6 (fun e => by simp [Value.ownBlock] at e; omega))).trans z6
            replace u6 := Nat.lt_of_lt_of_le u6 hg5.size
            refine hK.out _ _ trivial (fun _ => ?_)
            clear hK K
            (try simp only [Act.put, List.setIfInBounds_toArray, List.set_cons_zero, List.set_cons_succ, List.getElem_toArray, List.getElem_cons_succ, List.getElem_cons_zero])
            clear ho hg5
            refine wpAnyH_ready (rs := [7]) (by kernel_rfl) (by simp) ?_
            refine AllReadyH.cons rfl (fun K hK => ?_) AllReadyH.nil
            refine wp_append_own _ (.tmp 24) (.tmp 26) 45 rfl U0.heap.size 3 i0 (.int .i64 0) 1 8 Tryz.underlying45 Hi.out Hz0.out Hz1.out Hz2.out rfl (by decide) _ (LL.take k).length (rowC ic (LL.take k)) rfl OV7 ⟨n6, 0, none⟩ 1 1 (ic n) rfl rfl (fun j' u hj' => (by rw [Addr.add_mid, Nat.zero_add, blk_cell z6]; simpa using hj')) (ic_one _) (by rw [TKL.out]; unfold maxLen; omega) (by rw [TKL.out]; omega) cV7.size ?_
            intro v8 V8 ho hg5 _
            have bV8 : Below w.heap.size w V8 := bV7.grown hg5 bV7.size (fun k e => by have h9 := (OV7.lt k e).1; omega)
            have cV8 : Below U0.heap.size U0 V8 := cV7.grown hg5 cV7.size (fun k e => (OV7.lt k e).1)
            refine hK.out _ _ trivial (fun _ => ?_)
            clear hK K
            (try simp only [Act.put, List.setIfInBounds_toArray, List.set_cons_zero, List.set_cons_succ, List.getElem_toArray, List.getElem_cons_succ, List.getElem_cons_zero])
            clear hg5
            refine wpAnyH_ready (rs := [11]) (by kernel_rfl) (by simp) ?_
            refine AllReadyH.cons rfl (fun K hK => ?_) AllReadyH.nil
            refine wp_append_own _ (.tmp 27) (.tmp 30) 45 rfl U0.heap.size 3 i0 (.int .i64 0) 1 8 Tryz.underlying45 Hi.out Hz0.out Hz1.out Hz2.out rfl (by decide) v8 ((LL.take k).length + 1) (rowC ic (LL.take k) ++ ic n) rfl ho ⟨g, 0, none⟩ 0 0 (rowC ic (LL.drop k)) rfl (by rw [rowC_length ic_len, LD.out]) (fun j' u hj' => by rw [DK.out] at hj'; simp [rowC] at hj') (rowIn_one_cell _) (by rw [TKL.out]; unfold maxLen; omega) (by rw [TKL.out]; omega) cV8.size ?_
            intro v9 V9 ho2 hg6 _
            have bV9 : Below w.heap.size w V9 := bV8.grown hg6 bV8.size (fun k e => by have h9 := (ho.lt k e).1; omega)
            refine hK.out _ _ trivial (fun _ => ?_)
            clear hK K
            (try simp only [Act.put, List.setIfInBounds_toArray, List.set_cons_zero, List.set_cons_succ, List.getElem_toArray, List.getElem_cons_succ, List.getElem_cons_zero])
            refine wpAnyH_take (i := 12) (oi := _) (v := ?_) rfl (by kernel_rfl) (by kernel_rfl) (by kernel_rfl) (fun _ _ _ h => h) (Or.inl ⟨by rfl, ?_⟩) (by assumption) ?_
            rotate_left
            focus (intro W hSw; (try dsimp only at hSw); go_simp; (try with_reducible rfl))
            (try simp only [Act.put, List.setIfInBounds_toArray, List.set_cons_zero, List.set_cons_succ, List.getElem_toArray, List.getElem_cons_succ, List.getElem_cons_zero])
            refine wpAnyH_done (by kernel_rfl) ?_ _
            have hN : Hid (V9.ownsRow w.heap.size 3 1 v9 (ascO (M ++ [n])).length (rowC ic (ascO (M ++ [n])))) := Lib.hid (by
              have h9 := owns_base ho2 (show w.heap.size ≤ U0.heap.size from sU)
              rw [← NEXT.out, show LL.take k ++ n :: LL.drop k = LL.take k ++ [n] ++ LL.drop k by simp, rowC_append, rowC_append, rowC_one, List.length_append, List.length_append, List.length_singleton, LD.out]
              exact h9)
            have bN := bV9
            clear ho ho2 hg6
            go_wp2
            go_ret
            exact ⟨_, rfl, hN.out, bN⟩
          refine AllReadyH.cons rfl (fun K hK => ?_) AllReadyH.nil
          go_simp
          refine hK.out _ _ trivial (fun _ => ?_)
          clear hK K
          (try simp only [Act.put, List.setIfInBounds_toArray, List.set_cons_zero, List.set_cons_succ, List.getElem_toArray, List.getElem_cons_succ, List.getElem_cons_zero])
          obtain ⟨V10, eV⟩ : ∃ v, v = U0.alloc (.cells #[.int .i64 n] 3) := ⟨_, rfl⟩
          obtain ⟨n10, en⟩ : ∃ v, v = U0.heap.size := ⟨_, rfl⟩
          have bV10 : Below w.heap.size w V10 := (by rw [eV]; exact bU0.alloc bU0.size _)
          have cV10 : Below U0.heap.size U0 V10 := (by rw [eV]; exact cU0.alloc cU0.size _)
          have z10 : blk V10 n10 = some (ic n).toArray := (by rw [eV, en]; exact blk_alloc_new _ _ _ rfl)
          have l10 : U0.heap.size ≤ n10 := (by rw [en]; exact cU0.size)
          have u10 : n10 < V10.heap.size := (by rw [eV, en]; simp)
          rw [← eV, ← en]
          clear eV en
          refine wpAnyH_ready (rs := [0]) (by kernel_rfl) (by simp) ?_
          refine AllReadyH.cons rfl (fun K hK => ?_) AllReadyH.nil
          go_simp
          refine hK.out _ _ trivial (fun _ => ?_)
          clear hK K
          (try simp only [Act.put, List.setIfInBounds_toArray, List.set_cons_zero, List.set_cons_succ, List.getElem_toArray, List.getElem_cons_succ, List.getElem_cons_zero])
          obtain ⟨V11, eV⟩ : ∃ v, v = V10.alloc (.cells #[] 3) := ⟨_, rfl⟩
          obtain ⟨n11, en⟩ : ∃ v, v = V10.heap.size := ⟨_, rfl⟩
          have bV11 : Below w.heap.size w V11 := (by rw [eV]; exact bV10.alloc bV10.size _)
          have cV11 : Below U0.heap.size U0 V11 := (by rw [eV]; exact cV10.alloc cV10.size _)
          have oV11 : V11.ownsRow n11 3 1 (.slice (some ⟨n11, 0, none⟩) 0 0) 0 [] := (by rw [eV, en]; exact own_emptyIn _ _)
          have l11 : U0.heap.size ≤ n11 := (by rw [en]; exact cV10.size)
          have u11 : n11 < V11.heap.size := (by rw [eV, en]; simp)
          have nz : n10 ≠ n11 := (by rw [en]; omega)
          replace z10 := (by rw [eV]; exact blk_alloc z10 _ : blk V11 n10 = some (ic n).toArray)
          replace u10 : n10 < V11.heap.size := (by rw [eV]; simp; omega)
          rw [← eV, ← en]
          clear eV en
          refine wpAnyH_ready (rs := [4]) (by kernel_rfl) (by simp) ?_
          refine AllReadyH.cons rfl (fun K hK => ?_) AllReadyH.nil
          refine wp_append_own _ (.tmp 20) (.tmp 23) 45 rfl U0.heap.size 3 i0 (.int .i64 0) 1 8 Tryz.underlying45 Hi.out Hz0.out Hz1.out Hz2.out rfl (by decide) (.slice (some ⟨n11, 0, none⟩) 0 0) 0 [] rfl (owns_base oV11 l11) ⟨g, 0, none⟩ k k (rowC ic (LL.take k)) rfl (by rw [rowC_length ic_len, TKL.out]) (fun j' u hj' => (by rw [Addr.add_mid, Nat.zero_add, cV11.cell (p := ⟨g, j', none⟩) gU, blk_cell kg]; exact irow_head HCT.out TD.out hj')) (rowIn_one_cell _) (by unfold maxLen; omega) (by omega) cV11.size ?_
          intro v12 V12 ho hg5 _
          have bV12 : Below w.heap.size w V12 := bV11.grown hg5 bV11.size (fun k e => by have h9 := (oV11.lt k e).1; omega)
          have cV12 : Below U0.heap.size U0 V12 := cV11.grown hg5 cV11.size (fun k e => by have h9 := (oV11.lt k e).1; omega)
          have OV12 : V12.ownsRow U0.heap.size 3 1 v12 (LL.take k).length (rowC ic (LL.take k)) := (by have h9 := ho; rw [Nat.zero_add, List.nil_append] at h9; rw [TKL.out]; exact h9)
          replace z10 := (blk_kept (hg5.block n10 u10 (fun e => by simp [Value.ownBlock] at e; omega))).trans z10
          replace u10 := Nat.lt_of_lt_of_le u10 hg5.size
          refine hK.out _ _ trivial (fun _ => ?_)
          clear hK K
          (try simp only [Act.put, List.setIfInBounds_toArray, List.set_cons_zero, List.set_cons_succ, List.getElem_toArray, List.getElem_cons_succ, List.getElem_cons_zero])
          clear ho hg5
          refine wpAnyH_ready (rs := [7]) (by kernel_rfl) (by simp) ?_
          refine AllReadyH.cons rfl (fun K hK => ?_) AllReadyH.nil
          refine wp_append_own _ (.tmp 24) (.tmp 26) 45 rfl U0.heap.size 3 i0 (.int .i64 0) 1 8 Tryz.underlying45 Hi.out Hz0.out Hz1.out Hz2.out rfl (by decide) _ (LL.take k).length (rowC ic (LL.take k)) rfl OV12 ⟨n10, 0, none⟩ 1 1 (ic n) rfl rfl (fun j' u hj' => (by rw [Addr.add_mid, Nat.zero_add, blk_cell z10]; simpa using hj')) (ic_one _) (by rw [TKL.out]; unfold maxLen; omega) (by rw [TKL.out]; omega) cV12.size ?_
          intro v13 V13 ho hg5 _
          have bV13 : Below w.heap.size w V13 := bV12.grown hg5 bV12.size (fun k e => by have h9 := (OV12.lt k e).1; omega)
          have cV13 : Below U0.heap.size U0 V13 := cV12.grown hg5 cV12.size (fun k e => (OV12.lt k e).1)
          refine hK.out _ _ trivial (fun _ => ?_)
          clear hK K
          (try simp only [Act.put, List.setIfInBounds_toArray, List.set_cons_zero, List.set_cons_succ, List.getElem_toArray, List.getElem_cons_succ, List.getElem_cons_zero])
          clear hg5
          refine wpAnyH_ready (rs := [11]) (by kernel_rfl) (by simp) ?_
          refine AllReadyH.cons rfl (fun K hK => ?_) AllReadyH.nil
          refine wp_append_own _ (.tmp 27) (.tmp 30) 45 rfl U0.heap.size 3 i0 (.int .i64 0) 1 8 Tryz.underlying45 Hi.out Hz0.out Hz1.out Hz2.out rfl (by decide) v13 ((LL.take k).length + 1) (rowC ic (LL.take k) ++ ic n) rfl ho ⟨g, 0, none⟩ 0 0 (rowC ic (LL.drop k)) rfl (by rw [rowC_length ic_len, LD.out]) (fun j' u hj' => by rw [DK.out] at hj'; simp [rowC] at hj') (rowIn_one_cell _) (by rw [TKL.out]; unfold maxLen; omega) (by rw [TKL.out]; omega) cV13.size ?_
          intro v14 V14 ho2 hg6 _
          have bV14 : Below w.heap.size w V14 := bV13.grown hg6 bV13.size (fun k e => by have h9 := (ho.lt k e).1; omega)
          refine hK.out _ _ trivial (fun _ => ?_)
          clear hK K
          (try simp only [Act.put, List.setIfInBounds_toArray, List.set_cons_zero, List.set_cons_succ, List.getElem_toArray, List.getElem_cons_succ, List.getElem_cons_zero])
          refine wpAnyH_take (i := 12) (oi := _) (v := ?_) rfl (by kernel_rfl) (by kernel_rfl) (by kernel_rfl) (fun _ _ _ h => h) (Or.inl ⟨by rfl, ?_⟩) (by assumption) ?_
          rotate_left
          focus (intro W hSw; (try dsimp only at hSw); go_simp; (try with_reducible rfl))
          (try simp only [Act.put, List.setIfInBounds_toArray, List.set_cons_zero, List.set_cons_succ, List.getElem_toArray, List.getElem_cons_succ, List.getElem_cons_zero])
          refine wpAnyH_done (by kernel_rfl) ?_ _
          have hN : Hid (V14.ownsRow w.heap.size 3 1 v14 (ascO (M ++ [n])).length (rowC ic (ascO (M ++ [n])))) := Lib.hid (by
            have h9 := owns_base ho2 (show w.heap.size ≤ U0.heap.size from sU)
            rw [← NEXT.out, show LL.take k ++ n :: LL.drop k = LL.take k ++ [n] ++ LL.drop k by simp, rowC_append, rowC_append, rowC_one, List.length_append, List.length_append, List.length_singleton, LD.out]
            exact h9)
          have bN := bV14
          clear ho ho2 hg6
          go_wp2
          go_ret
          exact ⟨_, rfl, hN.out, bN⟩
        · have hkc2 : ¬ (co = k) := fun h => hkc h.symm
          have hco1 : ¬ (co = 0) := by omega
          have hkco : k ≤ co := by omega
          have kgU := blk_below hBV hbg
          have HCT := Lib.hid hct
          have TKL : Hid ((LL.take k).length = k) := Lib.hid (by rw [List.length_take]; omega)
          have TD : Hid (LL = LL.take k ++ LL.drop k) := Lib.hid (List.take_append_drop k LL).symm
          have LD : Hid ((LL.drop k).length = LL.length - k) := Lib.hid (by rw [List.length_drop])
          clear hct hcs hbg
          go_upto_region 4 with fail
          refine wp_region_held_drew (S := fun W => True) (by kernel_rfl) trivial (fun hHeld => ?_)
          obtain ⟨U0, eU⟩ : ∃ v, v = wr.drew := ⟨_, rfl⟩
          have bU0 : Below w.heap.size w U0 := (by rw [eU]; exact hBV.drew)
          have cU0 : Below U0.heap.size U0 U0 := Below.refl _ _
          have sU := bU0.size
          have kg : blk U0 g = some cur := (by rw [eU]; exact blk_drew kgU)
          have gU := blk_lt kg
          clear kgU
          rw [← eU]
          clear eU hBV
          refine wpAnyH_take (i := 1) (oi := _) (v := ?_) rfl (by kernel_rfl) (by kernel_rfl) (by kernel_rfl) (fun _ _ _ h => h) (Or.inl ⟨by rfl, ?_⟩) (by assumption) ?_
          rotate_left
          focus (intro W hSw; (try dsimp only at hSw); go_simp; (try with_reducible rfl))
          (try simp only [Act.put, List.setIfInBounds_toArray, List.set_cons_zero, List.set_cons_succ, List.getElem_toArray, List.getElem_cons_succ, List.getElem_cons_zero])
          refine wpAnyH_take (i := 2) (oi := _) (v := ?_) rfl (by kernel_rfl) (by kernel_rfl) (by kernel_rfl) (fun _ _ _ h => h) (Or.inl ⟨by rfl, ?_⟩) (by assumption) ?_
          rotate_left
          focus (intro W hSw; (try dsimp only at hSw); go_simp; (try with_reducible rfl))
          (try simp only [Act.put, List.setIfInBounds_toArray, List.set_cons_zero, List.set_cons_succ, List.getElem_toArray, List.getElem_cons_succ, List.getElem_cons_zero])
          refine wpAnyH_take (i := 3) (oi := _) (v := ?_) rfl (by kernel_rfl) (by kernel_rfl) (by kernel_rfl) (fun _ _ _ h => h) (Or.inl ⟨by rfl, ?_⟩) (by assumption) ?_
          rotate_left
          focus (intro W hSw; (try dsimp only at hSw); go_simp; (try with_reducible rfl))
          (try simp only [Act.put, List.setIfInBounds_toArray, List.set_cons_zero, List.set_cons_succ, List.getElem_toArray, List.getElem_cons_succ, List.getElem_cons_zero])
          refine wpAnyH_take (i := 5) (oi := _) (v := ?_) rfl (by kernel_rfl) (by kernel_rfl) (by kernel_rfl) (fun _ _ _ h => h) (Or.inl ⟨by rfl, ?_⟩) (by assumption) ?_
          rotate_left
          focus (intro W hSw; (try dsimp only at hSw); go_simp; (try with_reducible rfl))
          (try simp only [Act.put, List.setIfInBounds_toArray, List.set_cons_zero, List.set_cons_succ, List.getElem_toArray, List.getElem_cons_succ, List.getElem_cons_zero])
          refine wpAnyH_take (i := 8) (oi := _) (v := ?_) rfl (by kernel_rfl) (by kernel_rfl) (by kernel_rfl) (fun _ _ _ h => h) (Or.inl ⟨by rfl, ?_⟩) (by assumption) ?_
          rotate_left
          focus (intro W hSw; (try dsimp only at hSw); go_simp; (try with_reducible rfl))
          (try simp only [Act.put, List.setIfInBounds_toArray, List.set_cons_zero, List.set_cons_succ, List.getElem_toArray, List.getElem_cons_succ, List.getElem_cons_zero])
          refine wpAnyH_take (i := 9) (oi := _) (v := ?_) rfl (by kernel_rfl) (by kernel_rfl) (by kernel_rfl) (fun _ _ _ h => h) (Or.inl ⟨by rfl, ?_⟩) (by assumption) ?_
          rotate_left
          focus (intro W hSw; (try dsimp only at hSw); go_simp; (try with_reducible rfl))
          (try simp only [Act.put, List.setIfInBounds_toArray, List.set_cons_zero, List.set_cons_succ, List.getElem_toArray, List.getElem_cons_succ, List.getElem_cons_zero])
          refine wpAnyH_take (i := 10) (oi := _) (v := ?_) rfl (by kernel_rfl) (by kernel_rfl) (by kernel_rfl) (fun _ _ _ h => h) (Or.inl ⟨by rfl, ?_⟩) (by assumption) ?_
          rotate_left
          focus (intro W hSw; (try dsimp only at hSw); go_simp; (try with_reducible rfl))
          (try simp only [Act.put, List.setIfInBounds_toArray, List.set_cons_zero, List.set_cons_succ, List.getElem_toArray, List.getElem_cons_succ, List.getElem_cons_zero])
          refine wpAnyH_ready (rs := [0, 6]) (by kernel_rfl) (by simp) ?_
          refine AllReadyH.cons rfl (fun K hK => ?_) ?_
          · skip
            go_simp
            refine hK.out _ _ trivial (fun _ => ?_)
            clear hK K
            (try simp only [Act.put, List.setIfInBounds_toArray, List.set_cons_zero, List.set_cons_succ, List.getElem_toArray, List.getElem_cons_succ, List.getElem_cons_zero])
            obtain ⟨V1, eV⟩ : ∃ v, v = U0.alloc (.cells #[] 3) := ⟨_, rfl⟩
            obtain ⟨n1, en⟩ : ∃ v, v = U0.heap.size := ⟨_, rfl⟩
            have bV1 : Below w.heap.size w V1 := (by rw [eV]; exact bU0.alloc bU0.size _)
            have cV1 : Below U0.heap.size U0 V1 := (by rw [eV]; exact cU0.alloc cU0.size _)
            have oV1 : V1.ownsRow n1 3 1 (.slice (some ⟨n1, 0, none⟩) 0 0) 0 [] := (by rw [eV, en]; exact own_emptyIn _ _)
            have l1 : U0.heap.size ≤ n1 := (by rw [en]; exact cU0.size)
            have u1 : n1 < V1.heap.size := (by rw [eV, en]; simp)
            rw [← eV, ← en]
            clear eV en
            refine wpAnyH_ready (rs := [4, 6]) (by kernel_rfl) (by simp) ?_
            refine AllReadyH.cons rfl (fun K hK => ?_) ?_
            · skip
              refine wp_append_own _ (.tmp 20) (.tmp 23) 45 rfl U0.heap.size 3 i0 (.int .i64 0) 1 8 Tryz.underlying45 Hi.out Hz0.out Hz1.out Hz2.out rfl (by decide) (.slice (some ⟨n1, 0, none⟩) 0 0) 0 [] rfl (owns_base oV1 l1) ⟨g, 0, none⟩ k co (rowC ic (LL.take k)) rfl (by rw [rowC_length ic_len, TKL.out]) (fun j' u hj' => (by rw [Addr.add_mid, Nat.zero_add, cV1.cell (p := ⟨g, j', none⟩) gU, blk_cell kg]; exact irow_head HCT.out TD.out hj')) (rowIn_one_cell _) (by unfold maxLen; omega) (by omega) cV1.size ?_
              intro v2 V2 ho hg5 _
              have bV2 : Below w.heap.size w V2 := bV1.grown hg5 bV1.size (fun k e => by have h9 := (oV1.lt k e).1; omega)
              have cV2 : Below U0.heap.size U0 V2 := cV1.grown hg5 cV1.size (fun k e => by have h9 := (oV1.lt k e).1; omega)
              have OV2 : V2.ownsRow U0.heap.size 3 1 v2 (LL.take k).length (rowC ic (LL.take k)) := (by have h9 := ho; rw [Nat.zero_add, List.nil_append] at h9; rw [TKL.out]; exact h9)
              refine hK.out _ _ trivial (fun _ => ?_)
              clear hK K
              (try simp only [Act.put, List.setIfInBounds_toArray, List.set_cons_zero, List.set_cons_succ, List.getElem_toArray, List.getElem_cons_succ, List.getElem_cons_zero])
              clear ho hg5
              refine wpAnyH_ready (rs := [6]) (by kernel_rfl) (by simp) ?_
              refine AllReadyH.cons rfl (fun K hK => ?_) AllReadyH.nil
              go_simp
              refine hK.out _ _ trivial (fun _ => ?_)
              clear hK K
              (try simp only [Act.put, List.setIfInBounds_toArray, List.set_cons_zero, List.set_cons_succ, List.getElem_toArray, List.getElem_cons_succ, List.getElem_cons_zero])
              obtain ⟨V3, eV⟩ : ∃ v, v = V2.alloc (.cells #[.int .i64 n] 3) := ⟨_, rfl⟩
              obtain ⟨n3, en⟩ : ∃ v, v = V2.heap.size := ⟨_, rfl⟩
              have bV3 : Below w.heap.size w V3 := (by rw [eV]; exact bV2.alloc bV2.size _)
              have cV3 : Below U0.heap.size U0 V3 := (by rw [eV]; exact cV2.alloc cV2.size _)
              have z3 : blk V3 n3 = some (ic n).toArray := (by rw [eV, en]; exact blk_alloc_new _ _ _ rfl)
              have l3 : U0.heap.size ≤ n3 := (by rw [en]; exact cV2.size)
              have u3 : n3 < V3.heap.size := (by rw [eV, en]; simp)
              have OV3 : V3.ownsRow U0.heap.size 3 1 _ (LL.take k).length (rowC ic (LL.take k)) := (by rw [eV]; exact OV2.alloc _)
              rw [← eV, ← en]
              clear eV en
              refine wpAnyH_ready (rs := [7]) (by kernel_rfl) (by simp) ?_
              refine AllReadyH.cons rfl (fun K hK => ?_) AllReadyH.nil
              refine wp_append_own _ (.tmp 24) (.tmp 26) 45 rfl U0.heap.size 3 i0 (.int .i64 0) 1 8 Tryz.underlying45 Hi.out Hz0.out Hz1.out Hz2.out rfl (by decide) _ (LL.take k).length (rowC ic (LL.take k)) rfl OV3 ⟨n3, 0, none⟩ 1 1 (ic n) rfl rfl (fun j' u hj' => (by rw [Addr.add_mid, Nat.zero_add, blk_cell z3]; simpa using hj')) (ic_one _) (by rw [TKL.out]; unfold maxLen; omega) (by rw [TKL.out]; omega) cV3.size ?_
              intro v4 V4 ho hg5 _
              have bV4 : Below w.heap.size w V4 := bV3.grown hg5 bV3.size (fun k e => by have h9 := (OV3.lt k e).1; omega)
              have cV4 : Below U0.heap.size U0 V4 := cV3.grown hg5 cV3.size (fun k e => (OV3.lt k e).1)
              refine hK.out _ _ trivial (fun _ => ?_)
              clear hK K
              (try simp only [Act.put, List.setIfInBounds_toArray, List.set_cons_zero, List.set_cons_succ, List.getElem_toArray, List.getElem_cons_succ, List.getElem_cons_zero])
              clear hg5
              refine wpAnyH_ready (rs := [11]) (by kernel_rfl) (by simp) ?_
              refine AllReadyH.cons rfl (fun K hK => ?_) AllReadyH.nil
              refine wp_append_own _ (.tmp 27) (.tmp 30) 45 rfl U0.heap.size 3 i0 (.int .i64 0) 1 8 Tryz.underlying45 Hi.out Hz0.out Hz1.out Hz2.out rfl (by decide) v4 ((LL.take k).length + 1) (rowC ic (LL.take k) ++ ic n) rfl ho ⟨g, k, none⟩ (LL.length - k) (co - k) (rowC ic (LL.drop k)) rfl (by rw [rowC_length ic_len, LD.out]) (fun j' u hj' => (by rw [Addr.add_mid, cV4.cell (p := ⟨g, k + j', none⟩) gU, blk_cell kg]; have h9 := irow_tail HCT.out TD.out hj'; rw [TKL.out] at h9; exact h9)) (rowIn_one_cell _) (by rw [TKL.out]; unfold maxLen; omega) (by rw [TKL.out]; omega) cV4.size ?_
              intro v5 V5 ho2 hg6 _
              have bV5 : Below w.heap.size w V5 := bV4.grown hg6 bV4.size (fun k e => by have h9 := (ho.lt k e).1; omega)
              refine hK.out _ _ trivial (fun _ => ?_)
              clear hK K
              (try simp only [Act.put, List.setIfInBounds_toArray, List.set_cons_zero, List.set_cons_succ, List.getElem_toArray, List.getElem_cons_succ, List.getElem_cons_zero])
              refine wpAnyH_take (i := 12) (oi := _) (v := ?_) rfl (by kernel_rfl) (by kernel_rfl) (by kernel_rfl) (fun _ _ _ h => h) (Or.inl ⟨by rfl, ?_⟩) (by assumption) ?_
              rotate_left
              focus (intro W hSw; (try dsimp only at hSw); go_simp; (try with_reducible rfl))
              (try simp only [Act.put, List.setIfInBounds_toArray, List.set_cons_zero, List.set_cons_succ, List.getElem_toArray, List.getElem_cons_succ, List.getElem_cons_zero])
              refine wpAnyH_done (by kernel_rfl) ?_ _
              have hN : Hid (V5.ownsRow w.heap.size 3 1 v5 (ascO (M ++ [n])).length (rowC ic (ascO (M ++ [n])))) := Lib.hid (by
                have h9 := owns_base ho2 (show w.heap.size ≤ U0.heap.size from sU)
                rw [← NEXT.out, show LL.take k ++ n :: LL.drop k = LL.take k ++ [n] ++ LL.drop k by simp, rowC_append, rowC_append, rowC_one, List.length_append, List.length_append, List.length_singleton, LD.out]
                exact h9)
              have bN := bV5
              clear ho ho2 hg6
              go_wp2
              go_ret
              exact ⟨_, rfl, hN.out, bN⟩
            refine AllReadyH.cons rfl (fun K hK => ?_) AllReadyH.nil
            go_simp
            refine hK.out _ _ trivial (fun _ => ?_)
            clear hK K
            (try simp only [Act.put, List.setIfInBounds_toArray, List.set_cons_zero, List.set_cons_succ, List.getElem_toArray, List.getElem_cons_succ, List.getElem_cons_zero])
            obtain ⟨V6, eV⟩ : ∃ v, v = V1.alloc (.cells #[.int .i64 n] 3) := ⟨_, rfl⟩
            obtain ⟨n6, en⟩ : ∃ v, v = V1.heap.size := ⟨_, rfl⟩
            have bV6 : Below w.heap.size w V6 := (by rw [eV]; exact bV1.alloc bV1.size _)
            have cV6 : Below U0.heap.size U0 V6 := (by rw [eV]; exact cV1.alloc cV1.size _)
            have z6 : blk V6 n6 = some (ic n).toArray := (by rw [eV, en]; exact blk_alloc_new _ _ _ rfl)
            have l6 : U0.heap.size ≤ n6 := (by rw [en]; exact cV1.size)
            have u6 : n6 < V6.heap.size := (by rw [eV, en]; simp)
            have oV6 : V6.ownsRow n1 3 1 (.slice (some ⟨n1, 0, none⟩) 0 0) 0 [] := (by rw [eV]; exact oV1.alloc _)
            have nz : n6 ≠ n1 := (by rw [en]; omega)
            rw [← eV, ← en]
            clear eV en
            refine wpAnyH_ready (rs := [4]) (by kernel_rfl) (by simp) ?_
            refine AllReadyH.cons rfl (fun K hK => ?_) AllReadyH.nil
            refine wp_append_own _ (.tmp 20) (.tmp 23) 45 rfl U0.heap.size 3 i0 (.int .i64 0) 1 8 Tryz.underlying45 Hi.out Hz0.out Hz1.out Hz2.out rfl (by decide) (.slice (some ⟨n1, 0, none⟩) 0 0) 0 [] rfl (owns_base oV6 l1) ⟨g, 0, none⟩ k co (rowC ic (LL.take k)) rfl (by rw [rowC_length ic_len, TKL.out]) (fun j' u hj' => (by rw [Addr.add_mid, Nat.zero_add, cV6.cell (p := ⟨g, j', none⟩) gU, blk_cell kg]; exact irow_head HCT.out TD.out hj')) (rowIn_one_cell _) (by unfold maxLen; omega) (by omega) cV6.size ?_
            intro v7 V7 ho hg5 _
            have bV7 : Below w.heap.size w V7 := bV6.grown hg5 bV6.size (fun k e => by have h9 := (oV6.lt k e).1; omega)
            have cV7 : Below U0.heap.size U0 V7 := cV6.grown hg5 cV6.size (fun k e => by have h9 := (oV6.lt k e).1; omega)
            have OV7 : V7.ownsRow U0.heap.size 3 1 v7 (LL.take k).length (rowC ic (LL.take k)) := (by have h9 := ho; rw [Nat.zero_add, List.nil_append] at h9; rw [TKL.out]; exact h9)
            replace z6 := (blk_kept (hg5.block n6 u6 (fun e => by simp [Value.ownBlock] at e; omega))).trans z6
            replace u6 := Nat.lt_of_lt_of_le u6 hg5.size
            refine hK.out _ _ trivial (fun _ => ?_)
            clear hK K
            (try simp only [Act.put, List.setIfInBounds_toArray, List.set_cons_zero, List.set_cons_succ, List.getElem_toArray, List.getElem_cons_succ, List.getElem_cons_zero])
            clear ho hg5
            refine wpAnyH_ready (rs := [7]) (by kernel_rfl) (by simp) ?_
            refine AllReadyH.cons rfl (fun K hK => ?_) AllReadyH.nil
            refine wp_append_own _ (.tmp 24) (.tmp 26) 45 rfl U0.heap.size 3 i0 (.int .i64 0) 1 8 Tryz.underlying45 Hi.out Hz0.out Hz1.out Hz2.out rfl (by decide) _ (LL.take k).length (rowC ic (LL.take k)) rfl OV7 ⟨n6, 0, none⟩ 1 1 (ic n) rfl rfl (fun j' u hj' => (by rw [Addr.add_mid, Nat.zero_add, blk_cell z6]; simpa using hj')) (ic_one _) (by rw [TKL.out]; unfold maxLen; omega) (by rw [TKL.out]; omega) cV7.size ?_
            intro v8 V8 ho hg5 _
            have bV8 : Below w.heap.size w V8 := bV7.grown hg5 bV7.size (fun k e => by have h9 := (OV7.lt k e).1; omega)
            have cV8 : Below U0.heap.size U0 V8 := cV7.grown hg5 cV7.size (fun k e => (OV7.lt k e).1)
            refine hK.out _ _ trivial (fun _ => ?_)
            clear hK K
            (try simp only [Act.put, List.setIfInBounds_toArray, List.set_cons_zero, List.set_cons_succ, List.getElem_toArray, List.getElem_cons_succ, List.getElem_cons_zero])
            clear hg5
            refine wpAnyH_ready (rs := [11]) (by kernel_rfl) (by simp) ?_
            refine AllReadyH.cons rfl (fun K hK => ?_) AllReadyH.nil
            refine wp_append_own _ (.tmp 27) (.tmp 30) 45 rfl U0.heap.size 3 i0 (.int .i64 0) 1 8 Tryz.underlying45 Hi.out Hz0.out Hz1.out Hz2.out rfl (by decide) v8 ((LL.take k).length + 1) (rowC ic (LL.take k) ++ ic n) rfl ho ⟨g, k, none⟩ (LL.length - k) (co - k) (rowC ic (LL.drop k)) rfl (by rw [rowC_length ic_len, LD.out]) (fun j' u hj' => (by rw [Addr.add_mid, cV8.cell (p := ⟨g, k + j', none⟩) gU, blk_cell kg]; have h9 := irow_tail HCT.out TD.out hj'; rw [TKL.out] at h9; exact h9)) (rowIn_one_cell _) (by rw [TKL.out]; unfold maxLen; omega) (by rw [TKL.out]; omega) cV8.size ?_
            intro v9 V9 ho2 hg6 _
            have bV9 : Below w.heap.size w V9 := bV8.grown hg6 bV8.size (fun k e => by have h9 := (ho.lt k e).1; omega)
            refine hK.out _ _ trivial (fun _ => ?_)
            clear hK K
            (try simp only [Act.put, List.setIfInBounds_toArray, List.set_cons_zero, List.set_cons_succ, List.getElem_toArray, List.getElem_cons_succ, List.getElem_cons_zero])
            refine wpAnyH_take (i := 12) (oi := _) (v := ?_) rfl (by kernel_rfl) (by kernel_rfl) (by kernel_rfl) (fun _ _ _ h => h) (Or.inl ⟨by rfl, ?_⟩) (by assumption) ?_
            rotate_left
            focus (intro W hSw; (try dsimp only at hSw); go_simp; (try with_reducible rfl))
            (try simp only [Act.put, List.setIfInBounds_toArray, List.set_cons_zero, List.set_cons_succ, List.getElem_toArray, List.getElem_cons_succ, List.getElem_cons_zero])
            refine wpAnyH_done (by kernel_rfl) ?_ _
            have hN : Hid (V9.ownsRow w.heap.size 3 1 v9 (ascO (M ++ [n])).length (rowC ic (ascO (M ++ [n])))) := Lib.hid (by
              have h9 := owns_base ho2 (show w.heap.size ≤ U0.heap.size from sU)
              rw [← NEXT.out, show LL.take k ++ n :: LL.drop k = LL.take k ++ [n] ++ LL.drop k by simp, rowC_append, rowC_append, rowC_one, List.length_append, List.length_append, List.length_singleton, LD.out]
              exact h9)
            have bN := bV9
            clear ho ho2 hg6
            go_wp2
            go_ret
            exact ⟨_, rfl, hN.out, bN⟩
          refine AllReadyH.cons rfl (fun K hK => ?_) AllReadyH.nil
          go_simp
          refine hK.out _ _ trivial (fun _ => ?_)
          clear hK K
          (try simp only [Act.put, List.setIfInBounds_toArray, List.set_cons_zero, List.set_cons_succ, List.getElem_toArray, List.getElem_cons_succ, List.getElem_cons_zero])
          obtain ⟨V10, eV⟩ : ∃ v, v = U0.alloc (.cells #[.int .i64 n] 3) := ⟨_, rfl⟩
          obtain ⟨n10, en⟩ : ∃ v, v = U0.heap.size := ⟨_, rfl⟩
          have bV10 : Below w.heap.size w V10 := (by rw [eV]; exact bU0.alloc bU0.size _)
          have cV10 : Below U0.heap.size U0 V10 := (by rw [eV]; exact cU0.alloc cU0.size _)
          have z10 : blk V10 n10 = some (ic n).toArray := (by rw [eV, en]; exact blk_alloc_new _ _ _ rfl)
          have l10 : U0.heap.size ≤ n10 := (by rw [en]; exact cU0.size)
          have u10 : n10 < V10.heap.size := (by rw [eV, en]; simp)
          rw [← eV, ← en]
          clear eV en
          refine wpAnyH_ready (rs := [0]) (by kernel_rfl) (by simp) ?_
          refine AllReadyH.cons rfl (fun K hK => ?_) AllReadyH.nil
          go_simp
          refine hK.out _ _ trivial (fun _ => ?_)
          clear hK K
          (try simp only [Act.put, List.setIfInBounds_toArray, List.set_cons_zero, List.set_cons_succ, List.getElem_toArray, List.getElem_cons_succ, List.getElem_cons_zero])
          obtain ⟨V11, eV⟩ : ∃ v, v = V10.alloc (.cells #[] 3) := ⟨_, rfl⟩
          obtain ⟨n11, en⟩ : ∃ v, v = V10.heap.size := ⟨_, rfl⟩
          have bV11 : Below w.heap.size w V11 := (by rw [eV]; exact bV10.alloc bV10.size _)
          have cV11 : Below U0.heap.size U0 V11 := (by rw [eV]; exact cV10.alloc cV10.size _)
          have oV11 : V11.ownsRow n11 3 1 (.slice (some ⟨n11, 0, none⟩) 0 0) 0 [] := (by rw [eV, en]; exact own_emptyIn _ _)
          have l11 : U0.heap.size ≤ n11 := (by rw [en]; exact cV10.size)
          have u11 : n11 < V11.heap.size := (by rw [eV, en]; simp)
          have nz : n10 ≠ n11 := (by rw [en]; omega)
          replace z10 := (by rw [eV]; exact blk_alloc z10 _ : blk V11 n10 = some (ic n).toArray)
          replace u10 : n10 < V11.heap.size := (by rw [eV]; simp; omega)
          rw [← eV, ← en]
          clear eV en
          refine wpAnyH_ready (rs := [4]) (by kernel_rfl) (by simp) ?_
          refine AllReadyH.cons rfl (fun K hK => ?_) AllReadyH.nil
          refine wp_append_own _ (.tmp 20) (.tmp 23) 45 rfl U0.heap.size 3 i0 (.int .i64 0) 1 8 Tryz.underlying45 Hi.out Hz0.out Hz1.out Hz2.out rfl (by decide) (.slice (some ⟨n11, 0, none⟩) 0 0) 0 [] rfl (owns_base oV11 l11) ⟨g, 0, none⟩ k co (rowC ic (LL.take k)) rfl (by rw [rowC_length ic_len, TKL.out]) (fun j' u hj' => (by rw [Addr.add_mid, Nat.zero_add, cV11.cell (p := ⟨g, j', none⟩) gU, blk_cell kg]; exact irow_head HCT.out TD.out hj')) (rowIn_one_cell _) (by unfold maxLen; omega) (by omega) cV11.size ?_
          intro v12 V12 ho hg5 _
          have bV12 : Below w.heap.size w V12 := bV11.grown hg5 bV11.size (fun k e => by have h9 := (oV11.lt k e).1; omega)
          have cV12 : Below U0.heap.size U0 V12 := cV11.grown hg5 cV11.size (fun k e => by have h9 := (oV11.lt k e).1; omega)
          have OV12 : V12.ownsRow U0.heap.size 3 1 v12 (LL.take k).length (rowC ic (LL.take k)) := (by have h9 := ho; rw [Nat.zero_add, List.nil_append] at h9; rw [TKL.out]; exact h9)
          replace z10 := (blk_kept (hg5.block n10 u10 (fun e => by simp [Value.ownBlock] at e; omega))).trans z10
          replace u10 := Nat.lt_of_lt_of_le u10 hg5.size
          refine hK.out _ _ trivial (fun _ => ?_)
          clear hK K
          (try simp only [Act.put, List.setIfInBounds_toArray, List.set_cons_zero, List.set_cons_succ, List.getElem_toArray, List.getElem_cons_succ, List.getElem_cons_zero])
          clear ho hg5
          refine wpAnyH_ready (rs := [7]) (by kernel_rfl) (by simp) ?_
          refine AllReadyH.cons rfl (fun K hK => ?_) AllReadyH.nil
          refine wp_append_own _ (.tmp 24) (.tmp 26) 45 rfl U0.heap.size 3 i0 (.int .i64 0) 1 8 Tryz.underlying45 Hi.out Hz0.out Hz1.out Hz2.out rfl (by decide) _ (LL.take k).length (rowC ic (LL.take k)) rfl OV12 ⟨n10, 0, none⟩ 1 1 (ic n) rfl rfl (fun j' u hj' => (by rw [Addr.add_mid, Nat.zero_add, blk_cell z10]; simpa using hj')) (ic_one _) (by rw [TKL.out]; unfold maxLen; omega) (by rw [TKL.out]; omega) cV12.size ?_
          intro v13 V13 ho hg5 _
          have bV13 : Below w.heap.size w V13 := bV12.grown hg5 bV12.size (fun k e => by have h9 := (OV12.lt k e).1; omega)
          have cV13 : Below U0.heap.size U0 V13 := cV12.grown hg5 cV12.size (fun k e => (OV12.lt k e).1)
          refine hK.out _ _ trivial (fun _ => ?_)
          clear hK K
          (try simp only [Act.put, List.setIfInBounds_toArray, List.set_cons_zero, List.set_cons_succ, List.getElem_toArray, List.getElem_cons_succ, List.getElem_cons_zero])
          clear hg5
          refine wpAnyH_ready (rs := [11]) (by kernel_rfl) (by simp) ?_
          refine AllReadyH.cons rfl (fun K hK => ?_) AllReadyH.nil
          refine wp_append_own _ (.tmp 27) (.tmp 30) 45 rfl U0.heap.size 3 i0 (.int .i64 0) 1 8 Tryz.underlying45 Hi.out Hz0.out Hz1.out Hz2.out rfl (by decide) v13 ((LL.take k).length + 1) (rowC ic (LL.take k) ++ ic n) rfl ho ⟨g, k, none⟩ (LL.length - k) (co - k) (rowC ic (LL.drop k)) rfl (by rw [rowC_length ic_len, LD.out]) (fun j' u hj' => (by rw [Addr.add_mid, cV13.cell (p := ⟨g, k + j', none⟩) gU, blk_cell kg]; have h9 := irow_tail HCT.out TD.out hj'; rw [TKL.out] at h9; exact h9)) (rowIn_one_cell _) (by rw [TKL.out]; unfold maxLen; omega) (by rw [TKL.out]; omega) cV13.size ?_
          intro v14 V14 ho2 hg6 _
          have bV14 : Below w.heap.size w V14 := bV13.grown hg6 bV13.size (fun k e => by have h9 := (ho.lt k e).1; omega)
          refine hK.out _ _ trivial (fun _ => ?_)
          clear hK K
          (try simp only [Act.put, List.setIfInBounds_toArray, List.set_cons_zero, List.set_cons_succ, List.getElem_toArray, List.getElem_cons_succ, List.getElem_cons_zero])
          refine wpAnyH_take (i := 12) (oi := _) (v := ?_) rfl (by kernel_rfl) (by kernel_rfl) (by kernel_rfl) (fun _ _ _ h => h) (Or.inl ⟨by rfl, ?_⟩) (by assumption) ?_
          rotate_left
          focus (intro W hSw; (try dsimp only at hSw); go_simp; (try with_reducible rfl))
          (try simp only [Act.put, List.setIfInBounds_toArray, List.set_cons_zero, List.set_cons_succ, List.getElem_toArray, List.getElem_cons_succ, List.getElem_cons_zero])
          refine wpAnyH_done (by kernel_rfl) ?_ _
          have hN : Hid (V14.ownsRow w.heap.size 3 1 v14 (ascO (M ++ [n])).length (rowC ic (ascO (M ++ [n])))) := Lib.hid (by
            have h9 := owns_base ho2 (show w.heap.size ≤ U0.heap.size from sU)
            rw [← NEXT.out, show LL.take k ++ n :: LL.drop k = LL.take k ++ [n] ++ LL.drop k by simp, rowC_append, rowC_append, rowC_one, List.length_append, List.length_append, List.length_singleton, LD.out]
            exact h9)
          have bN := bV14
          clear ho ho2 hg6
          go_wp2
          go_ret
          exact ⟨_, rfl, hN.out, bN⟩
end Go.Proofs.YthfmkkkdjgkaoaaGreatDoor
namespace Go.Proofs.YthfmkkkdjgkaoaaGreatDoor
open Go.RowKit
def eqO (x y : Oc) : Bool := decide (x.ti = y.ti ∧ x.no = y.no ∧ x.ki = y.ki ∧ x.ino = y.ino ∧ x.isq = y.isq ∧ x.iof = y.iof ∧ x.ot = y.ot)
theorem eqO_iff (x y : Oc) : eqO x y = true ↔ x = y := by
  constructor
  · intro h
    obtain ⟨a1, a2, a3, a4, a5, a6, a7⟩ := x
    obtain ⟨b1, b2, b3, b4, b5, b6, b7⟩ := y
    simp only [eqO, decide_eq_true_eq] at h
    obtain ⟨rfl, rfl, rfl, rfl, rfl, rfl, rfl⟩ := h
    rfl
  · rintro rfl; simp [eqO]
set_option maxHeartbeats 1600000 in
theorem run_ocNe (x y : Oc) (w : World) : Sem.run Tryz.prog (binOp BinOp.neq 56 (.agg (oc x).toArray) (.agg (oc y).toArray)) w = .ok (.bool (!eqO x y)) w := by
  obtain ⟨a1, a2, a3, a4, a5, a6, a7⟩ := x
  obtain ⟨b1, b2, b3, b4, b5, b6, b7⟩ := y
  simp only [eqO, oc]
  go_simp
  refine (Decidable.em (a1 = b1)).elim (fun h => ?_) (fun h => by simp [h])
  subst h
  refine (Decidable.em (a2 = b2)).elim (fun h => ?_) (fun h => by simp [h])
  subst h
  refine (Decidable.em (a3 = b3)).elim (fun h => ?_) (fun h => by simp [h])
  subst h
  refine (Decidable.em (a4 = b4)).elim (fun h => ?_) (fun h => by simp [h])
  subst h
  refine (Decidable.em (a5 = b5)).elim (fun h => ?_) (fun h => by simp [h])
  subst h
  refine (Decidable.em (a6 = b6)).elim (fun h => ?_) (fun h => by simp [h])
  subst h
  by_cases h7 : a7 = b7
  · simp [h7]
  · simp [h7]
set_option maxRecDepth 100000 in
set_option maxHeartbeats 1600000 in
theorem unch_any (a1 a2 : Option Addr) (c1 c2 : Nat) (l m : List Oc) (hl : l.length ≤ 100000) (hm : m.length ≤ 100000) (w : World) (h1 : SRow oc 7 w a1 c1 l) (h2 : SRow oc 7 w a2 c2 m) :
    Calls Tryz.prog 19 #[.slice a1 l.length c1, .slice a2 m.length c2] w fun e w' => e = .returned (.bool (sameG eqO l m)) ∧ Below w.heap.size w w' := by
  have H1 := Lib.hid h1; have H2 := Lib.hid h2; clear h1 h2
  by_cases hlen : l.length = m.length
  · have q1 : ((l.length : Int) != (m.length : Int)) = false := by simp [hlen]
    have HL := Lib.hid hlen
    clear hlen
    go_enter Tryz.func19, Tryz.ntmps19
    go_wp2
    go_loopw [5] (fun i wr => ∃ k : Nat, i = .int .i64 k ∧ k ≤ l.length ∧ Hid (l.take k = m.take k) ∧ Below w.heap.size w wr) (fun i _ => l.length - (intOf i).toNat)
    case atStart => exact ⟨0, rfl, Nat.zero_le _, Lib.hid rfl, Below.refl _ _⟩
    case round =>
      obtain ⟨k, rfl, hk, hE0, hB⟩ := hrel
      by_cases hlt : k < l.length
      · have hlm : k < m.length := by have := HL.out; omega
        have i1 : (k : Int) < (l.length : Int) := by omega
        have i2 : (k : Int) < (m.length : Int) := by omega
        obtain ⟨b1, o1, rfl, g1, r1⟩ := (H1.out.below hB).2.2.2 (by omega)
        obtain ⟨b2, o2, rfl, g2, r2⟩ := (H2.out.below hB).2.2.2 (by omega)
        obtain ⟨x, hx⟩ : ∃ x, x = l[k] := ⟨_, rfl⟩
        obtain ⟨y, hy⟩ : ∃ x, x = m[k] := ⟨_, rfl⟩
        have R1 := r1 k hlt
        have R2 := r2 k hlm
        rw [← hx] at R1
        rw [← hy] at R2
        clear r1 r2
        have E := fun W => run_ocNe x y W
        obtain ⟨q, hq⟩ : ∃ q, eqO x y = q := ⟨_, rfl⟩
        rw [hq] at E
        have HX := Lib.hid hx; have HY := Lib.hid hy; have HQ := Lib.hid hq
        clear hx hy hq
        go_wp2_with fail
        refine wp_region_in (by kernel_rfl) (by kernel_rfl) ?_
        intro W0 hE hN
        have r1 : W0.rangeAt b1 (o1 + k * 7) (oc x) := (by rw [hE.out]; exact R1)
        have r2 : W0.rangeAt b2 (o2 + k * 7) (oc y) := (by rw [hE.out]; exact R2)
        have g1' : b1 < W0.heap.size := (by rw [hE.out]; exact g1)
        have g2' : b2 < W0.heap.size := (by rw [hE.out]; exact g2)
        have hB' : Below w.heap.size w W0 := (by rw [hE.out]; exact hB)
        clear hE R1 R2 g1 g2 hB
        refine wpQuiet_split 3 ?_
        simp only [List.take_succ_cons, List.take_zero, List.drop_succ_cons, List.drop_zero]
        repeat (go_big_quiet_step (fail))
        refine wpQuiet_nil ?_
        refine wpQuiet_load_range 56 (.tmp 19) b1 (o1 + k * 7) (oc x) (fun W hW => by obtain ⟨x', rfl⟩ := hW; exact range_below g1' r1 x'.ok) _ (by kernel_rfl) rfl (by kernel_rfl) Tryz.underlying56 rfl (by kernel_rfl) ?_
        conv => arg 6; simp [Act.put]
        refine wpQuiet_split 3 ?_
        simp only [List.take_succ_cons, List.take_zero, List.drop_succ_cons, List.drop_zero]
        repeat (go_big_quiet_step (fail))
        refine wpQuiet_nil ?_
        refine wpQuiet_load_range 56 (.tmp 23) b2 (o2 + k * 7) (oc y) (fun W hW => by obtain ⟨x', rfl⟩ := hW; exact range_below g2' r2 x'.ok) _ (by kernel_rfl) rfl (by kernel_rfl) Tryz.underlying56 rfl (by kernel_rfl) ?_
        conv => arg 6; simp [Act.put]
        repeat (go_big_quiet_step (fail))
        refine wpQuiet_nil ?_
        rintro _ ⟨x', rfl⟩
        have hB2 := bt hB' x'.ok
        obtain ⟨u, hu⟩ : ∃ u, u = x'.wd := ⟨_, rfl⟩
        rw [← hu] at hB2 ⊢
        clear hu x' hN r1 r2 g1' g2' hB' E
        cases q
        · go_wp2
          go_ret
          refine ⟨?_, hB2⟩
          rw [sameG_no eqO_iff (fun e => by subst e; have h3 := HQ.out; rw [HX.out, HY.out] at h3; exact absurd ((eqO_iff _ _).2 rfl) (by rw [h3]; decide))]
          rfl
        · go_wp2
          go_roundw
          case rel => exact ⟨k + 1, by go_num, by omega, Lib.hid (takeG_succ hlt hlm hE0.out (by rw [← HX.out, ← HY.out]; exact (eqO_iff _ _).1 HQ.out)), hB2⟩
          case measure => simp [intOf]; omega
      · obtain rfl : k = l.length := by omega
        have e : l = m := by
          have := hE0.out
          rwa [List.take_length, HL.out, List.take_length] at this
        have hs : sameG eqO l m = true := (sameG_iff eqO_iff l m).2 e
        have HS := Lib.hid hs
        clear hs e
        go_wp2
        go_ret
        exact ⟨by rw [HS.out]; rfl, hB⟩
  · have q1 : ((l.length : Int) != (m.length : Int)) = true := by simp; omega
    rw [sameG_no eqO_iff (fun e => hlen (by rw [e]))]
    clear hlen
    go_enter Tryz.func19, Tryz.ntmps19
    go_wp2
    go_ret
    exact ⟨rfl, Below.refl _ _⟩
end Go.Proofs.YthfmkkkdjgkaoaaGreatDoor
namespace Go.Proofs.YthfmkkkdjgkaoaaGreatDoor
open Go.RowKit
def LightR (b : List Bn) (l : List Oc) (w : World) (e : Ending) (w' : World) : Prop := ∃ p, e = .returned (.bool p) ∧ (p = true → b.length ≤ 1010 ∧ l.length ≤ 60) ∧ Below w.heap.size w w'
set_option maxRecDepth 100000 in
set_option maxHeartbeats 1600000 in
theorem light_any (ab al : Option Addr) (cb cl : Nat) (b : List Bn) (l : List Oc) (w : World) (hb : SRow bn 9 w ab cb b) (hl : SRow oc 7 w al cl l) :
    Calls Tryz.prog 5 #[.slice ab b.length cb, .slice al l.length cl] w (LightR b l w) := by
  have HR := Lib.hid hb
  have hcap := hb.1; have hmax := hb.2.1
  unfold maxLen at hmax
  clear hb hl
  go_enter Tryz.func5, Tryz.ntmps5
  go_wp2
  go_loopw [5] (fun i wr => ∃ j : Nat, i = .int .i64 j ∧ j ≤ b.length ∧ j ≤ 31 ∧ Below w.heap.size w wr) (fun i _ => b.length - (intOf i).toNat)
  case atStart => exact ⟨0, rfl, Nat.zero_le _, by omega, Below.refl _ _⟩
  case round =>
    obtain ⟨j, rfl, hj, hj31, hB⟩ := hrel
    have hun : undef = Value.tuple #[] := rfl
    by_cases hgo : j < b.length ∧ j < 31
    · have i1 : (j : Int) < (b.length : Int) := by omega
      have i2 : (j : Int) < 31 := by omega
      obtain ⟨g, off, hab, hgl, hcs⟩ := (HR.out.below hB).2.2.2 (by omega)
      subst hab
      obtain ⟨x, hx⟩ : ∃ x, x = b[j] := ⟨_, rfl⟩
      have hr := hcs j hgo.1
      rw [← hx] at hr
      have c8 : wr.cell? ⟨g, off + j * 9 + 8, none⟩ = some (.string x.da) := hr 8 _ rfl
      by_cases hd : (1100 : Int) < x.da.size
      · have t1 : decide ((1100 : Int) < (x.da.size : Int)) = true := decide_eq_true hd
        clear hr hcs hx hgo
        go_wp2
        go_ret
        exact ⟨false, rfl, (fun h => by cases h), hB⟩
      · have t1 : decide ((1100 : Int) < (x.da.size : Int)) = false := decide_eq_false hd
        have h1 := hgo.1; have h2 := hgo.2
        clear hr hcs hx hgo
        go_wp2
        (try simp only [← hun])
        clear hun
        go_roundw
        case rel => exact ⟨j + 1, by go_num, by omega, by omega, hB⟩
        case measure => simp [intOf]; omega
    · have hfin : ∀ p : Bool, p = ((decide ((b.length : Int) ≤ 30) || (decide ((1000 : Int) < b.length) && decide ((b.length : Int) ≤ 1010))) && decide ((l.length : Int) ≤ 60)) → p = true → b.length ≤ 1010 ∧ l.length ≤ 60 := by
        intro p hp h
        rw [hp] at h
        simp at h
        omega
      have HFIN := Lib.hid hfin
      clear hfin
      have k1 : ((j : Int) < (b.length : Int) ∧ ¬ (j : Int) < 31) ∨ ¬ (j : Int) < (b.length : Int) := by omega
      obtain ⟨p1, hp1⟩ : ∃ p, decide ((b.length : Int) ≤ 30) = p := ⟨_, rfl⟩
      obtain ⟨p2, hp2⟩ : ∃ p, decide ((1000 : Int) < (b.length : Int)) = p := ⟨_, rfl⟩
      obtain ⟨p3, hp3⟩ : ∃ p, decide ((b.length : Int) ≤ 1010) = p := ⟨_, rfl⟩
      obtain ⟨p4, hp4⟩ : ∃ p, decide ((l.length : Int) ≤ 60) = p := ⟨_, rfl⟩
      rw [hp1, hp2, hp3, hp4] at HFIN
      clear hgo
      rcases k1 with ⟨i1, i2⟩ | i1
      · cases p1 <;> cases p2 <;> cases p3 <;> cases p4 <;> (go_wp2; go_ret; exact ⟨_, rfl, HFIN.out _ rfl, hB⟩)
      · cases p1 <;> cases p2 <;> cases p3 <;> cases p4 <;> (go_wp2; go_ret; exact ⟨_, rfl, HFIN.out _ rfl, hB⟩)
end Go.Proofs.YthfmkkkdjgkaoaaGreatDoor
namespace Go.Proofs.YthfmkkkdjgkaoaaGreatDoor
open Go.RowKit
def txtR (b : List Bn) (l : List Oc) : List UInt8 := if (runC b l).1 = 0 then txtO b szB l else []
end Go.Proofs.YthfmkkkdjgkaoaaGreatDoor
namespace Go.Proofs.YthfmkkkdjgkaoaaGreatDoor
open Go.RowKit
theorem prioC_in {b : List Bn} {l : List Oc} {p : Int} (h : (runC b l).1 = 0) (h1 : -1 ≤ p) (h2 : p ≤ 2) : prioC b l p = 0 := by
  rcases prioC_cases b l p with ⟨h3, _⟩ | ⟨_, h4, _⟩ | ⟨_, _, h4, _⟩ | ⟨_, _, _, h4⟩
  · exact absurd h h3
  · omega
  · omega
  · exact h4
end Go.Proofs.YthfmkkkdjgkaoaaGreatDoor
