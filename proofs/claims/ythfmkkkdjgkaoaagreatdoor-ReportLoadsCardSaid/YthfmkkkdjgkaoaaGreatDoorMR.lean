/- Parts of a proof, printed by a program of mine out of my texts: RpSz, RpSame, RpHlp. -/
import Derived.Test.YthfmkkkdjgkaoaaGreatDoorMD
import Derived.Test.YthfmkkkdjgkaoaaGreatDoorME
import Derived.Test.YthfmkkkdjgkaoaaGreatDoorMH
import Derived.Test.YthfmkkkdjgkaoaaGreatDoorMK
import Derived.Test.YthfmkkkdjgkaoaaGreatDoorMM
import Derived.Test.YthfmkkkdjgkaoaaGreatDoorMU
set_option linter.unusedSimpArgs false
set_option linter.unusedVariables false
namespace Go.Proofs.YthfmkkkdjgkaoaaGreatDoor
open Go.RowKit
def szB (x : Bn) : Int := (sizeC x.no x.sq x.of x.de x.pr x.bo x.li x.to x.da.size).1
theorem szB_bd {x : Bn} (h : bcode x = 0) : 0 ≤ szB x ∧ szB x ≤ 1200 := by
  unfold szB sizeC
  unfold bcode at h
  rw [if_pos h]
  have hn : ¬ (1000 : Int) < x.da.size := fun hc => by
    unfold buC at h
    split at h
    · cases h
    · split at h
      · cases h
      · split at h
        · cases h
        · first | (rw [if_pos hc] at h; cases h; done) | (cases h; done)
  have h1 := frLen_le x.no.toNat x.sq.toNat x.of.toNat x.de.toNat x.pr.toNat x.bo.toNat x.li.toNat x.to.toNat (wholeB x.of x.to x.da.size)
  have h2 := putN_length x.da.size
  unfold szN
  simp only [Int.toNat_natCast]
  omega
def deO (b : List Bn) (k : Id3) : Int := (b.find? fun x => decide (bid x = k)).elim 0 (·.de)
def fS (b : List Bn) (k : Id3) : Value := .int .u64 (szO b szB k)
def fD (b : List Bn) (k : Id3) : Value := .int .i64 (deO b k)
def fH (h : List Id3) (k : Id3) : Value := .bool (decide (k ∈ h))
theorem find_none {b : List Bn} {k : Id3} (h : k ∉ b.map bid) : b.find? (fun y => decide (bid y = k)) = none := by
  rw [List.find?_eq_none]
  intro x hx e
  exact h (List.mem_map.2 ⟨x, hx, by simpa using e⟩)
theorem fS_none {b : List Bn} {k : Id3} (h : k ∉ b.map bid) : fS b k = .int .u64 0 := by unfold fS szO; rw [find_none h]; rfl
theorem fD_none {b : List Bn} {k : Id3} (h : k ∉ b.map bid) : fD b k = .int .i64 0 := by unfold fD deO; rw [find_none h]; rfl
theorem fS_at {b : List Bn} (hd : (b.map bid).Nodup) {x : Bn} (hx : x ∈ b) : fS b (bid x) = .int .u64 (szB x) := by unfold fS szO; rw [find_self hd hx]; rfl
theorem fD_at {b : List Bn} (hd : (b.map bid).Nodup) {x : Bn} (hx : x ∈ b) : fD b (bid x) = .int .i64 x.de := by unfold fD deO; rw [find_self hd hx]; rfl
theorem szO_bd {b : List Bn} (h : ∀ x ∈ b, bcode x = 0) (k : Id3) : 0 ≤ szO b szB k ∧ szO b szB k ≤ 1200 := by
  unfold szO
  cases e : b.find? fun x => decide (bid x = k) with
  | none => simp
  | some x => exact szB_bd (h x (List.mem_of_find?_eq_some e))
def BMap (w : World) (m : Nat) (b : List Bn) (f : Id3 → Value) : Prop := ∃ ks, ks.Nodup ∧ (∀ k, k ∈ b.map bid ↔ k ∈ ks) ∧ mapAt w m (mpf ks f)
theorem BMap.kept {w w' : World} {m : Nat} {b : List Bn} {f : Id3 → Value} (h : BMap w m b f) (hk : w'.heap[m]? = w.heap[m]?) : BMap w' m b f := by
  obtain ⟨ks, h1, h2, h3⟩ := h
  exact ⟨ks, h1, h2, h3.kept hk⟩
theorem BMap.lt {w : World} {m : Nat} {b : List Bn} {f : Id3 → Value} (h : BMap w m b f) : m < w.heap.size := by
  obtain ⟨ks, h1, h2, h3⟩ := h
  exact h3.lt
theorem BMap.below {w w' : World} {m : Nat} {b : List Bn} {f : Id3 → Value} (h : BMap w m b f) (hb : Below w.heap.size w w') : BMap w' m b f := h.kept (hb.block m h.lt)
theorem BMap.look {w : World} {m : Nat} {b : List Bn} {f : Id3 → Value} (h : BMap w m b f) {z : Value} (hz : ∀ k, k ∉ b.map bid → f k = z) : ∃ l, mapAt w m l ∧ ∀ k, getM l k z = f k := by
  obtain ⟨ks, h1, h2, h3⟩ := h
  refine ⟨_, h3, fun k => ?_⟩
  rw [getM_mpf]
  split
  · rfl
  · rename_i hk
    exact (hz k fun hm => hk ((h2 k).1 hm)).symm
theorem BMap.put {w : World} {m : Nat} {b : List Bn} {f : Id3 → Value} (h : BMap w m b f) : ∃ l, mapAt w m l ∧ ∀ (w' : World) (x : Bn), mapAt w' m (putM l (bid x) (f (bid x))) → BMap w' m (b ++ [x]) f := by
  obtain ⟨ks, h1, h2, h3⟩ := h
  refine ⟨_, h3, fun w' x h4 => ?_⟩
  rw [putM_mpf h1] at h4
  refine ⟨insK ks (bid x), nodup_insK h1 _, fun k => ?_, ?_⟩
  · rw [mem_insK, ← h2, List.map_append, List.mem_append]
    simp
  · have e : mpf (insK ks (bid x)) f = mpf (insK ks (bid x)) (updK f (bid x) (f (bid x))) := mpf_congr fun k _ => by
      unfold updK
      split
      · rename_i e; rw [e]
      · rfl
    rw [e]; exact h4
theorem bmap_nil {w : World} {m : Nat} (f : Id3 → Value) (h : mapAt w m []) : BMap w m [] f := ⟨[], List.nodup_nil, by simp, h⟩
def HMap (w : World) (m : Nat) (h : List Id3) : Prop := ∃ ks, ks.Nodup ∧ (∀ k ∈ h, k ∈ ks) ∧ mapAt w m (mpf ks (fH h))
theorem HMap.kept {w w' : World} {m : Nat} {h : List Id3} (hm : HMap w m h) (hk : w'.heap[m]? = w.heap[m]?) : HMap w' m h := by
  obtain ⟨ks, h1, h2, h3⟩ := hm
  exact ⟨ks, h1, h2, h3.kept hk⟩
theorem HMap.lt {w : World} {m : Nat} {h : List Id3} (hm : HMap w m h) : m < w.heap.size := by
  obtain ⟨ks, h1, h2, h3⟩ := hm
  exact h3.lt
theorem HMap.below {w w' : World} {m : Nat} {h : List Id3} (hm : HMap w m h) (hb : Below w.heap.size w w') : HMap w' m h := hm.kept (hb.block m hm.lt)
theorem HMap.look {w : World} {m : Nat} {h : List Id3} (hm : HMap w m h) : ∃ l, mapAt w m l ∧ ∀ k, getM l k (.bool false) = .bool (decide (k ∈ h)) := by
  obtain ⟨ks, h1, h2, h3⟩ := hm
  refine ⟨_, h3, fun k => ?_⟩
  rw [getM_mpf]
  split
  · rfl
  · rename_i hk
    rw [decide_eq_false fun hm => hk (h2 k hm)]
theorem HMap.put {w : World} {m : Nat} {h : List Id3} (hm : HMap w m h) : ∃ l, mapAt w m l ∧ ∀ (w' : World) (h' : List Id3) (k : Id3), (∀ x, x ≠ k → (x ∈ h' ↔ x ∈ h)) → mapAt w' m (putM l k (.bool (decide (k ∈ h')))) → HMap w' m h' := by
  obtain ⟨ks, h1, h2, h3⟩ := hm
  refine ⟨_, h3, fun w' h' k hk h4 => ?_⟩
  rw [putM_mpf h1] at h4
  refine ⟨insK ks k, nodup_insK h1 _, fun x hx => ?_, ?_⟩
  · rw [mem_insK]
    by_cases e : x = k
    · exact .inr e
    · exact .inl (h2 x ((hk x e).1 hx))
  · have e : mpf (insK ks k) (fH h') = mpf (insK ks k) (updK (fH h) k (.bool (decide (k ∈ h')))) := mpf_congr fun x _ => by
      unfold updK fH
      split
      · rename_i e; rw [e]
      · rename_i e
        have := hk x e
        by_cases hx : x ∈ h
        · rw [decide_eq_true hx, decide_eq_true (this.2 hx)]
        · rw [decide_eq_false hx, decide_eq_false (fun h => hx (this.1 h))]
    rw [e]; exact h4
theorem hmap_nil {w : World} {m : Nat} (h : mapAt w m []) : HMap w m [] := ⟨[], List.nodup_nil, by simp, h⟩
def nwO (b : List Bn) (node : Int) (h : List Id3) (x : Oc) : Bool :=
  if x.ki = 1 then decide (oid x ∈ h) || decide (deO b (oid x) ≠ node) else if x.ki = 6 then true else if x.ki = 7 ∨ x.ki = 9 then false else decide (oid x ∈ h)
theorem hld_ne {b : List Bn} {node : Int} {h : List Id3} {x : Oc} (hn : x.no ≠ node) : hldO b node h x = h := by unfold hldO; rw [if_pos hn]
theorem hld_same {b : List Bn} {node : Int} {h : List Id3} {x : Oc} (hn : nwO b node h x = decide (oid x ∈ h)) : hldO b node h x = h := by
  unfold nwO at hn
  unfold hldO
  split
  · rfl
  · by_cases h1 : x.ki = 1
    · rw [if_pos h1] at hn
      rw [if_pos (.inl h1)]
      by_cases hm : oid x ∈ h
      · rw [if_pos (.inl hm)]
      · rw [if_pos]
        rw [decide_eq_false hm, Bool.false_or] at hn
        exact .inr ⟨h1, Classical.not_not.1 (of_decide_eq_false hn)⟩
    · rw [if_neg h1] at hn
      by_cases h6 : x.ki = 6
      · rw [if_pos h6] at hn
        rw [if_pos (.inr h6), if_pos (.inl (by simpa using hn))]
      · rw [if_neg h6] at hn
        rw [if_neg (by omega)]
        by_cases h7 : x.ki = 7 ∨ x.ki = 9
        · rw [if_pos h7] at hn
          rw [if_pos h7]
          exact ld_same _ _ (by simpa using hn)
        · rw [if_neg h7]
theorem hld_add {b : List Bn} {node : Int} {h : List Id3} {x : Oc} (hno : x.no = node) (hn : nwO b node h x = true) (hm : oid x ∉ h) : hldO b node h x = h ++ [oid x] := by
  unfold nwO at hn
  unfold hldO
  rw [if_neg (by simp [hno])]
  by_cases h1 : x.ki = 1
  · rw [if_pos h1, decide_eq_false hm, Bool.false_or] at hn
    rw [if_pos (.inl h1), if_neg]
    rintro (h2 | ⟨_, h2⟩)
    · exact hm h2
    · exact (of_decide_eq_true hn) h2
  · rw [if_neg h1] at hn
    by_cases h6 : x.ki = 6
    · rw [if_pos (.inr h6), if_neg]
      rintro (h2 | ⟨h2, _⟩)
      · exact hm h2
      · exact h1 h2
    · rw [if_neg h6] at hn
      split at hn
      · cases hn
      · exact absurd (of_decide_eq_true hn) hm
theorem hld_del {b : List Bn} {node : Int} {h : List Id3} {x : Oc} (hno : x.no = node) (hn : nwO b node h x = false) (hm : oid x ∈ h) : hldO b node h x = h.filter fun k => decide (k ≠ oid x) := by
  unfold nwO at hn
  unfold hldO
  rw [if_neg (by simp [hno])]
  by_cases h1 : x.ki = 1
  · rw [if_pos h1, decide_eq_true hm, Bool.true_or] at hn; cases hn
  · rw [if_neg h1] at hn
    by_cases h6 : x.ki = 6
    · rw [if_pos h6] at hn; cases hn
    · rw [if_neg h6] at hn
      rw [if_neg (by omega)]
      split at hn
      · rename_i h7; rw [if_pos h7]
      · rw [decide_eq_true hm] at hn; cases hn
theorem nwO_use {b : List Bn} {node : Int} {h : List Id3} {x : Oc} (hn : nwO b node h x ≠ decide (oid x ∈ h)) : useB x.ki = true := by
  unfold nwO at hn
  have : x.ki = 1 ∨ x.ki = 6 ∨ x.ki = 7 ∨ x.ki = 9 := by
    refine Classical.byContradiction fun hc => hn ?_
    rw [if_neg (by omega), if_neg (by omega), if_neg (by omega)]
  unfold useB
  simp
  omega
theorem hld_len {b : List Bn} {node : Int} {h : List Id3} {x : Oc} : (hldO b node h x).length ≤ h.length + 1 := by
  unfold hldO
  split
  · omega
  · split
    · split
      · omega
      · simp
    · split
      · have := List.length_filter_le (fun k => decide (k ≠ oid x)) h; omega
      · omega
theorem held_len {b : List Bn} {sz : Bn → Int} {node : Int} {l : List Oc} : ∀ i, i ≤ l.length → (stpS b sz node l i).1.length ≤ i
  | 0, _ => Nat.le_refl _
  | i + 1, hi => by
    have ih := held_len (b := b) (sz := sz) (node := node) (l := l) i (by omega)
    have e : (stpS b sz node l (i + 1)).1 = hldO b node (stpS b sz node l i).1 l[i] := by rw [stpS_succ (by omega)]; split <;> rfl
    rw [e]
    have := hld_len (b := b) (node := node) (h := (stpS b sz node l i).1) (x := l[i])
    omega
theorem stps_len {b : List Bn} {sz : Bn → Int} {node : Int} {l : List Oc} : ∀ i, i ≤ l.length → (stpS b sz node l i).2.2.length ≤ i
  | 0, _ => Nat.le_refl _
  | i + 1, hi => by
    have ih := stps_len (b := b) (sz := sz) (node := node) (l := l) i (by omega)
    rw [stpS_succ (by omega)]
    split
    · simp; omega
    · show (stpS b sz node l i).2.2.length ≤ i + 1
      omega
def lc (x : Int × Int) : List Value := [.int .i64 x.1, .int .u64 x.2]
theorem lc_len (x : Int × Int) : (lc x).length = 2 := rfl
theorem lc_one (x : Int × Int) : ∀ u ∈ lc x, u.oneCell' = true := by
  intro u hu
  simp only [lc, List.mem_cons, List.not_mem_nil, or_false] at hu
  rcases hu with rfl | rfl <;> rfl
theorem owns_put {w w' : World} {base m : Nat} {e : TypeId} {size : Nat} {v : Value} {n : Nat} {xs : List Value} (h : w.ownsRow base e size v n xs) (hg : w.grownBy w' (some m)) (hm : m < base) : w'.ownsRow base e size v n xs := by
  obtain ⟨h1, h2⟩ := h
  refine ⟨h1, ?_⟩
  rcases h2 with ⟨h2, h3⟩ | ⟨g', cap', cur, h3, h4, h5, h6⟩
  · exact .inl ⟨h2, h3⟩
  · exact .inr ⟨g', cap', cur, h3, h4, (hg.block g' (Array.getElem?_eq_some_iff.1 h5).1 (by simp; omega)).trans h5, h6⟩
structure StI (W : World) (B m : Nat) (vr : Array Value) (b : List Bn) (h : List Id3) (v : Value) (s : List (Int × Int)) : Prop where
  run : blk W B = some vr
  sizes : BMap W (B + 1) b (fS b)
  dest : BMap W (B + 2) b (fD b)
  held : HMap W m h
  own : W.ownsRow (m + 1) 35 2 v s.length (rowC lc s)
theorem StI.below {W W' : World} {B m : Nat} {vr : Array Value} {b : List Bn} {h : List Id3} {v : Value} {s : List (Int × Int)} (k : StI W B m vr b h v s) (hb : Below W.heap.size W W') : StI W' B m vr b h v s :=
  ⟨blk_below hb k.run, k.sizes.below hb, k.dest.below hb, k.held.below hb, owns_belowS k.own hb⟩
theorem StI.put {W W' : World} {B m : Nat} {vr : Array Value} {b : List Bn} {h h' : List Id3} {v : Value} {s : List (Int × Int)} (k : StI W B m vr b h v s) (hg : W.grownBy W' (some m)) (hm : B + 2 < m) (hh : HMap W' m h') : StI W' B m vr b h' v s :=
  ⟨(blk_kept (hg.block B (blk_lt k.run) (by simp; omega))).trans k.run, k.sizes.kept (hg.block _ k.sizes.lt (by simp; omega)), k.dest.kept (hg.block _ k.dest.lt (by simp; omega)), hh, owns_put k.own hg (by omega)⟩
theorem StI.app {W W' : World} {B m : Nat} {vr : Array Value} {b : List Bn} {h : List Id3} {v v' : Value} {s s' : List (Int × Int)} (k : StI W B m vr b h v s) (hg : W.grownBy W' v.ownBlock) (hm : B + 2 < m) (ho : W'.ownsRow (m + 1) 35 2 v' s'.length (rowC lc s')) : StI W' B m vr b h v' s' := by
  have hne : ∀ j, j < m + 1 → v.ownBlock ≠ some j := fun j hj e => by have := (k.own.lt j e).1; omega
  exact ⟨(blk_kept (hg.block B (blk_lt k.run) (fun e => hne B (by omega) e.symm))).trans k.run, k.sizes.kept (hg.block _ k.sizes.lt (fun e => hne _ (by omega) e.symm)), k.dest.kept (hg.block _ k.dest.lt (fun e => hne _ (by omega) e.symm)), k.held.kept (hg.block _ k.held.lt (fun e => hne _ (by omega) e.symm)), ho⟩
end Go.Proofs.YthfmkkkdjgkaoaaGreatDoor
namespace Go.Proofs.YthfmkkkdjgkaoaaGreatDoor
open Go.RowKit
def sameG {α : Type} (eq : α → α → Bool) : List α → List α → Bool
  | [], [] => true
  | x :: l, y :: m => eq x y && sameG eq l m
  | _, _ => false
theorem sameG_iff {α : Type} {eq : α → α → Bool} (h : ∀ x y, eq x y = true ↔ x = y) : ∀ l m : List α, sameG eq l m = true ↔ l = m
  | [], [] => by simp [sameG]
  | [], y :: m => by simp [sameG]
  | x :: l, [] => by simp [sameG]
  | x :: l, y :: m => by simp [sameG, h, sameG_iff h l m]
theorem sameG_no {α : Type} {eq : α → α → Bool} (he : ∀ x y, eq x y = true ↔ x = y) {l m : List α} (h : l ≠ m) : sameG eq l m = false := by
  cases hs : sameG eq l m
  · rfl
  · exact absurd ((sameG_iff he l m).1 hs) h
theorem takeG_succ {α : Type} {xs ys : List α} {k : Nat} (h1 : k < xs.length) (h2 : k < ys.length) (h : xs.take k = ys.take k) (he : xs[k] = ys[k]) : xs.take (k + 1) = ys.take (k + 1) := by
  rw [List.take_succ_eq_append_getElem h1, List.take_succ_eq_append_getElem h2, h, he]
def eqL (x y : Int × Int) : Bool := decide (x.1 = y.1 ∧ x.2 = y.2)
theorem eqL_iff (x y : Int × Int) : eqL x y = true ↔ x = y := by
  obtain ⟨a1, a2⟩ := x
  obtain ⟨b1, b2⟩ := y
  simp [eqL]
theorem run_lcNe (x y : Int × Int) (w : World) : Sem.run Tryz.prog (binOp BinOp.neq 35 (.agg (lc x).toArray) (.agg (lc y).toArray)) w = .ok (.bool (!eqL x y)) w := by
  obtain ⟨a1, a2⟩ := x
  obtain ⟨b1, b2⟩ := y
  simp only [eqL, lc]
  go_simp
  refine (Decidable.em (a1 = b1)).elim (fun h => ?_) (fun h => by simp [h])
  subst h
  by_cases h7 : a2 = b2
  · simp [h7]
  · simp [h7]
set_option maxRecDepth 100000 in
set_option maxHeartbeats 1600000 in
theorem sameLd_any (a1 a2 : Option Addr) (c1 c2 : Nat) (l m : List (Int × Int)) (hl : l.length ≤ 100000) (hm : m.length ≤ 100000) (w : World) (h1 : SRow lc 2 w a1 c1 l) (h2 : SRow lc 2 w a2 c2 m) :
    Calls Tryz.prog 11 #[.slice a1 l.length c1, .slice a2 m.length c2] w fun e w' => e = .returned (.bool (sameG eqL l m)) ∧ Below w.heap.size w w' := by
  have H1 := Lib.hid h1; have H2 := Lib.hid h2; clear h1 h2
  by_cases hlen : l.length = m.length
  · have q1 : ((l.length : Int) != (m.length : Int)) = false := by simp [hlen]
    have HL := Lib.hid hlen
    clear hlen
    go_enter Tryz.func11, Tryz.ntmps11
    go_wp2
    go_loopw [5] (fun i wr => ∃ k : Nat, i = .int .i64 k ∧ k ≤ l.length ∧ Hid (l.take k = m.take k) ∧ Below w.heap.size w wr) (fun i _ => l.length - (intOf i).toNat)
    case atStart => exact ⟨0, rfl, Nat.zero_le _, Lib.hid rfl, Below.refl _ _⟩
    case round =>
      obtain ⟨k, rfl, hk, hE0, hB⟩ := hrel
      by_cases hlt : k < l.length
      · have hlm : k < m.length := by have := HL.out; omega
        have i1 : (k : Int) < (l.length : Int) := by omega
        have i2 : (k : Int) < (m.length : Int) := by omega
        obtain ⟨b1, o1, rfl, g1, r1⟩ := (H1.out.below hB).2.2.2 (by omega)
        obtain ⟨b2, o2, rfl, g2, r2⟩ := (H2.out.below hB).2.2.2 (by omega)
        obtain ⟨x, hx⟩ : ∃ x, x = l[k] := ⟨_, rfl⟩
        obtain ⟨y, hy⟩ : ∃ x, x = m[k] := ⟨_, rfl⟩
        have R1 := r1 k hlt
        have R2 := r2 k hlm
        rw [← hx] at R1
        rw [← hy] at R2
        clear r1 r2
        have E := fun W => run_lcNe x y W
        obtain ⟨q, hq⟩ : ∃ q, eqL x y = q := ⟨_, rfl⟩
        rw [hq] at E
        have HX := Lib.hid hx; have HY := Lib.hid hy; have HQ := Lib.hid hq
        clear hx hy hq
        go_wp2_with fail
        refine wp_region_in (by kernel_rfl) (by kernel_rfl) ?_
        intro W0 hE hN
        have r1 : W0.rangeAt b1 (o1 + k * 2) (lc x) := (by rw [hE.out]; exact R1)
        have r2 : W0.rangeAt b2 (o2 + k * 2) (lc y) := (by rw [hE.out]; exact R2)
        have g1' : b1 < W0.heap.size := (by rw [hE.out]; exact g1)
        have g2' : b2 < W0.heap.size := (by rw [hE.out]; exact g2)
        have hB' : Below w.heap.size w W0 := (by rw [hE.out]; exact hB)
        clear hE R1 R2 g1 g2 hB
        refine wpQuiet_split 3 ?_
        simp only [List.take_succ_cons, List.take_zero, List.drop_succ_cons, List.drop_zero]
        repeat (go_big_quiet_step (fail))
        refine wpQuiet_nil ?_
        refine wpQuiet_load_range 35 (.tmp 19) b1 (o1 + k * 2) (lc x) (fun W hW => by obtain ⟨x', rfl⟩ := hW; exact range_below g1' r1 x'.ok) _ (by kernel_rfl) rfl (by kernel_rfl) Tryz.underlying35 rfl (by kernel_rfl) ?_
        conv => arg 6; simp [Act.put]
        refine wpQuiet_split 3 ?_
        simp only [List.take_succ_cons, List.take_zero, List.drop_succ_cons, List.drop_zero]
        repeat (go_big_quiet_step (fail))
        refine wpQuiet_nil ?_
        refine wpQuiet_load_range 35 (.tmp 23) b2 (o2 + k * 2) (lc y) (fun W hW => by obtain ⟨x', rfl⟩ := hW; exact range_below g2' r2 x'.ok) _ (by kernel_rfl) rfl (by kernel_rfl) Tryz.underlying35 rfl (by kernel_rfl) ?_
        conv => arg 6; simp [Act.put]
        repeat (go_big_quiet_step (fail))
        refine wpQuiet_nil ?_
        rintro _ ⟨x', rfl⟩
        have hB2 := bt hB' x'.ok
        obtain ⟨u, hu⟩ : ∃ u, u = x'.wd := ⟨_, rfl⟩
        rw [← hu] at hB2 ⊢
        clear hu x' hN r1 r2 g1' g2' hB' E
        cases q
        · go_wp2
          go_ret
          refine ⟨?_, hB2⟩
          rw [sameG_no eqL_iff (fun e => by subst e; have h3 := HQ.out; rw [HX.out, HY.out] at h3; exact absurd ((eqL_iff _ _).2 rfl) (by rw [h3]; decide))]
          rfl
        · go_wp2
          go_roundw
          case rel => exact ⟨k + 1, by go_num, by omega, Lib.hid (takeG_succ hlt hlm hE0.out (by rw [← HX.out, ← HY.out]; exact (eqL_iff _ _).1 HQ.out)), hB2⟩
          case measure => simp [intOf]; omega
      · obtain rfl : k = l.length := by omega
        have e : l = m := by
          have := hE0.out
          rwa [List.take_length, HL.out, List.take_length] at this
        have hs : sameG eqL l m = true := (sameG_iff eqL_iff l m).2 e
        have HS := Lib.hid hs
        clear hs e
        go_wp2
        go_ret
        exact ⟨by rw [HS.out]; rfl, hB⟩
  · have q1 : ((l.length : Int) != (m.length : Int)) = true := by simp; omega
    rw [sameG_no eqL_iff (fun e => hlen (by rw [e]))]
    clear hlen
    go_enter Tryz.func11, Tryz.ntmps11
    go_wp2
    go_ret
    exact ⟨rfl, Below.refl _ _⟩
end Go.Proofs.YthfmkkkdjgkaoaaGreatDoor
namespace Go.Proofs.YthfmkkkdjgkaoaaGreatDoor
open Go.RowKit
theorem srow_blkG {α : Type} {enc : α → List Value} {k : Nat} (hk : ∀ x, (enc x).length = k) {w : World} {g : Nat} {l : List α} {c : Array Value} (hb : blk w g = some c) (e : c = (rowC enc l).toArray) (hm : l.length ≤ 1000) : SRow enc k w (some ⟨g, 0, none⟩) l.length l :=
  ⟨Nat.le_refl _, by unfold maxLen; omega, (fun h => by cases h), fun _ => ⟨g, 0, rfl, blk_lt hb, fun i hi => by
    have hb2 : blk w g = some (rowC enc l ++ []).toArray := by rw [List.append_nil, ← e]; exact hb
    rw [Nat.zero_add]; exact range_row hk hb2 (List.getElem?_eq_getElem hi)⟩⟩
def xy : ByteArray := ⟨#[120, 121]⟩
def bs0 : List Bn := [⟨1, 1, 0, 3, 1, 0, 10, 2, xy⟩, ⟨1, 2, 0, 3, 2, 0, 10, 2, xy⟩]
def ls0 : List Oc := [⟨1, 1, 1, 1, 1, 0, 0⟩, ⟨2, 1, 1, 1, 2, 0, 0⟩, ⟨3, 2, 6, 1, 1, 0, 1⟩, ⟨3, 1, 7, 1, 1, 0, 2⟩, ⟨5, 3, 8, 1, 1, 0, 0⟩, ⟨5, 2, 7, 1, 1, 0, 3⟩, ⟨12, 1, 9, 1, 2, 0, 0⟩]
set_option maxRecDepth 100000 in
set_option maxHeartbeats 1600000 in
theorem bundles_any (w : World) : Calls Tryz.prog 26 #[] w fun e w' => ∃ a, e = .returned (.slice a 2 2) ∧ SRow bn 9 w' a 2 bs0 ∧ Below w.heap.size w w' := by
  go_enter Tryz.func26, Tryz.ntmps26
  go_wp2
  go_ret
  exact ⟨some ⟨w.heap.size + 1 + 1, 0, none⟩, rfl, srow_blkG (l := bs0) bn_len (blk_alloc_new _ _ _ (by simp)) rfl (by decide), by (repeat (first | (with_reducible assumption) | (with_reducible exact Below.refl _ _) | (with_reducible refine beld_drew ?_) | ((with_reducible refine bset' ?_ ?_); (first | (focus (dsimp only; assumption)) | (focus (simp; done)) | (focus (dsimp only; omega)))) | (with_reducible refine belt_alloc ?_) | ((with_reducible refine zeroed_below' ?_ ?_); (first | (focus (simp; done)) | (focus (dsimp only; omega)))) | (with_reducible refine bt ?_ (by assumption))))⟩
set_option maxRecDepth 100000 in
set_option maxHeartbeats 1600000 in
theorem outcomes_any (w : World) : Calls Tryz.prog 27 #[] w fun e w' => ∃ a, e = .returned (.slice a 7 7) ∧ SRow oc 7 w' a 7 ls0 ∧ Below w.heap.size w w' := by
  go_enter Tryz.func27, Tryz.ntmps27
  go_wp2
  go_ret
  exact ⟨some ⟨w.heap.size + 1 + 1, 0, none⟩, rfl, srow_blkG (l := ls0) oc_len (blk_alloc_new _ _ _ (by simp)) rfl (by decide), by (repeat (first | (with_reducible assumption) | (with_reducible exact Below.refl _ _) | (with_reducible refine beld_drew ?_) | ((with_reducible refine bset' ?_ ?_); (first | (focus (dsimp only; assumption)) | (focus (simp; done)) | (focus (dsimp only; omega)))) | (with_reducible refine belt_alloc ?_) | ((with_reducible refine zeroed_below' ?_ ?_); (first | (focus (simp; done)) | (focus (dsimp only; omega)))) | (with_reducible refine bt ?_ (by assumption))))⟩
end Go.Proofs.YthfmkkkdjgkaoaaGreatDoor
