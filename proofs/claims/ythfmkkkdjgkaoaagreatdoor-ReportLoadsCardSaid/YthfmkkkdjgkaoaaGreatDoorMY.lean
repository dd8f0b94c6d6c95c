/- Parts of a proof, printed by a program of mine out of my texts: RpWay, RpTxP. -/
import Derived.Test.YthfmkkkdjgkaoaaGreatDoorMJ
import Derived.Test.YthfmkkkdjgkaoaaGreatDoorMK
import Derived.Test.YthfmkkkdjgkaoaaGreatDoorMR
import Derived.Test.YthfmkkkdjgkaoaaGreatDoorMT
import Derived.Test.YthfmkkkdjgkaoaaGreatDoorMV
import Derived.Test.YthfmkkkdjgkaoaaGreatDoorMW
import Derived.Test.YthfmkkkdjgkaoaaGreatDoorMX
set_option linter.unusedSimpArgs false
set_option linter.unusedVariables false
namespace Go.Proofs.YthfmkkkdjgkaoaaGreatDoor
open Go.RowKit
open Go.Lib (OthersKept)
def SameB (g : Nat) (W W' : World) : Prop := W.heap.size ≤ W'.heap.size ∧ ∀ b, b < W.heap.size → b ≠ g → W'.heap[b]? = W.heap[b]?
theorem heap_setCells {b d : Nat} (hd : d ≠ b) : ∀ (vs : List Value) (o : Nat) (w : World), (w.setCells b o vs).heap[d]? = w.heap[d]?
  | [], o, w => rfl
  | v :: r, o, w => (heap_setCells hd r (o + 1) _).trans (Below.heap_setCell w ⟨b, o, none⟩ v d hd)
section
variable {P : Program} {ops : Array Oper} {rest : List Oper} {o : Oper} {a : Act} {w : World}
theorem wp_store_midB {K : Act → World → Prop} {Q : Exit → Act → World → Prop} (ty : TypeId) (x y : Operand) (b off : Nat) (c c' cells : Array Value) (hb : blk w b = some c) (ho : o.op = .store ty x y)
    (hx : a.eval x = .pointer (some ⟨b, off, none⟩)) (hy : a.eval y = .agg cells) (hsz : off + cells.size ≤ c.size) (hi : (P.info? ty).map (·.size) = some cells.size) (h1 : cells.all (·.oneCell') = true)
    (hc : setMid c off cells.toList = c')
    (h : ∀ w', blk w' b = some c' → SameB b w w' → (∀ B w0, B ≤ b → Below B w0 w → Below B w0 w') → w'.heap.size = w.heap.size → K (a.put o.dst undef) w') : o.wp P a w K Q := by
  refine wp_store_mid ty x y ho b off cells hx hy (there_of_blk hb hsz) hi h1 ?_
  exact h _ (hc ▸ blk_setCells _ _ _ _ hb) ⟨by rw [size_setCells]; exact Nat.le_refl _, fun d _ hd => heap_setCells hd _ _ _⟩ (fun B w0 hB hw => below_setCells hB _ _ _ hw) (size_setCells _ _ _)
end
theorem heap_below {w w' : World} {b : Nat} {o : Obj} (h : w.heap[b]? = some o) (hb : Below w.heap.size w w') : w'.heap[b]? = some o := (hb.block b (Array.getElem?_eq_some_iff.1 h).1).trans h
theorem heap_same {g b : Nat} {W W' : World} {o : Obj} (h : W.heap[b]? = some o) (hb : b ≠ g) (hs : SameB g W W') : W'.heap[b]? = some o := (hs.2 b (Array.getElem?_eq_some_iff.1 h).1 hb).trans h
theorem heap_lt {w : World} {b : Nat} {o : Obj} (h : w.heap[b]? = some o) : b < w.heap.size := (Array.getElem?_eq_some_iff.1 h).1
theorem heap_set {w : World} {b i : Nat} {c : Array Value} {t : TypeId} {v : Value} (h : w.heap[b]? = some (.cells c t (0, 0))) : (w.setCell ⟨b, i, none⟩ v).heap[b]? = some (.cells (c.setIfInBounds i v) t (0, 0)) := by
  obtain ⟨hlt, hk⟩ := Array.getElem?_eq_some_iff.1 h
  show (w.heap.modify b _)[b]? = _
  rw [Array.getElem?_eq_getElem (by rw [Array.size_modify]; exact hlt), Array.getElem_modify_self, hk]
  rfl
theorem heap_setMid {b : Nat} {t : TypeId} : ∀ (vs : List Value) (o : Nat) (w : World) (c : Array Value), w.heap[b]? = some (.cells c t (0, 0)) → (w.setCells b o vs).heap[b]? = some (.cells (setMid c o vs) t (0, 0))
  | [], o, w, c, h => h
  | v :: r, o, w, c, h => heap_setMid r (o + 1) _ _ (heap_set h)
section
variable {P : Program} {ops : Array Oper} {rest : List Oper} {o : Oper} {a : Act} {w : World}
theorem wp_store_midH {K : Act → World → Prop} {Q : Exit → Act → World → Prop} (ty : TypeId) (x y : Operand) (b off : Nat) (c c' cells : Array Value) {t : TypeId} (hb : w.heap[b]? = some (.cells c t (0, 0))) (ho : o.op = .store ty x y)
    (hx : a.eval x = .pointer (some ⟨b, off, none⟩)) (hy : a.eval y = .agg cells) (hsz : off + cells.size ≤ c.size) (hi : (P.info? ty).map (·.size) = some cells.size) (h1 : cells.all (·.oneCell') = true)
    (hc : setMid c off cells.toList = c')
    (h : ∀ w', w'.heap[b]? = some (.cells c' t (0, 0)) → SameB b w w' → (∀ B w0, B ≤ b → Below B w0 w → Below B w0 w') → w'.heap.size = w.heap.size → K (a.put o.dst undef) w') : o.wp P a w K Q := by
  refine wp_store_mid ty x y ho b off cells hx hy (there_of_blk (blk_of hb) hsz) hi h1 ?_
  exact h _ (hc ▸ heap_setMid _ _ _ _ hb) ⟨by rw [size_setCells]; exact Nat.le_refl _, fun d _ hd => heap_setCells hd _ _ _⟩ (fun B w0 hB hw => below_setCells hB _ _ _ hw) (size_setCells _ _ _)
end
theorem own_parts {w : World} {B : Nat} {v : Value} {l : List Int} (h0 : 0 < l.length) (h : w.ownsRow B 3 1 v l.length (rowC ic l)) :
    ∃ g cap cur, v = .slice (some ⟨g, 0, none⟩) l.length cap ∧ B ≤ g ∧ w.heap[g]? = some (.cells cur 3 (0, 0)) ∧ (l.length ≤ cap ∧ cap ≤ maxLen) ∧ ∀ j (hj : j < l.length), cur[j]? = some (.int .i64 l[j]) := by
  rcases h.2 with ⟨_, hz⟩ | ⟨g, cap, cur, hv, hb, hg, hn, hc, hs, ht⟩
  · omega
  · refine ⟨g, cap, cur, hv, hb, hg, ⟨hn, hc⟩, fun j hj => ?_⟩
    rw [Nat.mul_one] at ht
    have h2 : (cur.toList.take l.length)[j]? = cur[j]? := by rw [List.getElem?_take, if_pos hj]; simp
    rw [← h2, ht, rowC_ic]
    simp [hj]
end Go.Proofs.YthfmkkkdjgkaoaaGreatDoor
namespace Go.Proofs.YthfmkkkdjgkaoaaGreatDoor
open Go.RowKit
open Go.Lib (decDigits nDigits OthersKept byteCells strCells)
structure TxI (B k d r : Nat) (vr : Array Value) (w : World) (L : List UInt8) (W : World) : Prop where
  isb : IsB B k (byteCells L) W
  box : W.heap[d]? = some (.cells #[.pointer (some ⟨k, 0, none⟩)] 89 (0, 0))
  run : W.heap[r]? = some (.cells vr 70 (0, 0))
  bel : Below B w W
theorem TxI.below {B k d r : Nat} {vr : Array Value} {w W W' : World} {L : List UInt8} (h : TxI B k d r vr w L W) (hb : Below W.heap.size W W') (hBw : B ≤ w.heap.size) : TxI B k d r vr w L W' :=
  ⟨isB_below h.isb hb, (hb.block d (Array.getElem?_eq_some_iff.1 h.box).1).trans h.box, (hb.block r (Array.getElem?_eq_some_iff.1 h.run).1).trans h.run, h.bel.trans (hb.mono (Nat.le_trans hBw h.bel.size))⟩
theorem TxI.wrote {B k d r : Nat} {vr : Array Value} {w W W' : World} {L L' : List UInt8} (h : TxI B k d r vr w L W) (hI : IsB B k (byteCells L') W') (hB : Below B W W') (hK : OthersKept 5 (some k) W W') (hd : d ≠ k) (hr : r ≠ k) : TxI B k d r vr w L' W' :=
  ⟨hI, ok_cells hK h.box hd (by decide), ok_cells hK h.run hr (by decide), h.bel.trans hB⟩
theorem isB_fresh {B k : Nat} {w : World} (hB : B ≤ k) (h : w.heap[k]? = some (.cells #[.pointer none, .slice none 0 0] 87 (0, 0))) : IsB B k (byteCells []) w :=
  .inl ⟨hB, .slice none 0 0, h, ⟨by simp [byteCells], .inl ⟨rfl, rfl⟩⟩, by simp [Value.ownBlock]⟩
def prisR (b : List Bn) (l : List Oc) (j : Nat) : List UInt8 := (List.range j).flatMap (priR b l)
theorem prisR_succ (b : List Bn) (l : List Oc) (j : Nat) : prisR b l (j + 1) = prisR b l j ++ priR b l j := by unfold prisR; rw [List.range_succ, List.flatMap_append]; simp
theorem row_len (m : Nat) (B b g cap : Nat) (cur : Array Value) (L : List UInt8) (word : ByteArray) (l : List Int) (hm : l.length = m) (hl : l.length ≤ 100) (hn : ∀ n ∈ l, 0 ≤ n ∧ n < 9223372036854775808) (hL : L.length ≤ 1000000) (hwd : word.size ≤ 100) (w : World)
    (hT : Lib.TabBelow Tryz.prog B w powNm .u64 Lib.pow10Tab) (h : IsB B b (byteCells L) w) (hBw : B ≤ w.heap.size) (hg : w.heap[g]? = some (.cells cur 3 (0, 0))) (hgb : g ≠ b) (hcur : ∀ j (hj : j < l.length), cur[j]? = some (.int .i64 l[j])) (hcap : l.length ≤ cap ∧ cap ≤ maxLen) :
    Calls Tryz.prog 41 #[.agg #[.pointer (some ⟨b, 0, none⟩)], .string word, .slice (some ⟨g, 0, none⟩) m cap] w fun e w' => e = .returned (.tuple #[]) ∧ IsB B b (byteCells (L ++ rowT word.data.toList (l.map Int.toNat))) w' ∧ Below B w w' ∧ OthersKept 5 (some b) w w' := by
  subst hm
  exact row_any B b g cap cur L word l hl hn hL hwd w hT h hBw hg hgb hcur hcap
theorem concat_len (m : Nat) (g : Nat) (R : List Rw) (hm : R.length = m) (L : List Int) (hL : catL R = L) (hR : R.length ≤ 10) (h1 : ∀ r ∈ R, 0 < r.2.2.length ∧ r.2.2.length ≤ 100) (h0 : 0 < R.length) (w : World) (hk : blk w g = some (R.map rwV).toArray) (hr : ∀ r ∈ R, SRow ic 1 w r.1 r.2.1 r.2.2) :
    Calls Tryz.prog 42 #[.slice (some ⟨g, 0, none⟩) m m] w (OwnR ic 1 3 L w) := by
  subst hm; subst hL
  exact concat_any g R hR h1 h0 w hk hr
theorem cur3 (a b c : Int) : ∀ j (hj : j < [a, b, c].length), (#[.int .i64 a, .int .i64 b, .int .i64 c] : Array Value)[j]? = some (.int .i64 [a, b, c][j])
  | 0, _ => by simp
  | 1, _ => by simp
  | 2, _ => by simp
  | j + 3, hj => absurd hj (by simp)
theorem cur2 (a b : Int) : ∀ j (hj : j < [a, b].length), (#[.int .i64 a, .int .i64 b] : Array Value)[j]? = some (.int .i64 [a, b][j])
  | 0, _ => by simp
  | 1, _ => by simp
  | j + 2, hj => absurd hj (by simp)
theorem wp_freshT {P : Program} {cd : Code} {Q : Exit → Act → World → Prop} {a : Act} {W w0 : World} {B : Nat} (b : Nat) (c : Array Value) (h1 : blk W b = some c) (hB : Below B w0 W)
    (h : ∀ w', blk w' b = some c → Below B w0 w' → cd.wp P Q a w') : cd.wp P Q a W := h W h1 hB
set_option maxRecDepth 100000 in
set_option maxHeartbeats 12800000 in
theorem ptext_ok (ab al : Option Addr) (cb cl : Nat) (b : List Bn) (l : List Oc) (hv : RunV b l) (h0 : (runC b l).1 = 0) (hd : ∀ x ∈ b, x.da.size ≤ maxLen ∧ 0 ≤ x.sq) (w : World) (hT : FTab w) (hH : HTab w) (hP : Lib.TabBelow Tryz.prog w.heap.size w powNm .u64 Lib.pow10Tab) (hb : SRow bn 9 w ab cb b) (hl : SRow oc 7 w al cl l) :
    Calls Tryz.prog 16 #[.slice ab b.length cb, .slice al l.length cl] w fun e w' => e = .returned (.tuple #[.string ⟨(txtO b szB l).toArray⟩, .int .i64 0]) ∧ Below w.heap.size w w' := by
  have go : Calls Tryz.prog 30 #[.slice ab b.length cb, .slice al l.length cl] w fun e w' => e = .returned (.tuple #[.agg #[.slice ab b.length cb, .slice al l.length cl], .int .i64 0]) ∧ Below w.heap.size w w' := by
    have := open_any ab al cb cl b l (fun x hx => (hd x hx).1) w hT hb hl
    rwa [h0] at this
  have GO := Lib.hid go
  have q0 : ((0 : Int) != 0) = false := rfl
  clear go
  go_enter Tryz.func16, Tryz.ntmps16
  go_upto_region 5 with (go_at_call 30; (with_reducible refine (GO.out).mono ?_); rintro e w2 ⟨rfl, h2⟩)
  obtain ⟨vr, hvr⟩ : ∃ v, v = (#[.slice ab b.length cb, .slice al l.length cl] : Array Value) := ⟨_, rfl⟩
  obtain ⟨u0, hu0⟩ : ∃ u, u = ((w2.alloc (.cells #[.slice ab b.length cb, .slice al l.length cl] 70)).alloc (.cells #[.pointer none, .slice none 0 0] 87)).alloc (.cells #[.pointer (some ⟨w2.heap.size + 1, 0, none⟩)] 89) := ⟨_, rfl⟩
  obtain ⟨r, hr⟩ : ∃ r, r = w2.heap.size := ⟨_, rfl⟩
  have hBa : Below w.heap.size w u0 := by rw [hu0]; (repeat (first | (with_reducible assumption) | (with_reducible exact Below.refl _ _) | (with_reducible refine beld_drew ?_) | ((with_reducible refine bset' ?_ ?_); (first | (focus (dsimp only; assumption)) | (focus (simp; done)) | (focus (dsimp only; omega)))) | (with_reducible refine belt_alloc ?_) | ((with_reducible refine zeroed_below' ?_ ?_); (first | (focus (simp; done)) | (focus (dsimp only; omega)))) | (with_reducible refine bt ?_ (by assumption))))
  have hk1 : u0.heap[r + 1]? = some (.cells #[.pointer none, .slice none 0 0] 87 (0, 0)) := by
    rw [hu0, hr]
    refine (heap_alloc_old _ _ (by simp)).trans ?_
    have := heap_alloc_new (w2.alloc (.cells #[.slice ab b.length cb, .slice al l.length cl] 70)) (.cells #[.pointer none, .slice none 0 0] 87)
    simpa using this
  have hk2 : u0.heap[r + 1 + 1]? = some (.cells #[.pointer (some ⟨r + 1, 0, none⟩)] 89 (0, 0)) := by
    rw [hu0, hr]
    have := heap_alloc_new ((w2.alloc (.cells #[.slice ab b.length cb, .slice al l.length cl] 70)).alloc (.cells #[.pointer none, .slice none 0 0] 87)) (.cells #[.pointer (some ⟨w2.heap.size + 1, 0, none⟩)] 89)
    simpa using this
  have hk0 : u0.heap[r]? = some (.cells vr 70 (0, 0)) := by
    rw [hu0, hr, hvr]
    refine (heap_alloc_old _ _ (by simp; omega)).trans ((heap_alloc_old _ _ (by simp)).trans (heap_alloc_new _ _))
  have hrw : w.heap.size ≤ r := by rw [hr]; exact h2.size
  have hBw : w.heap.size ≤ w.heap.size := Nat.le_refl _
  have F0 : Hid (TxI w.heap.size (r + 1) (r + 1 + 1) r vr w (prisR b l 0) u0) := Lib.hid ⟨isB_fresh (by omega) hk1, hk2, hk0, hBa⟩
  rw [← hu0, ← hr]
  have HVR := Lib.hid hvr
  clear hu0 hr hBa hk1 hk2 hk0 h2 GO hvr
  have GCN : Hid (∀ (p : Int) W, -1 ≤ p → Below w.heap.size w W → Calls Tryz.prog 39 #[.agg #[.slice ab b.length cb, .slice al l.length cl], .int .i64 p] W fun e w' => e = .returned (.agg #[.int .i64 (cntO b l p 0), .int .i64 (cntO b l p 1), .int .i64 (cntO b l p 2), .int .i64 (cntO b l p 3), .int .i64 (cntO b l p 4), .int .i64 (cntO b l p 5)]) ∧ Below W.heap.size W w') := Lib.hid fun p W _ hB => counts_any ab al cb cl b l p hv.len hv.kinds W (hb.below hB) (hl.below hB)
  have GLT : Hid (∀ (p : Int) W, Below w.heap.size w W → Calls Tryz.prog 40 #[.agg #[.slice ab b.length cb, .slice al l.length cl], .int .i64 p] W fun e w' => e = .returned (.agg (dv (dlyO (allO b l p)))) ∧ Below W.heap.size W w') := Lib.hid fun p W hB => late_any ab al cb cl b l p hv W (hT.on hB) (hb.below hB) (hl.below hB)
  have HV := Lib.hid hv; have HD := Lib.hid hd; have HT := Lib.hid hT; have HH := Lib.hid hH; have HP := Lib.hid hP; have HB := Lib.hid hb; have HL := Lib.hid hl; have H0 := Lib.hid h0
  clear hv hd hT hH hP hb hl h0
  go_wp2
  go_loopw [29] (fun s29 wr => ∃ j : Nat, s29 = .int .i64 j ∧ j ≤ 3 ∧ Hid (TxI w.heap.size (r + 1) (r + 1 + 1) r vr w (prisR b l j) wr) ∧ (prisR b l j).length ≤ j * 1000) (fun s29 _ => 3 - (intOf s29).toNat)
  case atStart => exact ⟨0, rfl, Nat.zero_le _, F0, by simp [prisR]⟩
  case round =>
    clear F0
    obtain ⟨j, rfl, hj, HF, hlj⟩ := hrel
    by_cases hlt : j < 3
    · have hltz : (j : Int) < 3 := by omega
      have g1 := fun W hB => GCN.out (j : Int) W (by omega) hB
      have g2 := GLT.out (j : Int)
      have hnn := priN_bd HV.out hj
      have hpr := priR_eq b l j
      have hlr := priR_len HV.out hj
      unfold priN at hnn hpr
      obtain ⟨c0, hc0⟩ : ∃ c, cntO b l (j : Int) 0 = c := ⟨_, rfl⟩
      obtain ⟨c1, hc1⟩ : ∃ c, cntO b l (j : Int) 1 = c := ⟨_, rfl⟩
      obtain ⟨c2, hc2⟩ : ∃ c, cntO b l (j : Int) 2 = c := ⟨_, rfl⟩
      obtain ⟨c3, hc3⟩ : ∃ c, cntO b l (j : Int) 3 = c := ⟨_, rfl⟩
      obtain ⟨c4, hc4⟩ : ∃ c, cntO b l (j : Int) 4 = c := ⟨_, rfl⟩
      obtain ⟨c5, hc5⟩ : ∃ c, cntO b l (j : Int) 5 = c := ⟨_, rfl⟩
      obtain ⟨D, hD⟩ : ∃ c, dlyO (allO b l (j : Int)) = c := ⟨_, rfl⟩
      simp only [hc0, hc1, hc2, hc3, hc4, hc5] at g1
      rw [hc0, hc1, hc2, hc3, hc4, hc5, hD] at hnn hpr
      simp only [hD] at g2
      clear hc0 hc1 hc2 hc3 hc4 hc5 hD
      obtain ⟨n, su, le, gr, me⟩ := D
      simp only [dv] at g2
      have G1 := Lib.hid g1; have G2 := Lib.hid g2
      have HNN := Lib.hid hnn; have HPR := Lib.hid hpr; have HLR := Lib.hid hlr; have HLJ := Lib.hid hlj
      have kr : blk wr r = some #[.slice ab b.length cb, .slice al l.length cl] := by rw [← HVR.out]; exact blk_of HF.out.run
      have nr := kn kr
      clear g1 g2 hnn hpr hlr hlj
      go_upto_region 8 with fail
      clear GCN GLT HV HD HT HH HB HL H0 HVR q0
      go_cut [10, 11] from 32 to 37 (fun s10 s11 wq => ∃ k10 k11, s10 = .pointer (some ⟨k10, 0, none⟩) ∧ s11 = .pointer (some ⟨k11, 0, none⟩) ∧ Hid (wq.heap[k10]? = some (.cells #[.int .i64 c0, .int .i64 c1, .int .i64 c2, .int .i64 c3, .int .i64 c4, .int .i64 c5] 90 (0, 0)) ∧ wq.heap[k11]? = some (.cells #[.int .i64 n, .int .i64 su, .int .i64 le, .int .i64 gr, .int .i64 me] 65 (0, 0)) ∧ TxI w.heap.size (r + 1) (r + 1 + 1) r vr w (prisR b l j) wq ∧ r + 1 + 1 < k11))
      case first =>
        refine wp_region_held_drew (S := fun W => ∀ o, W.cell? ⟨r, o, none⟩ = (#[.slice ab b.length cb, .slice al l.length cl] : Array Value)[o]?) (by kernel_rfl) (fun o => blk_cell (blk_drew kr) o) (fun hHeld => ?_)
        obtain ⟨d0, ed⟩ : ∃ v, v = wr.drew := ⟨_, rfl⟩
        have FD : Hid (TxI w.heap.size (r + 1) (r + 1 + 1) r vr w (prisR b l j) d0) := Lib.hid (by rw [ed]; exact HF.out.below (Below.refl _ _).drew (Nat.le_refl _))
        have kd0 : blk d0 r = some #[.slice ab b.length cb, .slice al l.length cl] := (by rw [ed]; exact blk_drew kr)
        have bT : Below w.heap.size w d0 := FD.out.bel
        have bd0 : Below d0.heap.size d0 d0 := Below.refl _ _
        rw [← ed] at hHeld ⊢
        clear ed kr HF nr
        refine wpAnyH_take (i := 0) (oi := _) (v := ?_) rfl (by kernel_rfl) (by kernel_rfl) (by kernel_rfl) (fun _ _ _ h => h) (Or.inl ⟨by rfl, ?_⟩) (by assumption) ?_
        rotate_left
        focus (intro W hSw; (try dsimp only at hSw); go_simp; (try with_reducible rfl))
        (try simp only [Act.put, List.setIfInBounds_toArray, List.set_cons_zero, List.set_cons_succ, List.getElem_toArray, List.getElem_cons_succ, List.getElem_cons_zero])
        refine wpAnyH_take (i := 1) (oi := _) (v := ?_) rfl (by kernel_rfl) (by kernel_rfl) (by kernel_rfl) (fun _ _ _ h => h) (Or.inl ⟨by rfl, ?_⟩) (by assumption) ?_
        rotate_left
        focus (intro W hSw; (try dsimp only at hSw); go_simp; (try with_reducible rfl))
        (try simp only [Act.put, List.setIfInBounds_toArray, List.set_cons_zero, List.set_cons_succ, List.getElem_toArray, List.getElem_cons_succ, List.getElem_cons_zero])
        refine wpAnyH_take (i := 3) (oi := _) (v := ?_) rfl (by kernel_rfl) (by kernel_rfl) (by kernel_rfl) (fun _ _ _ h => h) (Or.inl ⟨by rfl, ?_⟩) (by assumption) ?_
        rotate_left
        focus (intro W hSw; (try dsimp only at hSw); go_simp; (try with_reducible rfl))
        (try simp only [Act.put, List.setIfInBounds_toArray, List.set_cons_zero, List.set_cons_succ, List.getElem_toArray, List.getElem_cons_succ, List.getElem_cons_zero])
        refine wpAnyH_take (i := 4) (oi := _) (v := ?_) rfl (by kernel_rfl) (by kernel_rfl) (by kernel_rfl) (fun _ _ _ h => h) (Or.inl ⟨by rfl, ?_⟩) (by assumption) ?_
        rotate_left
        focus (intro W hSw; (try dsimp only at hSw); go_simp; (try with_reducible rfl))
        (try simp only [Act.put, List.setIfInBounds_toArray, List.set_cons_zero, List.set_cons_succ, List.getElem_toArray, List.getElem_cons_succ, List.getElem_cons_zero])
        refine wpAnyH_ready (rs := [2, 6, 7]) (by kernel_rfl) (by simp) ?_
        refine AllReadyH.cons rfl (fun K hK => ?_) ?_
        · skip
          go_simp
          go_at_call 39
          (with_reducible refine (G1.out _ (bt bT bd0)).mono ?_)
          rintro e u2 ⟨rfl, hB⟩
          (try go_wp2_with fail)
          have bu2 := bt bd0 hB
          clear hB
          refine hK.out _ _ (fun o => blk_cell (blk_below bu2 kd0) o) (fun _ => ?_)
          clear hK K
          (try simp only [Act.put, List.setIfInBounds_toArray, List.set_cons_zero, List.set_cons_succ, List.getElem_toArray, List.getElem_cons_succ, List.getElem_cons_zero])
          refine wpAnyH_ready (rs := [5, 6, 7]) (by kernel_rfl) (by simp) ?_
          refine AllReadyH.cons rfl (fun K hK => ?_) ?_
          · skip
            go_simp
            go_at_call 40
            (with_reducible refine (G2.out _ (bt bT bu2)).mono ?_)
            rintro e u5 ⟨rfl, hB⟩
            (try go_wp2_with fail)
            have bu5 := bt bu2 hB
            clear hB
            refine hK.out _ _ (fun o => blk_cell (blk_below bu5 kd0) o) (fun _ => ?_)
            clear hK K
            (try simp only [Act.put, List.setIfInBounds_toArray, List.set_cons_zero, List.set_cons_succ, List.getElem_toArray, List.getElem_cons_succ, List.getElem_cons_zero])
            refine wpAnyH_ready (rs := [6, 7]) (by kernel_rfl) (by simp) ?_
            refine AllReadyH.cons rfl (fun K hK => ?_) ?_
            · skip
              go_simp
              obtain ⟨vA, evA⟩ : ∃ v, v = u5.alloc (.cells #[.int .i64 0, .int .i64 0, .int .i64 0, .int .i64 0, .int .i64 0, .int .i64 0] 90) := ⟨_, rfl⟩
              obtain ⟨k10, ek10⟩ : ∃ v, v = u5.heap.size := ⟨_, rfl⟩
              have hB : Below u5.heap.size u5 vA := (by rw [evA]; exact (Below.refl _ _).alloc (Nat.le_refl _) _)
              have kAvA : vA.heap[k10]? = some (.cells #[.int .i64 0, .int .i64 0, .int .i64 0, .int .i64 0, .int .i64 0, .int .i64 0] 90 (0, 0)) := (by rw [evA, ek10]; exact heap_alloc_new _ _)
              have lk10 : d0.heap.size ≤ k10 := (by rw [ek10]; exact bu5.size)
              have bvA := bt bu5 hB
              rw [← evA, ← ek10]
              clear evA ek10 hB
              refine hK.out _ _ (fun o => blk_cell (blk_below bvA kd0) o) (fun _ => ?_)
              clear hK K
              (try simp only [Act.put, List.setIfInBounds_toArray, List.set_cons_zero, List.set_cons_succ, List.getElem_toArray, List.getElem_cons_succ, List.getElem_cons_zero])
              refine wpAnyH_ready (rs := [7]) (by kernel_rfl) (by simp) ?_
              refine AllReadyH.cons rfl (fun K hK => ?_) AllReadyH.nil
              go_simp
              obtain ⟨vB, evB⟩ : ∃ v, v = vA.alloc (.cells #[.int .i64 0, .int .i64 0, .int .i64 0, .int .i64 0, .int .i64 0] 65) := ⟨_, rfl⟩
              obtain ⟨k11, ek11⟩ : ∃ v, v = vA.heap.size := ⟨_, rfl⟩
              have hB : Below vA.heap.size vA vB := (by rw [evB]; exact (Below.refl _ _).alloc (Nat.le_refl _) _)
              have kBvB : vB.heap[k11]? = some (.cells #[.int .i64 0, .int .i64 0, .int .i64 0, .int .i64 0, .int .i64 0] 65 (0, 0)) := (by rw [evB, ek11]; exact heap_alloc_new _ _)
              have lk11 : d0.heap.size ≤ k11 := (by rw [ek11]; exact bvA.size)
              have bvB := bt bvA hB
              have kAvB := heap_below kAvA hB
              have hne : k10 ≠ k11 := (by have := heap_lt kAvA; omega)
              rw [← evB, ← ek11]
              clear evB ek11 hB
              refine hK.out _ _ (fun o => blk_cell (blk_below bvB kd0) o) (fun _ => ?_)
              clear hK K
              (try simp only [Act.put, List.setIfInBounds_toArray, List.set_cons_zero, List.set_cons_succ, List.getElem_toArray, List.getElem_cons_succ, List.getElem_cons_zero])
              refine wpAnyH_ready (rs := [8]) (by kernel_rfl) (by simp) ?_
              refine AllReadyH.cons rfl (fun K hK => ?_) AllReadyH.nil
              refine wp_store_midH 90 (.tmp 10) (.tmp 34) k10 0 #[.int .i64 0, .int .i64 0, .int .i64 0, .int .i64 0, .int .i64 0, .int .i64 0] #[.int .i64 c0, .int .i64 c1, .int .i64 c2, .int .i64 c3, .int .i64 c4, .int .i64 c5] #[.int .i64 c0, .int .i64 c1, .int .i64 c2, .int .i64 c3, .int .i64 c4, .int .i64 c5] kAvB rfl rfl rfl (by simp) (by kernel_rfl) (by kernel_rfl) (by kernel_rfl) ?_
              intro tA kAtA sT BT zT
              have btA := BT _ _ lk10 bvB
              have kBtA := heap_same kBvB (Ne.symm hne) sT
              clear sT BT zT
              refine hK.out _ _ (fun o => blk_cell (blk_below btA kd0) o) (fun _ => ?_)
              clear hK K
              (try simp only [Act.put, List.setIfInBounds_toArray, List.set_cons_zero, List.set_cons_succ, List.getElem_toArray, List.getElem_cons_succ, List.getElem_cons_zero])
              refine wpAnyH_ready (rs := [9]) (by kernel_rfl) (by simp) ?_
              refine AllReadyH.cons rfl (fun K hK => ?_) AllReadyH.nil
              refine wp_store_midH 65 (.tmp 11) (.tmp 37) k11 0 #[.int .i64 0, .int .i64 0, .int .i64 0, .int .i64 0, .int .i64 0] #[.int .i64 n, .int .i64 su, .int .i64 le, .int .i64 gr, .int .i64 me] #[.int .i64 n, .int .i64 su, .int .i64 le, .int .i64 gr, .int .i64 me] kBtA rfl rfl rfl (by simp) (by kernel_rfl) (by kernel_rfl) (by kernel_rfl) ?_
              intro tB kBtB sT BT zT
              have btB := BT _ _ lk11 btA
              have kAtB := heap_same kAtA (hne) sT
              clear sT BT zT
              refine hK.out _ _ (fun o => blk_cell (blk_below btB kd0) o) (fun _ => ?_)
              clear hK K
              (try simp only [Act.put, List.setIfInBounds_toArray, List.set_cons_zero, List.set_cons_succ, List.getElem_toArray, List.getElem_cons_succ, List.getElem_cons_zero])
              refine wpAnyH_done (by kernel_rfl) ?_ _
              go_wp2
              go_meet
              case rel => exact ⟨k10, k11, rfl, rfl, Lib.hid ⟨kAtB, kBtB, FD.out.below btB hBw, Nat.lt_of_lt_of_le (heap_lt FD.out.box) lk11⟩⟩
            refine AllReadyH.cons rfl (fun K hK => ?_) AllReadyH.nil
            go_simp
            obtain ⟨vB, evB⟩ : ∃ v, v = u5.alloc (.cells #[.int .i64 0, .int .i64 0, .int .i64 0, .int .i64 0, .int .i64 0] 65) := ⟨_, rfl⟩
            obtain ⟨k11, ek11⟩ : ∃ v, v = u5.heap.size := ⟨_, rfl⟩
            have hB : Below u5.heap.size u5 vB := (by rw [evB]; exact (Below.refl _ _).alloc (Nat.le_refl _) _)
            have kBvB : vB.heap[k11]? = some (.cells #[.int .i64 0, .int .i64 0, .int .i64 0, .int .i64 0, .int .i64 0] 65 (0, 0)) := (by rw [evB, ek11]; exact heap_alloc_new _ _)
            have lk11 : d0.heap.size ≤ k11 := (by rw [ek11]; exact bu5.size)
            have bvB := bt bu5 hB
            rw [← evB, ← ek11]
            clear evB ek11 hB
            refine hK.out _ _ (fun o => blk_cell (blk_below bvB kd0) o) (fun _ => ?_)
            clear hK K
            (try simp only [Act.put, List.setIfInBounds_toArray, List.set_cons_zero, List.set_cons_succ, List.getElem_toArray, List.getElem_cons_succ, List.getElem_cons_zero])
            refine wpAnyH_ready (rs := [6]) (by kernel_rfl) (by simp) ?_
            refine AllReadyH.cons rfl (fun K hK => ?_) AllReadyH.nil
            go_simp
            obtain ⟨vA, evA⟩ : ∃ v, v = vB.alloc (.cells #[.int .i64 0, .int .i64 0, .int .i64 0, .int .i64 0, .int .i64 0, .int .i64 0] 90) := ⟨_, rfl⟩
            obtain ⟨k10, ek10⟩ : ∃ v, v = vB.heap.size := ⟨_, rfl⟩
            have hB : Below vB.heap.size vB vA := (by rw [evA]; exact (Below.refl _ _).alloc (Nat.le_refl _) _)
            have kAvA : vA.heap[k10]? = some (.cells #[.int .i64 0, .int .i64 0, .int .i64 0, .int .i64 0, .int .i64 0, .int .i64 0] 90 (0, 0)) := (by rw [evA, ek10]; exact heap_alloc_new _ _)
            have lk10 : d0.heap.size ≤ k10 := (by rw [ek10]; exact bvB.size)
            have bvA := bt bvB hB
            have kBvA := heap_below kBvB hB
            have hne : k10 ≠ k11 := (by have := heap_lt kBvB; omega)
            rw [← evA, ← ek10]
            clear evA ek10 hB
            refine hK.out _ _ (fun o => blk_cell (blk_below bvA kd0) o) (fun _ => ?_)
            clear hK K
            (try simp only [Act.put, List.setIfInBounds_toArray, List.set_cons_zero, List.set_cons_succ, List.getElem_toArray, List.getElem_cons_succ, List.getElem_cons_zero])
            refine wpAnyH_ready (rs := [8]) (by kernel_rfl) (by simp) ?_
            refine AllReadyH.cons rfl (fun K hK => ?_) AllReadyH.nil
            refine wp_store_midH 90 (.tmp 10) (.tmp 34) k10 0 #[.int .i64 0, .int .i64 0, .int .i64 0, .int .i64 0, .int .i64 0, .int .i64 0] #[.int .i64 c0, .int .i64 c1, .int .i64 c2, .int .i64 c3, .int .i64 c4, .int .i64 c5] #[.int .i64 c0, .int .i64 c1, .int .i64 c2, .int .i64 c3, .int .i64 c4, .int .i64 c5] kAvA rfl rfl rfl (by simp) (by kernel_rfl) (by kernel_rfl) (by kernel_rfl) ?_
            intro tA kAtA sT BT zT
            have btA := BT _ _ lk10 bvA
            have kBtA := heap_same kBvA (Ne.symm hne) sT
            clear sT BT zT
            refine hK.out _ _ (fun o => blk_cell (blk_below btA kd0) o) (fun _ => ?_)
            clear hK K
            (try simp only [Act.put, List.setIfInBounds_toArray, List.set_cons_zero, List.set_cons_succ, List.getElem_toArray, List.getElem_cons_succ, List.getElem_cons_zero])
            refine wpAnyH_ready (rs := [9]) (by kernel_rfl) (by simp) ?_
            refine AllReadyH.cons rfl (fun K hK => ?_) AllReadyH.nil
            refine wp_store_midH 65 (.tmp 11) (.tmp 37) k11 0 #[.int .i64 0, .int .i64 0, .int .i64 0, .int .i64 0, .int .i64 0] #[.int .i64 n, .int .i64 su, .int .i64 le, .int .i64 gr, .int .i64 me] #[.int .i64 n, .int .i64 su, .int .i64 le, .int .i64 gr, .int .i64 me] kBtA rfl rfl rfl (by simp) (by kernel_rfl) (by kernel_rfl) (by kernel_rfl) ?_
            intro tB kBtB sT BT zT
            have btB := BT _ _ lk11 btA
            have kAtB := heap_same kAtA (hne) sT
            clear sT BT zT
            refine hK.out _ _ (fun o => blk_cell (blk_below btB kd0) o) (fun _ => ?_)
            clear hK K
            (try simp only [Act.put, List.setIfInBounds_toArray, List.set_cons_zero, List.set_cons_succ, List.getElem_toArray, List.getElem_cons_succ, List.getElem_cons_zero])
            refine wpAnyH_done (by kernel_rfl) ?_ _
            go_wp2
            go_meet
            case rel => exact ⟨k10, k11, rfl, rfl, Lib.hid ⟨kAtB, kBtB, FD.out.below btB hBw, Nat.lt_of_lt_of_le (heap_lt FD.out.box) lk11⟩⟩
          refine AllReadyH.cons rfl (fun K hK => ?_) ?_
          · skip
            go_simp
            obtain ⟨vA, evA⟩ : ∃ v, v = u2.alloc (.cells #[.int .i64 0, .int .i64 0, .int .i64 0, .int .i64 0, .int .i64 0, .int .i64 0] 90) := ⟨_, rfl⟩
            obtain ⟨k10, ek10⟩ : ∃ v, v = u2.heap.size := ⟨_, rfl⟩
            have hB : Below u2.heap.size u2 vA := (by rw [evA]; exact (Below.refl _ _).alloc (Nat.le_refl _) _)
            have kAvA : vA.heap[k10]? = some (.cells #[.int .i64 0, .int .i64 0, .int .i64 0, .int .i64 0, .int .i64 0, .int .i64 0] 90 (0, 0)) := (by rw [evA, ek10]; exact heap_alloc_new _ _)
            have lk10 : d0.heap.size ≤ k10 := (by rw [ek10]; exact bu2.size)
            have bvA := bt bu2 hB
            rw [← evA, ← ek10]
            clear evA ek10 hB
            refine hK.out _ _ (fun o => blk_cell (blk_below bvA kd0) o) (fun _ => ?_)
            clear hK K
            (try simp only [Act.put, List.setIfInBounds_toArray, List.set_cons_zero, List.set_cons_succ, List.getElem_toArray, List.getElem_cons_succ, List.getElem_cons_zero])
            refine wpAnyH_ready (rs := [5, 7]) (by kernel_rfl) (by simp) ?_
            refine AllReadyH.cons rfl (fun K hK => ?_) ?_
            · skip
              go_simp
              go_at_call 40
              (with_reducible refine (G2.out _ (bt bT bvA)).mono ?_)
              rintro e u5 ⟨rfl, hB⟩
              (try go_wp2_with fail)
              have bu5 := bt bvA hB
              have kAu5 := heap_below kAvA hB
              clear hB
              refine hK.out _ _ (fun o => blk_cell (blk_below bu5 kd0) o) (fun _ => ?_)
              clear hK K
              (try simp only [Act.put, List.setIfInBounds_toArray, List.set_cons_zero, List.set_cons_succ, List.getElem_toArray, List.getElem_cons_succ, List.getElem_cons_zero])
              refine wpAnyH_ready (rs := [7]) (by kernel_rfl) (by simp) ?_
              refine AllReadyH.cons rfl (fun K hK => ?_) AllReadyH.nil
              go_simp
              obtain ⟨vB, evB⟩ : ∃ v, v = u5.alloc (.cells #[.int .i64 0, .int .i64 0, .int .i64 0, .int .i64 0, .int .i64 0] 65) := ⟨_, rfl⟩
              obtain ⟨k11, ek11⟩ : ∃ v, v = u5.heap.size := ⟨_, rfl⟩
              have hB : Below u5.heap.size u5 vB := (by rw [evB]; exact (Below.refl _ _).alloc (Nat.le_refl _) _)
              have kBvB : vB.heap[k11]? = some (.cells #[.int .i64 0, .int .i64 0, .int .i64 0, .int .i64 0, .int .i64 0] 65 (0, 0)) := (by rw [evB, ek11]; exact heap_alloc_new _ _)
              have lk11 : d0.heap.size ≤ k11 := (by rw [ek11]; exact bu5.size)
              have bvB := bt bu5 hB
              have kAvB := heap_below kAu5 hB
              have hne : k10 ≠ k11 := (by have := heap_lt kAu5; omega)
              rw [← evB, ← ek11]
              clear evB ek11 hB
              refine hK.out _ _ (fun o => blk_cell (blk_below bvB kd0) o) (fun _ => ?_)
              clear hK K
              (try simp only [Act.put, List.setIfInBounds_toArray, List.set_cons_zero, List.set_cons_succ, List.getElem_toArray, List.getElem_cons_succ, List.getElem_cons_zero])
              refine wpAnyH_ready (rs := [8]) (by kernel_rfl) (by simp) ?_
              refine AllReadyH.cons rfl (fun K hK => ?_) AllReadyH.nil
              refine wp_store_midH 90 (.tmp 10) (.tmp 34) k10 0 #[.int .i64 0, .int .i64 0, .int .i64 0, .int .i64 0, .int .i64 0, .int .i64 0] #[.int .i64 c0, .int .i64 c1, .int .i64 c2, .int .i64 c3, .int .i64 c4, .int .i64 c5] #[.int .i64 c0, .int .i64 c1, .int .i64 c2, .int .i64 c3, .int .i64 c4, .int .i64 c5] kAvB rfl rfl rfl (by simp) (by kernel_rfl) (by kernel_rfl) (by kernel_rfl) ?_
              intro tA kAtA sT BT zT
              have btA := BT _ _ lk10 bvB
              have kBtA := heap_same kBvB (Ne.symm hne) sT
              clear sT BT zT
              refine hK.out _ _ (fun o => blk_cell (blk_below btA kd0) o) (fun _ => ?_)
              clear hK K
              (try simp only [Act.put, List.setIfInBounds_toArray, List.set_cons_zero, List.set_cons_succ, List.getElem_toArray, List.getElem_cons_succ, List.getElem_cons_zero])
              refine wpAnyH_ready (rs := [9]) (by kernel_rfl) (by simp) ?_
              refine AllReadyH.cons rfl (fun K hK => ?_) AllReadyH.nil
              refine wp_store_midH 65 (.tmp 11) (.tmp 37) k11 0 #[.int .i64 0, .int .i64 0, .int .i64 0, .int .i64 0, .int .i64 0] #[.int .i64 n, .int .i64 su, .int .i64 le, .int .i64 gr, .int .i64 me] #[.int .i64 n, .int .i64 su, .int .i64 le, .int .i64 gr, .int .i64 me] kBtA rfl rfl rfl (by simp) (by kernel_rfl) (by kernel_rfl) (by kernel_rfl) ?_
              intro tB kBtB sT BT zT
              have btB := BT _ _ lk11 btA
              have kAtB := heap_same kAtA (hne) sT
              clear sT BT zT
              refine hK.out _ _ (fun o => blk_cell (blk_below btB kd0) o) (fun _ => ?_)
              clear hK K
              (try simp only [Act.put, List.setIfInBounds_toArray, List.set_cons_zero, List.set_cons_succ, List.getElem_toArray, List.getElem_cons_succ, List.getElem_cons_zero])
              refine wpAnyH_done (by kernel_rfl) ?_ _
              go_wp2
              go_meet
              case rel => exact ⟨k10, k11, rfl, rfl, Lib.hid ⟨kAtB, kBtB, FD.out.below btB hBw, Nat.lt_of_lt_of_le (heap_lt FD.out.box) lk11⟩⟩
            refine AllReadyH.cons rfl (fun K hK => ?_) AllReadyH.nil
            go_simp
            obtain ⟨vB, evB⟩ : ∃ v, v = vA.alloc (.cells #[.int .i64 0, .int .i64 0, .int .i64 0, .int .i64 0, .int .i64 0] 65) := ⟨_, rfl⟩
            obtain ⟨k11, ek11⟩ : ∃ v, v = vA.heap.size := ⟨_, rfl⟩
            have hB : Below vA.heap.size vA vB := (by rw [evB]; exact (Below.refl _ _).alloc (Nat.le_refl _) _)
            have kBvB : vB.heap[k11]? = some (.cells #[.int .i64 0, .int .i64 0, .int .i64 0, .int .i64 0, .int .i64 0] 65 (0, 0)) := (by rw [evB, ek11]; exact heap_alloc_new _ _)
            have lk11 : d0.heap.size ≤ k11 := (by rw [ek11]; exact bvA.size)
            have bvB := bt bvA hB
            have kAvB := heap_below kAvA hB
            have hne : k10 ≠ k11 := (by have := heap_lt kAvA; omega)
            rw [← evB, ← ek11]
            clear evB ek11 hB
            refine hK.out _ _ (fun o => blk_cell (blk_below bvB kd0) o) (fun _ => ?_)
            clear hK K
            (try simp only [Act.put, List.setIfInBounds_toArray, List.set_cons_zero, List.set_cons_succ, List.getElem_toArray, List.getElem_cons_succ, List.getElem_cons_zero])
            refine wpAnyH_ready (rs := [5]) (by kernel_rfl) (by simp) ?_
            refine AllReadyH.cons rfl (fun K hK => ?_) AllReadyH.nil
            go_simp
            go_at_call 40
            (with_reducible refine (G2.out _ (bt bT bvB)).mono ?_)
            rintro e u5 ⟨rfl, hB⟩
            (try go_wp2_with fail)
            have bu5 := bt bvB hB
            have kAu5 := heap_below kAvB hB
            have kBu5 := heap_below kBvB hB
            clear hB
            refine hK.out _ _ (fun o => blk_cell (blk_below bu5 kd0) o) (fun _ => ?_)
            clear hK K
            (try simp only [Act.put, List.setIfInBounds_toArray, List.set_cons_zero, List.set_cons_succ, List.getElem_toArray, List.getElem_cons_succ, List.getElem_cons_zero])
            refine wpAnyH_ready (rs := [8]) (by kernel_rfl) (by simp) ?_
            refine AllReadyH.cons rfl (fun K hK => ?_) AllReadyH.nil
            refine wp_store_midH 90 (.tmp 10) (.tmp 34) k10 0 #[.int .i64 0, .int .i64 0, .int .i64 0, .int .i64 0, .int .i64 0, .int .i64 0] #[.int .i64 c0, .int .i64 c1, .int .i64 c2, .int .i64 c3, .int .i64 c4, .int .i64 c5] #[.int .i64 c0, .int .i64 c1, .int .i64 c2, .int .i64 c3, .int .i64 c4, .int .i64 c5] kAu5 rfl rfl rfl (by simp) (by kernel_rfl) (by kernel_rfl) (by kernel_rfl) ?_
            intro tA kAtA sT BT zT
            have btA := BT _ _ lk10 bu5
            have kBtA := heap_same kBu5 (Ne.symm hne) sT
            clear sT BT zT
            refine hK.out _ _ (fun o => blk_cell (blk_below btA kd0) o) (fun _ => ?_)
            clear hK K
            (try simp only [Act.put, List.setIfInBounds_toArray, List.set_cons_zero, List.set_cons_succ, List.getElem_toArray, List.getElem_cons_succ, List.getElem_cons_zero])
            refine wpAnyH_ready (rs := [9]) (by kernel_rfl) (by simp) ?_
            refine AllReadyH.cons rfl (fun K hK => ?_) AllReadyH.nil
            refine wp_store_midH 65 (.tmp 11) (.tmp 37) k11 0 #[.int .i64 0, .int .i64 0, .int .i64 0, .int .i64 0, .int .i64 0] #[.int .i64 n, .int .i64 su, .int .i64 le, .int .i64 gr, .int .i64 me] #[.int .i64 n, .int .i64 su, .int .i64 le, .int .i64 gr, .int .i64 me] kBtA rfl rfl rfl (by simp) (by kernel_rfl) (by kernel_rfl) (by kernel_rfl) ?_
            intro tB kBtB sT BT zT
            have btB := BT _ _ lk11 btA
            have kAtB := heap_same kAtA (hne) sT
            clear sT BT zT
            refine hK.out _ _ (fun o => blk_cell (blk_below btB kd0) o) (fun _ => ?_)
            clear hK K
            (try simp only [Act.put, List.setIfInBounds_toArray, List.set_cons_zero, List.set_cons_succ, List.getElem_toArray, List.getElem_cons_succ, List.getElem_cons_zero])
            refine wpAnyH_done (by kernel_rfl) ?_ _
            go_wp2
            go_meet
            case rel => exact ⟨k10, k11, rfl, rfl, Lib.hid ⟨kAtB, kBtB, FD.out.below btB hBw, Nat.lt_of_lt_of_le (heap_lt FD.out.box) lk11⟩⟩
          refine AllReadyH.cons rfl (fun K hK => ?_) AllReadyH.nil
          go_simp
          obtain ⟨vB, evB⟩ : ∃ v, v = u2.alloc (.cells #[.int .i64 0, .int .i64 0, .int .i64 0, .int .i64 0, .int .i64 0] 65) := ⟨_, rfl⟩
          obtain ⟨k11, ek11⟩ : ∃ v, v = u2.heap.size := ⟨_, rfl⟩
          have hB : Below u2.heap.size u2 vB := (by rw [evB]; exact (Below.refl _ _).alloc (Nat.le_refl _) _)
          have kBvB : vB.heap[k11]? = some (.cells #[.int .i64 0, .int .i64 0, .int .i64 0, .int .i64 0, .int .i64 0] 65 (0, 0)) := (by rw [evB, ek11]; exact heap_alloc_new _ _)
          have lk11 : d0.heap.size ≤ k11 := (by rw [ek11]; exact bu2.size)
          have bvB := bt bu2 hB
          rw [← evB, ← ek11]
          clear evB ek11 hB
          refine hK.out _ _ (fun o => blk_cell (blk_below bvB kd0) o) (fun _ => ?_)
          clear hK K
          (try simp only [Act.put, List.setIfInBounds_toArray, List.set_cons_zero, List.set_cons_succ, List.getElem_toArray, List.getElem_cons_succ, List.getElem_cons_zero])
          refine wpAnyH_ready (rs := [5, 6]) (by kernel_rfl) (by simp) ?_
          refine AllReadyH.cons rfl (fun K hK => ?_) ?_
          · skip
            go_simp
            go_at_call 40
            (with_reducible refine (G2.out _ (bt bT bvB)).mono ?_)
            rintro e u5 ⟨rfl, hB⟩
            (try go_wp2_with fail)
            have bu5 := bt bvB hB
            have kBu5 := heap_below kBvB hB
            clear hB
            refine hK.out _ _ (fun o => blk_cell (blk_below bu5 kd0) o) (fun _ => ?_)
            clear hK K
            (try simp only [Act.put, List.setIfInBounds_toArray, List.set_cons_zero, List.set_cons_succ, List.getElem_toArray, List.getElem_cons_succ, List.getElem_cons_zero])
            refine wpAnyH_ready (rs := [6]) (by kernel_rfl) (by simp) ?_
            refine AllReadyH.cons rfl (fun K hK => ?_) AllReadyH.nil
            go_simp
            obtain ⟨vA, evA⟩ : ∃ v, v = u5.alloc (.cells #[.int .i64 0, .int .i64 0, .int .i64 0, .int .i64 0, .int .i64 0, .int .i64 0] 90) := ⟨_, rfl⟩
            obtain ⟨k10, ek10⟩ : ∃ v, v = u5.heap.size := ⟨_, rfl⟩
            have hB : Below u5.heap.size u5 vA := (by rw [evA]; exact (Below.refl _ _).alloc (Nat.le_refl _) _)
            have kAvA : vA.heap[k10]? = some (.cells #[.int .i64 0, .int .i64 0, .int .i64 0, .int .i64 0, .int .i64 0, .int .i64 0] 90 (0, 0)) := (by rw [evA, ek10]; exact heap_alloc_new _ _)
            have lk10 : d0.heap.size ≤ k10 := (by rw [ek10]; exact bu5.size)
            have bvA := bt bu5 hB
            have kBvA := heap_below kBu5 hB
            have hne : k10 ≠ k11 := (by have := heap_lt kBu5; omega)
            rw [← evA, ← ek10]
            clear evA ek10 hB
            refine hK.out _ _ (fun o => blk_cell (blk_below bvA kd0) o) (fun _ => ?_)
            clear hK K
            (try simp only [Act.put, List.setIfInBounds_toArray, List.set_cons_zero, List.set_cons_succ, List.getElem_toArray, List.getElem_cons_succ, List.getElem_cons_zero])
            refine wpAnyH_ready (rs := [8]) (by kernel_rfl) (by simp) ?_
            refine AllReadyH.cons rfl (fun K hK => ?_) AllReadyH.nil
            refine wp_store_midH 90 (.tmp 10) (.tmp 34) k10 0 #[.int .i64 0, .int .i64 0, .int .i64 0, .int .i64 0, .int .i64 0, .int .i64 0] #[.int .i64 c0, .int .i64 c1, .int .i64 c2, .int .i64 c3, .int .i64 c4, .int .i64 c5] #[.int .i64 c0, .int .i64 c1, .int .i64 c2, .int .i64 c3, .int .i64 c4, .int .i64 c5] kAvA rfl rfl rfl (by simp) (by kernel_rfl) (by kernel_rfl) (by kernel_rfl) ?_
            intro tA kAtA sT BT zT
            have btA := BT _ _ lk10 bvA
            have kBtA := heap_same kBvA (Ne.symm hne) sT
            clear sT BT zT
            refine hK.out _ _ (fun o => blk_cell (blk_below btA kd0) o) (fun _ => ?_)
            clear hK K
            (try simp only [Act.put, List.setIfInBounds_toArray, List.set_cons_zero, List.set_cons_succ, List.getElem_toArray, List.getElem_cons_succ, List.getElem_cons_zero])
            refine wpAnyH_ready (rs := [9]) (by kernel_rfl) (by simp) ?_
            refine AllReadyH.cons rfl (fun K hK => ?_) AllReadyH.nil
            refine wp_store_midH 65 (.tmp 11) (.tmp 37) k11 0 #[.int .i64 0, .int .i64 0, .int .i64 0, .int .i64 0, .int .i64 0] #[.int .i64 n, .int .i64 su, .int .i64 le, .int .i64 gr, .int .i64 me] #[.int .i64 n, .int .i64 su, .int .i64 le, .int .i64 gr, .int .i64 me] kBtA rfl rfl rfl (by simp) (by kernel_rfl) (by kernel_rfl) (by kernel_rfl) ?_
            intro tB kBtB sT BT zT
            have btB := BT _ _ lk11 btA
            have kAtB := heap_same kAtA (hne) sT
            clear sT BT zT
            refine hK.out _ _ (fun o => blk_cell (blk_below btB kd0) o) (fun _ => ?_)
            clear hK K
            (try simp only [Act.put, List.setIfInBounds_toArray, List.set_cons_zero, List.set_cons_succ, List.getElem_toArray, List.getElem_cons_succ, List.getElem_cons_zero])
            refine wpAnyH_done (by kernel_rfl) ?_ _
            go_wp2
            go_meet
            case rel => exact ⟨k10, k11, rfl, rfl, Lib.hid ⟨kAtB, kBtB, FD.out.below btB hBw, Nat.lt_of_lt_of_le (heap_lt FD.out.box) lk11⟩⟩
          refine AllReadyH.cons rfl (fun K hK => ?_) AllReadyH.nil
          go_simp
          obtain ⟨vA, evA⟩ : ∃ v, v = vB.alloc (.cells #[.int .i64 0, .int .i64 0, .int .i64 0, .int .i64 0, .int .i64 0, .int .i64 0] 90) := ⟨_, rfl⟩
          obtain ⟨k10, ek10⟩ : ∃ v, v = vB.heap.size := ⟨_, rfl⟩
          have hB : Below vB.heap.size vB vA := (by rw [evA]; exact (Below.refl _ _).alloc (Nat.le_refl _) _)
          have kAvA : vA.heap[k10]? = some (.cells #[.int .i64 0, .int .i64 0, .int .i64 0, .int .i64 0, .int .i64 0, .int .i64 0] 90 (0, 0)) := (by rw [evA, ek10]; exact heap_alloc_new _ _)
          have lk10 : d0.heap.size ≤ k10 := (by rw [ek10]; exact bvB.size)
          have bvA := bt bvB hB
          have kBvA := heap_below kBvB hB
          have hne : k10 ≠ k11 := (by have := heap_lt kBvB; omega)
          rw [← evA, ← ek10]
          clear evA ek10 hB
          refine hK.out _ _ (fun o => blk_cell (blk_below bvA kd0) o) (fun _ => ?_)
          clear hK K
          (try simp only [Act.put, List.setIfInBounds_toArray, List.set_cons_zero, List.set_cons_succ, List.getElem_toArray, List.getElem_cons_succ, List.getElem_cons_zero])
          refine wpAnyH_ready (rs := [5]) (by kernel_rfl) (by simp) ?_
          refine AllReadyH.cons rfl (fun K hK => ?_) AllReadyH.nil
          go_simp
          go_at_call 40
          (with_reducible refine (G2.out _ (bt bT bvA)).mono ?_)
          rintro e u5 ⟨rfl, hB⟩
          (try go_wp2_with fail)
          have bu5 := bt bvA hB
          have kAu5 := heap_below kAvA hB
          have kBu5 := heap_below kBvA hB
          clear hB
          refine hK.out _ _ (fun o => blk_cell (blk_below bu5 kd0) o) (fun _ => ?_)
          clear hK K
          (try simp only [Act.put, List.setIfInBounds_toArray, List.set_cons_zero, List.set_cons_succ, List.getElem_toArray, List.getElem_cons_succ, List.getElem_cons_zero])
          refine wpAnyH_ready (rs := [8]) (by kernel_rfl) (by simp) ?_
          refine AllReadyH.cons rfl (fun K hK => ?_) AllReadyH.nil
          refine wp_store_midH 90 (.tmp 10) (.tmp 34) k10 0 #[.int .i64 0, .int .i64 0, .int .i64 0, .int .i64 0, .int .i64 0, .int .i64 0] #[.int .i64 c0, .int .i64 c1, .int .i64 c2, .int .i64 c3, .int .i64 c4, .int .i64 c5] #[.int .i64 c0, .int .i64 c1, .int .i64 c2, .int .i64 c3, .int .i64 c4, .int .i64 c5] kAu5 rfl rfl rfl (by simp) (by kernel_rfl) (by kernel_rfl) (by kernel_rfl) ?_
          intro tA kAtA sT BT zT
          have btA := BT _ _ lk10 bu5
          have kBtA := heap_same kBu5 (Ne.symm hne) sT
          clear sT BT zT
          refine hK.out _ _ (fun o => blk_cell (blk_below btA kd0) o) (fun _ => ?_)
          clear hK K
          (try simp only [Act.put, List.setIfInBounds_toArray, List.set_cons_zero, List.set_cons_succ, List.getElem_toArray, List.getElem_cons_succ, List.getElem_cons_zero])
          refine wpAnyH_ready (rs := [9]) (by kernel_rfl) (by simp) ?_
          refine AllReadyH.cons rfl (fun K hK => ?_) AllReadyH.nil
          refine wp_store_midH 65 (.tmp 11) (.tmp 37) k11 0 #[.int .i64 0, .int .i64 0, .int .i64 0, .int .i64 0, .int .i64 0] #[.int .i64 n, .int .i64 su, .int .i64 le, .int .i64 gr, .int .i64 me] #[.int .i64 n, .int .i64 su, .int .i64 le, .int .i64 gr, .int .i64 me] kBtA rfl rfl rfl (by simp) (by kernel_rfl) (by kernel_rfl) (by kernel_rfl) ?_
          intro tB kBtB sT BT zT
          have btB := BT _ _ lk11 btA
          have kAtB := heap_same kAtA (hne) sT
          clear sT BT zT
          refine hK.out _ _ (fun o => blk_cell (blk_below btB kd0) o) (fun _ => ?_)
          clear hK K
          (try simp only [Act.put, List.setIfInBounds_toArray, List.set_cons_zero, List.set_cons_succ, List.getElem_toArray, List.getElem_cons_succ, List.getElem_cons_zero])
          refine wpAnyH_done (by kernel_rfl) ?_ _
          go_wp2
          go_meet
          case rel => exact ⟨k10, k11, rfl, rfl, Lib.hid ⟨kAtB, kBtB, FD.out.below btB hBw, Nat.lt_of_lt_of_le (heap_lt FD.out.box) lk11⟩⟩
        refine AllReadyH.cons rfl (fun K hK => ?_) ?_
        · skip
          go_simp
          obtain ⟨vA, evA⟩ : ∃ v, v = d0.alloc (.cells #[.int .i64 0, .int .i64 0, .int .i64 0, .int .i64 0, .int .i64 0, .int .i64 0] 90) := ⟨_, rfl⟩
          obtain ⟨k10, ek10⟩ : ∃ v, v = d0.heap.size := ⟨_, rfl⟩
          have hB : Below d0.heap.size d0 vA := (by rw [evA]; exact (Below.refl _ _).alloc (Nat.le_refl _) _)
          have kAvA : vA.heap[k10]? = some (.cells #[.int .i64 0, .int .i64 0, .int .i64 0, .int .i64 0, .int .i64 0, .int .i64 0] 90 (0, 0)) := (by rw [evA, ek10]; exact heap_alloc_new _ _)
          have lk10 : d0.heap.size ≤ k10 := (by rw [ek10]; exact bd0.size)
          have bvA := bt bd0 hB
          rw [← evA, ← ek10]
          clear evA ek10 hB
          refine hK.out _ _ (fun o => blk_cell (blk_below bvA kd0) o) (fun _ => ?_)
          clear hK K
          (try simp only [Act.put, List.setIfInBounds_toArray, List.set_cons_zero, List.set_cons_succ, List.getElem_toArray, List.getElem_cons_succ, List.getElem_cons_zero])
          refine wpAnyH_ready (rs := [2, 7]) (by kernel_rfl) (by simp) ?_
          refine AllReadyH.cons rfl (fun K hK => ?_) ?_
          · skip
            go_simp
            go_at_call 39
            (with_reducible refine (G1.out _ (bt bT bvA)).mono ?_)
            rintro e u2 ⟨rfl, hB⟩
            (try go_wp2_with fail)
            have bu2 := bt bvA hB
            have kAu2 := heap_below kAvA hB
            clear hB
            refine hK.out _ _ (fun o => blk_cell (blk_below bu2 kd0) o) (fun _ => ?_)
            clear hK K
            (try simp only [Act.put, List.setIfInBounds_toArray, List.set_cons_zero, List.set_cons_succ, List.getElem_toArray, List.getElem_cons_succ, List.getElem_cons_zero])
            refine wpAnyH_ready (rs := [5, 7]) (by kernel_rfl) (by simp) ?_
            refine AllReadyH.cons rfl (fun K hK => ?_) ?_
            · skip
              go_simp
              go_at_call 40
              (with_reducible refine (G2.out _ (bt bT bu2)).mono ?_)
              rintro e u5 ⟨rfl, hB⟩
              (try go_wp2_with fail)
              have bu5 := bt bu2 hB
              have kAu5 := heap_below kAu2 hB
              clear hB
              refine hK.out _ _ (fun o => blk_cell (blk_below bu5 kd0) o) (fun _ => ?_)
              clear hK K
              (try simp only [Act.put, List.setIfInBounds_toArray, List.set_cons_zero, List.set_cons_succ, List.getElem_toArray, List.getElem_cons_succ, List.getElem_cons_zero])
              refine wpAnyH_ready (rs := [7]) (by kernel_rfl) (by simp) ?_
              refine AllReadyH.cons rfl (fun K hK => ?_) AllReadyH.nil
              go_simp
              obtain ⟨vB, evB⟩ : ∃ v, v = u5.alloc (.cells #[.int .i64 0, .int .i64 0, .int .i64 0, .int .i64 0, .int .i64 0] 65) := ⟨_, rfl⟩
              obtain ⟨k11, ek11⟩ : ∃ v, v = u5.heap.size := ⟨_, rfl⟩
              have hB : Below u5.heap.size u5 vB := (by rw [evB]; exact (Below.refl _ _).alloc (Nat.le_refl _) _)
              have kBvB : vB.heap[k11]? = some (.cells #[.int .i64 0, .int .i64 0, .int .i64 0, .int .i64 0, .int .i64 0] 65 (0, 0)) := (by rw [evB, ek11]; exact heap_alloc_new _ _)
              have lk11 : d0.heap.size ≤ k11 := (by rw [ek11]; exact bu5.size)
              have bvB := bt bu5 hB
              have kAvB := heap_below kAu5 hB
              have hne : k10 ≠ k11 := (by have := heap_lt kAu5; omega)
              rw [← evB, ← ek11]
              clear evB ek11 hB
              refine hK.out _ _ (fun o => blk_cell (blk_below bvB kd0) o) (fun _ => ?_)
              clear hK K
              (try simp only [Act.put, List.setIfInBounds_toArray, List.set_cons_zero, List.set_cons_succ, List.getElem_toArray, List.getElem_cons_succ, List.getElem_cons_zero])
              refine wpAnyH_ready (rs := [8]) (by kernel_rfl) (by simp) ?_
              refine AllReadyH.cons rfl (fun K hK => ?_) AllReadyH.nil
              refine wp_store_midH 90 (.tmp 10) (.tmp 34) k10 0 #[.int .i64 0, .int .i64 0, .int .i64 0, .int .i64 0, .int .i64 0, .int .i64 0] #[.int .i64 c0, .int .i64 c1, .int .i64 c2, .int .i64 c3, .int .i64 c4, .int .i64 c5] #[.int .i64 c0, .int .i64 c1, .int .i64 c2, .int .i64 c3, .int .i64 c4, .int .i64 c5] kAvB rfl rfl rfl (by simp) (by kernel_rfl) (by kernel_rfl) (by kernel_rfl) ?_
              intro tA kAtA sT BT zT
              have btA := BT _ _ lk10 bvB
              have kBtA := heap_same kBvB (Ne.symm hne) sT
              clear sT BT zT
              refine hK.out _ _ (fun o => blk_cell (blk_below btA kd0) o) (fun _ => ?_)
              clear hK K
              (try simp only [Act.put, List.setIfInBounds_toArray, List.set_cons_zero, List.set_cons_succ, List.getElem_toArray, List.getElem_cons_succ, List.getElem_cons_zero])
              refine wpAnyH_ready (rs := [9]) (by kernel_rfl) (by simp) ?_
              refine AllReadyH.cons rfl (fun K hK => ?_) AllReadyH.nil
              refine wp_store_midH 65 (.tmp 11) (.tmp 37) k11 0 #[.int .i64 0, .int .i64 0, .int .i64 0, .int .i64 0, .int .i64 0] #[.int .i64 n, .int .i64 su, .int .i64 le, .int .i64 gr, .int .i64 me] #[.int .i64 n, .int .i64 su, .int .i64 le, .int .i64 gr, .int .i64 me] kBtA rfl rfl rfl (by simp) (by kernel_rfl) (by kernel_rfl) (by kernel_rfl) ?_
              intro tB kBtB sT BT zT
              have btB := BT _ _ lk11 btA
              have kAtB := heap_same kAtA (hne) sT
              clear sT BT zT
              refine hK.out _ _ (fun o => blk_cell (blk_below btB kd0) o) (fun _ => ?_)
              clear hK K
              (try simp only [Act.put, List.setIfInBounds_toArray, List.set_cons_zero, List.set_cons_succ, List.getElem_toArray, List.getElem_cons_succ, List.getElem_cons_zero])
              refine wpAnyH_done (by kernel_rfl) ?_ _
              go_wp2
              go_meet
              case rel => exact ⟨k10, k11, rfl, rfl, Lib.hid ⟨kAtB, kBtB, FD.out.below btB hBw, Nat.lt_of_lt_of_le (heap_lt FD.out.box) lk11⟩⟩
            refine AllReadyH.cons rfl (fun K hK => ?_) AllReadyH.nil
            go_simp
            obtain ⟨vB, evB⟩ : ∃ v, v = u2.alloc (.cells #[.int .i64 0, .int .i64 0, .int .i64 0, .int .i64 0, .int .i64 0] 65) := ⟨_, rfl⟩
            obtain ⟨k11, ek11⟩ : ∃ v, v = u2.heap.size := ⟨_, rfl⟩
            have hB : Below u2.heap.size u2 vB := (by rw [evB]; exact (Below.refl _ _).alloc (Nat.le_refl _) _)
            have kBvB : vB.heap[k11]? = some (.cells #[.int .i64 0, .int .i64 0, .int .i64 0, .int .i64 0, .int .i64 0] 65 (0, 0)) := (by rw [evB, ek11]; exact heap_alloc_new _ _)
            have lk11 : d0.heap.size ≤ k11 := (by rw [ek11]; exact bu2.size)
            have bvB := bt bu2 hB
            have kAvB := heap_below kAu2 hB
            have hne : k10 ≠ k11 := (by have := heap_lt kAu2; omega)
            rw [← evB, ← ek11]
            clear evB ek11 hB
            refine hK.out _ _ (fun o => blk_cell (blk_below bvB kd0) o) (fun _ => ?_)
            clear hK K
            (try simp only [Act.put, List.setIfInBounds_toArray, List.set_cons_zero, List.set_cons_succ, List.getElem_toArray, List.getElem_cons_succ, List.getElem_cons_zero])
            refine wpAnyH_ready (rs := [5]) (by kernel_rfl) (by simp) ?_
            refine AllReadyH.cons rfl (fun K hK => ?_) AllReadyH.nil
            go_simp
            go_at_call 40
            (with_reducible refine (G2.out _ (bt bT bvB)).mono ?_)
            rintro e u5 ⟨rfl, hB⟩
            (try go_wp2_with fail)
            have bu5 := bt bvB hB
            have kAu5 := heap_below kAvB hB
            have kBu5 := heap_below kBvB hB
            clear hB
            refine hK.out _ _ (fun o => blk_cell (blk_below bu5 kd0) o) (fun _ => ?_)
            clear hK K
            (try simp only [Act.put, List.setIfInBounds_toArray, List.set_cons_zero, List.set_cons_succ, List.getElem_toArray, List.getElem_cons_succ, List.getElem_cons_zero])
            refine wpAnyH_ready (rs := [8]) (by kernel_rfl) (by simp) ?_
            refine AllReadyH.cons rfl (fun K hK => ?_) AllReadyH.nil
            refine wp_store_midH 90 (.tmp 10) (.tmp 34) k10 0 #[.int .i64 0, .int .i64 0, .int .i64 0, .int .i64 0, .int .i64 0, .int .i64 0] #[.int .i64 c0, .int .i64 c1, .int .i64 c2, .int .i64 c3, .int .i64 c4, .int .i64 c5] #[.int .i64 c0, .int .i64 c1, .int .i64 c2, .int .i64 c3, .int .i64 c4, .int .i64 c5] kAu5 rfl rfl rfl (by simp) (by kernel_rfl) (by kernel_rfl) (by kernel_rfl) ?_
            intro tA kAtA sT BT zT
            have btA := BT _ _ lk10 bu5
            have kBtA := heap_same kBu5 (Ne.symm hne) sT
            clear sT BT zT
            refine hK.out _ _ (fun o => blk_cell (blk_below btA kd0) o) (fun _ => ?_)
            clear hK K
            (try simp only [Act.put, List.setIfInBounds_toArray, List.set_cons_zero, List.set_cons_succ, List.getElem_toArray, List.getElem_cons_succ, List.getElem_cons_zero])
            refine wpAnyH_ready (rs := [9]) (by kernel_rfl) (by simp) ?_
            refine AllReadyH.cons rfl (fun K hK => ?_) AllReadyH.nil
            refine wp_store_midH 65 (.tmp 11) (.tmp 37) k11 0 #[.int .i64 0, .int .i64 0, .int .i64 0, .int .i64 0, .int .i64 0] #[.int .i64 n, .int .i64 su, .int .i64 le, .int .i64 gr, .int .i64 me] #[.int .i64 n, .int .i64 su, .int .i64 le, .int .i64 gr, .int .i64 me] kBtA rfl rfl rfl (by simp) (by kernel_rfl) (by kernel_rfl) (by kernel_rfl) ?_
            intro tB kBtB sT BT zT
            have btB := BT _ _ lk11 btA
            have kAtB := heap_same kAtA (hne) sT
            clear sT BT zT
            refine hK.out _ _ (fun o => blk_cell (blk_below btB kd0) o) (fun _ => ?_)
            clear hK K
            (try simp only [Act.put, List.setIfInBounds_toArray, List.set_cons_zero, List.set_cons_succ, List.getElem_toArray, List.getElem_cons_succ, List.getElem_cons_zero])
            refine wpAnyH_done (by kernel_rfl) ?_ _
            go_wp2
            go_meet
            case rel => exact ⟨k10, k11, rfl, rfl, Lib.hid ⟨kAtB, kBtB, FD.out.below btB hBw, Nat.lt_of_lt_of_le (heap_lt FD.out.box) lk11⟩⟩
          refine AllReadyH.cons rfl (fun K hK => ?_) AllReadyH.nil
          go_simp
          obtain ⟨vB, evB⟩ : ∃ v, v = vA.alloc (.cells #[.int .i64 0, .int .i64 0, .int .i64 0, .int .i64 0, .int .i64 0] 65) := ⟨_, rfl⟩
          obtain ⟨k11, ek11⟩ : ∃ v, v = vA.heap.size := ⟨_, rfl⟩
          have hB : Below vA.heap.size vA vB := (by rw [evB]; exact (Below.refl _ _).alloc (Nat.le_refl _) _)
          have kBvB : vB.heap[k11]? = some (.cells #[.int .i64 0, .int .i64 0, .int .i64 0, .int .i64 0, .int .i64 0] 65 (0, 0)) := (by rw [evB, ek11]; exact heap_alloc_new _ _)
          have lk11 : d0.heap.size ≤ k11 := (by rw [ek11]; exact bvA.size)
          have bvB := bt bvA hB
          have kAvB := heap_below kAvA hB
          have hne : k10 ≠ k11 := (by have := heap_lt kAvA; omega)
          rw [← evB, ← ek11]
          clear evB ek11 hB
          refine hK.out _ _ (fun o => blk_cell (blk_below bvB kd0) o) (fun _ => ?_)
          clear hK K
          (try simp only [Act.put, List.setIfInBounds_toArray, List.set_cons_zero, List.set_cons_succ, List.getElem_toArray, List.getElem_cons_succ, List.getElem_cons_zero])
          refine wpAnyH_ready (rs := [2]) (by kernel_rfl) (by simp) ?_
          refine AllReadyH.cons rfl (fun K hK => ?_) AllReadyH.nil
          go_simp
          go_at_call 39
          (with_reducible refine (G1.out _ (bt bT bvB)).mono ?_)
          rintro e u2 ⟨rfl, hB⟩
          (try go_wp2_with fail)
          have bu2 := bt bvB hB
          have kAu2 := heap_below kAvB hB
          have kBu2 := heap_below kBvB hB
          clear hB
          refine hK.out _ _ (fun o => blk_cell (blk_below bu2 kd0) o) (fun _ => ?_)
          clear hK K
          (try simp only [Act.put, List.setIfInBounds_toArray, List.set_cons_zero, List.set_cons_succ, List.getElem_toArray, List.getElem_cons_succ, List.getElem_cons_zero])
          refine wpAnyH_ready (rs := [5]) (by kernel_rfl) (by simp) ?_
          refine AllReadyH.cons rfl (fun K hK => ?_) AllReadyH.nil
          go_simp
          go_at_call 40
          (with_reducible refine (G2.out _ (bt bT bu2)).mono ?_)
          rintro e u5 ⟨rfl, hB⟩
          (try go_wp2_with fail)
          have bu5 := bt bu2 hB
          have kAu5 := heap_below kAu2 hB
          have kBu5 := heap_below kBu2 hB
          clear hB
          refine hK.out _ _ (fun o => blk_cell (blk_below bu5 kd0) o) (fun _ => ?_)
          clear hK K
          (try simp only [Act.put, List.setIfInBounds_toArray, List.set_cons_zero, List.set_cons_succ, List.getElem_toArray, List.getElem_cons_succ, List.getElem_cons_zero])
          refine wpAnyH_ready (rs := [8]) (by kernel_rfl) (by simp) ?_
          refine AllReadyH.cons rfl (fun K hK => ?_) AllReadyH.nil
          refine wp_store_midH 90 (.tmp 10) (.tmp 34) k10 0 #[.int .i64 0, .int .i64 0, .int .i64 0, .int .i64 0, .int .i64 0, .int .i64 0] #[.int .i64 c0, .int .i64 c1, .int .i64 c2, .int .i64 c3, .int .i64 c4, .int .i64 c5] #[.int .i64 c0, .int .i64 c1, .int .i64 c2, .int .i64 c3, .int .i64 c4, .int .i64 c5] kAu5 rfl rfl rfl (by simp) (by kernel_rfl) (by kernel_rfl) (by kernel_rfl) ?_
          intro tA kAtA sT BT zT
          have btA := BT _ _ lk10 bu5
          have kBtA := heap_same kBu5 (Ne.symm hne) sT
          clear sT BT zT
          refine hK.out _ _ (fun o => blk_cell (blk_below btA kd0) o) (fun _ => ?_)
          clear hK K
          (try simp only [Act.put, List.setIfInBounds_toArray, List.set_cons_zero, List.set_cons_succ, List.getElem_toArray, List.getElem_cons_succ, List.getElem_cons_zero])
          refine wpAnyH_ready (rs := [9]) (by kernel_rfl) (by simp) ?_
          refine AllReadyH.cons rfl (fun K hK => ?_) AllReadyH.nil
          refine wp_store_midH 65 (.tmp 11) (.tmp 37) k11 0 #[.int .i64 0, .int .i64 0, .int .i64 0, .int .i64 0, .int .i64 0] #[.int .i64 n, .int .i64 su, .int .i64 le, .int .i64 gr, .int .i64 me] #[.int .i64 n, .int .i64 su, .int .i64 le, .int .i64 gr, .int .i64 me] kBtA rfl rfl rfl (by simp) (by kernel_rfl) (by kernel_rfl) (by kernel_rfl) ?_
          intro tB kBtB sT BT zT
          have btB := BT _ _ lk11 btA
          have kAtB := heap_same kAtA (hne) sT
          clear sT BT zT
          refine hK.out _ _ (fun o => blk_cell (blk_below btB kd0) o) (fun _ => ?_)
          clear hK K
          (try simp only [Act.put, List.setIfInBounds_toArray, List.set_cons_zero, List.set_cons_succ, List.getElem_toArray, List.getElem_cons_succ, List.getElem_cons_zero])
          refine wpAnyH_done (by kernel_rfl) ?_ _
          go_wp2
          go_meet
          case rel => exact ⟨k10, k11, rfl, rfl, Lib.hid ⟨kAtB, kBtB, FD.out.below btB hBw, Nat.lt_of_lt_of_le (heap_lt FD.out.box) lk11⟩⟩
        refine AllReadyH.cons rfl (fun K hK => ?_) AllReadyH.nil
        go_simp
        obtain ⟨vB, evB⟩ : ∃ v, v = d0.alloc (.cells #[.int .i64 0, .int .i64 0, .int .i64 0, .int .i64 0, .int .i64 0] 65) := ⟨_, rfl⟩
        obtain ⟨k11, ek11⟩ : ∃ v, v = d0.heap.size := ⟨_, rfl⟩
        have hB : Below d0.heap.size d0 vB := (by rw [evB]; exact (Below.refl _ _).alloc (Nat.le_refl _) _)
        have kBvB : vB.heap[k11]? = some (.cells #[.int .i64 0, .int .i64 0, .int .i64 0, .int .i64 0, .int .i64 0] 65 (0, 0)) := (by rw [evB, ek11]; exact heap_alloc_new _ _)
        have lk11 : d0.heap.size ≤ k11 := (by rw [ek11]; exact bd0.size)
        have bvB := bt bd0 hB
        rw [← evB, ← ek11]
        clear evB ek11 hB
        refine hK.out _ _ (fun o => blk_cell (blk_below bvB kd0) o) (fun _ => ?_)
        clear hK K
        (try simp only [Act.put, List.setIfInBounds_toArray, List.set_cons_zero, List.set_cons_succ, List.getElem_toArray, List.getElem_cons_succ, List.getElem_cons_zero])
        refine wpAnyH_ready (rs := [2, 6]) (by kernel_rfl) (by simp) ?_
        refine AllReadyH.cons rfl (fun K hK => ?_) ?_
        · skip
          go_simp
          go_at_call 39
          (with_reducible refine (G1.out _ (bt bT bvB)).mono ?_)
          rintro e u2 ⟨rfl, hB⟩
          (try go_wp2_with fail)
          have bu2 := bt bvB hB
          have kBu2 := heap_below kBvB hB
          clear hB
          refine hK.out _ _ (fun o => blk_cell (blk_below bu2 kd0) o) (fun _ => ?_)
          clear hK K
          (try simp only [Act.put, List.setIfInBounds_toArray, List.set_cons_zero, List.set_cons_succ, List.getElem_toArray, List.getElem_cons_succ, List.getElem_cons_zero])
          refine wpAnyH_ready (rs := [5, 6]) (by kernel_rfl) (by simp) ?_
          refine AllReadyH.cons rfl (fun K hK => ?_) ?_
          · skip
            go_simp
            go_at_call 40
            (with_reducible refine (G2.out _ (bt bT bu2)).mono ?_)
            rintro e u5 ⟨rfl, hB⟩
            (try go_wp2_with fail)
            have bu5 := bt bu2 hB
            have kBu5 := heap_below kBu2 hB
            clear hB
            refine hK.out _ _ (fun o => blk_cell (blk_below bu5 kd0) o) (fun _ => ?_)
            clear hK K
            (try simp only [Act.put, List.setIfInBounds_toArray, List.set_cons_zero, List.set_cons_succ, List.getElem_toArray, List.getElem_cons_succ, List.getElem_cons_zero])
            refine wpAnyH_ready (rs := [6]) (by kernel_rfl) (by simp) ?_
            refine AllReadyH.cons rfl (fun K hK => ?_) AllReadyH.nil
            go_simp
            obtain ⟨vA, evA⟩ : ∃ v, v = u5.alloc (.cells #[.int .i64 0, .int .i64 0, .int .i64 0, .int .i64 0, .int .i64 0, .int .i64 0] 90) := ⟨_, rfl⟩
            obtain ⟨k10, ek10⟩ : ∃ v, v = u5.heap.size := ⟨_, rfl⟩
            have hB : Below u5.heap.size u5 vA := (by rw [evA]; exact (Below.refl _ _).alloc (Nat.le_refl _) _)
            have kAvA : vA.heap[k10]? = some (.cells #[.int .i64 0, .int .i64 0, .int .i64 0, .int .i64 0, .int .i64 0, .int .i64 0] 90 (0, 0)) := (by rw [evA, ek10]; exact heap_alloc_new _ _)
            have lk10 : d0.heap.size ≤ k10 := (by rw [ek10]; exact bu5.size)
            have bvA := bt bu5 hB
            have kBvA := heap_below kBu5 hB
            have hne : k10 ≠ k11 := (by have := heap_lt kBu5; omega)
            rw [← evA, ← ek10]
            clear evA ek10 hB
            refine hK.out _ _ (fun o => blk_cell (blk_below bvA kd0) o) (fun _ => ?_)
            clear hK K
            (try simp only [Act.put, List.setIfInBounds_toArray, List.set_cons_zero, List.set_cons_succ, List.getElem_toArray, List.getElem_cons_succ, List.getElem_cons_zero])
            refine wpAnyH_ready (rs := [8]) (by kernel_rfl) (by simp) ?_
            refine AllReadyH.cons rfl (fun K hK => ?_) AllReadyH.nil
            refine wp_store_midH 90 (.tmp 10) (.tmp 34) k10 0 #[.int .i64 0, .int .i64 0, .int .i64 0, .int .i64 0, .int .i64 0, .int .i64 0] #[.int .i64 c0, .int .i64 c1, .int .i64 c2, .int .i64 c3, .int .i64 c4, .int .i64 c5] #[.int .i64 c0, .int .i64 c1, .int .i64 c2, .int .i64 c3, .int .i64 c4, .int .i64 c5] kAvA rfl rfl rfl (by simp) (by kernel_rfl) (by kernel_rfl) (by kernel_rfl) ?_
            intro tA kAtA sT BT zT
            have btA := BT _ _ lk10 bvA
            have kBtA := heap_same kBvA (Ne.symm hne) sT
            clear sT BT zT
            refine hK.out _ _ (fun o => blk_cell (blk_below btA kd0) o) (fun _ => ?_)
            clear hK K
            (try simp only [Act.put, List.setIfInBounds_toArray, List.set_cons_zero, List.set_cons_succ, List.getElem_toArray, List.getElem_cons_succ, List.getElem_cons_zero])
            refine wpAnyH_ready (rs := [9]) (by kernel_rfl) (by simp) ?_
            refine AllReadyH.cons rfl (fun K hK => ?_) AllReadyH.nil
            refine wp_store_midH 65 (.tmp 11) (.tmp 37) k11 0 #[.int .i64 0, .int .i64 0, .int .i64 0, .int .i64 0, .int .i64 0] #[.int .i64 n, .int .i64 su, .int .i64 le, .int .i64 gr, .int .i64 me] #[.int .i64 n, .int .i64 su, .int .i64 le, .int .i64 gr, .int .i64 me] kBtA rfl rfl rfl (by simp) (by kernel_rfl) (by kernel_rfl) (by kernel_rfl) ?_
            intro tB kBtB sT BT zT
            have btB := BT _ _ lk11 btA
            have kAtB := heap_same kAtA (hne) sT
            clear sT BT zT
            refine hK.out _ _ (fun o => blk_cell (blk_below btB kd0) o) (fun _ => ?_)
            clear hK K
            (try simp only [Act.put, List.setIfInBounds_toArray, List.set_cons_zero, List.set_cons_succ, List.getElem_toArray, List.getElem_cons_succ, List.getElem_cons_zero])
            refine wpAnyH_done (by kernel_rfl) ?_ _
            go_wp2
            go_meet
            case rel => exact ⟨k10, k11, rfl, rfl, Lib.hid ⟨kAtB, kBtB, FD.out.below btB hBw, Nat.lt_of_lt_of_le (heap_lt FD.out.box) lk11⟩⟩
          refine AllReadyH.cons rfl (fun K hK => ?_) AllReadyH.nil
          go_simp
          obtain ⟨vA, evA⟩ : ∃ v, v = u2.alloc (.cells #[.int .i64 0, .int .i64 0, .int .i64 0, .int .i64 0, .int .i64 0, .int .i64 0] 90) := ⟨_, rfl⟩
          obtain ⟨k10, ek10⟩ : ∃ v, v = u2.heap.size := ⟨_, rfl⟩
          have hB : Below u2.heap.size u2 vA := (by rw [evA]; exact (Below.refl _ _).alloc (Nat.le_refl _) _)
          have kAvA : vA.heap[k10]? = some (.cells #[.int .i64 0, .int .i64 0, .int .i64 0, .int .i64 0, .int .i64 0, .int .i64 0] 90 (0, 0)) := (by rw [evA, ek10]; exact heap_alloc_new _ _)
          have lk10 : d0.heap.size ≤ k10 := (by rw [ek10]; exact bu2.size)
          have bvA := bt bu2 hB
          have kBvA := heap_below kBu2 hB
          have hne : k10 ≠ k11 := (by have := heap_lt kBu2; omega)
          rw [← evA, ← ek10]
          clear evA ek10 hB
          refine hK.out _ _ (fun o => blk_cell (blk_below bvA kd0) o) (fun _ => ?_)
          clear hK K
          (try simp only [Act.put, List.setIfInBounds_toArray, List.set_cons_zero, List.set_cons_succ, List.getElem_toArray, List.getElem_cons_succ, List.getElem_cons_zero])
          refine wpAnyH_ready (rs := [5]) (by kernel_rfl) (by simp) ?_
          refine AllReadyH.cons rfl (fun K hK => ?_) AllReadyH.nil
          go_simp
          go_at_call 40
          (with_reducible refine (G2.out _ (bt bT bvA)).mono ?_)
          rintro e u5 ⟨rfl, hB⟩
          (try go_wp2_with fail)
          have bu5 := bt bvA hB
          have kAu5 := heap_below kAvA hB
          have kBu5 := heap_below kBvA hB
          clear hB
          refine hK.out _ _ (fun o => blk_cell (blk_below bu5 kd0) o) (fun _ => ?_)
          clear hK K
          (try simp only [Act.put, List.setIfInBounds_toArray, List.set_cons_zero, List.set_cons_succ, List.getElem_toArray, List.getElem_cons_succ, List.getElem_cons_zero])
          refine wpAnyH_ready (rs := [8]) (by kernel_rfl) (by simp) ?_
          refine AllReadyH.cons rfl (fun K hK => ?_) AllReadyH.nil
          refine wp_store_midH 90 (.tmp 10) (.tmp 34) k10 0 #[.int .i64 0, .int .i64 0, .int .i64 0, .int .i64 0, .int .i64 0, .int .i64 0] #[.int .i64 c0, .int .i64 c1, .int .i64 c2, .int .i64 c3, .int .i64 c4, .int .i64 c5] #[.int .i64 c0, .int .i64 c1, .int .i64 c2, .int .i64 c3, .int .i64 c4, .int .i64 c5] kAu5 rfl rfl rfl (by simp) (by kernel_rfl) (by kernel_rfl) (by kernel_rfl) ?_
          intro tA kAtA sT BT zT
          have btA := BT _ _ lk10 bu5
          have kBtA := heap_same kBu5 (Ne.symm hne) sT
          clear sT BT zT
          refine hK.out _ _ (fun o => blk_cell (blk_below btA kd0) o) (fun _ => ?_)
          clear hK K
          (try simp only [Act.put, List.setIfInBounds_toArray, List.set_cons_zero, List.set_cons_succ, List.getElem_toArray, List.getElem_cons_succ, List.getElem_cons_zero])
          refine wpAnyH_ready (rs := [9]) (by kernel_rfl) (by simp) ?_
          refine AllReadyH.cons rfl (fun K hK => ?_) AllReadyH.nil
          refine wp_store_midH 65 (.tmp 11) (.tmp 37) k11 0 #[.int .i64 0, .int .i64 0, .int .i64 0, .int .i64 0, .int .i64 0] #[.int .i64 n, .int .i64 su, .int .i64 le, .int .i64 gr, .int .i64 me] #[.int .i64 n, .int .i64 su, .int .i64 le, .int .i64 gr, .int .i64 me] kBtA rfl rfl rfl (by simp) (by kernel_rfl) (by kernel_rfl) (by kernel_rfl) ?_
          intro tB kBtB sT BT zT
          have btB := BT _ _ lk11 btA
          have kAtB := heap_same kAtA (hne) sT
          clear sT BT zT
          refine hK.out _ _ (fun o => blk_cell (blk_below btB kd0) o) (fun _ => ?_)
          clear hK K
          (try simp only [Act.put, List.setIfInBounds_toArray, List.set_cons_zero, List.set_cons_succ, List.getElem_toArray, List.getElem_cons_succ, List.getElem_cons_zero])
          refine wpAnyH_done (by kernel_rfl) ?_ _
          go_wp2
          go_meet
          case rel => exact ⟨k10, k11, rfl, rfl, Lib.hid ⟨kAtB, kBtB, FD.out.below btB hBw, Nat.lt_of_lt_of_le (heap_lt FD.out.box) lk11⟩⟩
        refine AllReadyH.cons rfl (fun K hK => ?_) AllReadyH.nil
        go_simp
        obtain ⟨vA, evA⟩ : ∃ v, v = vB.alloc (.cells #[.int .i64 0, .int .i64 0, .int .i64 0, .int .i64 0, .int .i64 0, .int .i64 0] 90) := ⟨_, rfl⟩
        obtain ⟨k10, ek10⟩ : ∃ v, v = vB.heap.size := ⟨_, rfl⟩
        have hB : Below vB.heap.size vB vA := (by rw [evA]; exact (Below.refl _ _).alloc (Nat.le_refl _) _)
        have kAvA : vA.heap[k10]? = some (.cells #[.int .i64 0, .int .i64 0, .int .i64 0, .int .i64 0, .int .i64 0, .int .i64 0] 90 (0, 0)) := (by rw [evA, ek10]; exact heap_alloc_new _ _)
        have lk10 : d0.heap.size ≤ k10 := (by rw [ek10]; exact bvB.size)
        have bvA := bt bvB hB
        have kBvA := heap_below kBvB hB
        have hne : k10 ≠ k11 := (by have := heap_lt kBvB; omega)
        rw [← evA, ← ek10]
        clear evA ek10 hB
        refine hK.out _ _ (fun o => blk_cell (blk_below bvA kd0) o) (fun _ => ?_)
        clear hK K
        (try simp only [Act.put, List.setIfInBounds_toArray, List.set_cons_zero, List.set_cons_succ, List.getElem_toArray, List.getElem_cons_succ, List.getElem_cons_zero])
        refine wpAnyH_ready (rs := [2]) (by kernel_rfl) (by simp) ?_
        refine AllReadyH.cons rfl (fun K hK => ?_) AllReadyH.nil
        go_simp
        go_at_call 39
        (with_reducible refine (G1.out _ (bt bT bvA)).mono ?_)
        rintro e u2 ⟨rfl, hB⟩
        (try go_wp2_with fail)
        have bu2 := bt bvA hB
        have kAu2 := heap_below kAvA hB
        have kBu2 := heap_below kBvA hB
        clear hB
        refine hK.out _ _ (fun o => blk_cell (blk_below bu2 kd0) o) (fun _ => ?_)
        clear hK K
        (try simp only [Act.put, List.setIfInBounds_toArray, List.set_cons_zero, List.set_cons_succ, List.getElem_toArray, List.getElem_cons_succ, List.getElem_cons_zero])
        refine wpAnyH_ready (rs := [5]) (by kernel_rfl) (by simp) ?_
        refine AllReadyH.cons rfl (fun K hK => ?_) AllReadyH.nil
        go_simp
        go_at_call 40
        (with_reducible refine (G2.out _ (bt bT bu2)).mono ?_)
        rintro e u5 ⟨rfl, hB⟩
        (try go_wp2_with fail)
        have bu5 := bt bu2 hB
        have kAu5 := heap_below kAu2 hB
        have kBu5 := heap_below kBu2 hB
        clear hB
        refine hK.out _ _ (fun o => blk_cell (blk_below bu5 kd0) o) (fun _ => ?_)
        clear hK K
        (try simp only [Act.put, List.setIfInBounds_toArray, List.set_cons_zero, List.set_cons_succ, List.getElem_toArray, List.getElem_cons_succ, List.getElem_cons_zero])
        refine wpAnyH_ready (rs := [8]) (by kernel_rfl) (by simp) ?_
        refine AllReadyH.cons rfl (fun K hK => ?_) AllReadyH.nil
        refine wp_store_midH 90 (.tmp 10) (.tmp 34) k10 0 #[.int .i64 0, .int .i64 0, .int .i64 0, .int .i64 0, .int .i64 0, .int .i64 0] #[.int .i64 c0, .int .i64 c1, .int .i64 c2, .int .i64 c3, .int .i64 c4, .int .i64 c5] #[.int .i64 c0, .int .i64 c1, .int .i64 c2, .int .i64 c3, .int .i64 c4, .int .i64 c5] kAu5 rfl rfl rfl (by simp) (by kernel_rfl) (by kernel_rfl) (by kernel_rfl) ?_
        intro tA kAtA sT BT zT
        have btA := BT _ _ lk10 bu5
        have kBtA := heap_same kBu5 (Ne.symm hne) sT
        clear sT BT zT
        refine hK.out _ _ (fun o => blk_cell (blk_below btA kd0) o) (fun _ => ?_)
        clear hK K
        (try simp only [Act.put, List.setIfInBounds_toArray, List.set_cons_zero, List.set_cons_succ, List.getElem_toArray, List.getElem_cons_succ, List.getElem_cons_zero])
        refine wpAnyH_ready (rs := [9]) (by kernel_rfl) (by simp) ?_
        refine AllReadyH.cons rfl (fun K hK => ?_) AllReadyH.nil
        refine wp_store_midH 65 (.tmp 11) (.tmp 37) k11 0 #[.int .i64 0, .int .i64 0, .int .i64 0, .int .i64 0, .int .i64 0] #[.int .i64 n, .int .i64 su, .int .i64 le, .int .i64 gr, .int .i64 me] #[.int .i64 n, .int .i64 su, .int .i64 le, .int .i64 gr, .int .i64 me] kBtA rfl rfl rfl (by simp) (by kernel_rfl) (by kernel_rfl) (by kernel_rfl) ?_
        intro tB kBtB sT BT zT
        have btB := BT _ _ lk11 btA
        have kAtB := heap_same kAtA (hne) sT
        clear sT BT zT
        refine hK.out _ _ (fun o => blk_cell (blk_below btB kd0) o) (fun _ => ?_)
        clear hK K
        (try simp only [Act.put, List.setIfInBounds_toArray, List.set_cons_zero, List.set_cons_succ, List.getElem_toArray, List.getElem_cons_succ, List.getElem_cons_zero])
        refine wpAnyH_done (by kernel_rfl) ?_ _
        go_wp2
        go_meet
        case rel => exact ⟨k10, k11, rfl, rfl, Lib.hid ⟨kAtB, kBtB, FD.out.below btB hBw, Nat.lt_of_lt_of_le (heap_lt FD.out.box) lk11⟩⟩
      case rest =>
        obtain ⟨k10, k11, rfl, rfl, HC⟩ := hcut
        have FC := Lib.hid HC.out.2.2.1
        have kc := HC.out.1
        have ky := HC.out.2.1
        have lk2 := HC.out.2.2.2
        have kx : blk wc (r + 1 + 1) = some #[.pointer (some ⟨r + 1, 0, none⟩)] := blk_of FC.out.box
        have ny := kn (blk_of ky)
        have nx := kn kx
        clear G1 G2 HC
        go_upto_region 9 with fail
        clear ny nx
        refine wp_region_held_drew (S := fun W => (∀ o, W.cell? ⟨r + 1 + 1, o, none⟩ = (#[.pointer (some ⟨r + 1, 0, none⟩)] : Array Value)[o]?) ∧ (∀ o, W.cell? ⟨k11, o, none⟩ = (#[.int .i64 n, .int .i64 su, .int .i64 le, .int .i64 gr, .int .i64 me] : Array Value)[o]?)) (by kernel_rfl) ⟨fun o => blk_cell (blk_drew kx) o, fun o => blk_cell (blk_drew (blk_of ky)) o⟩ (fun hHeld => ?_)
        obtain ⟨d0, ed⟩ : ∃ v, v = wc.drew := ⟨_, rfl⟩
        have FD : Hid (TxI w.heap.size (r + 1) (r + 1 + 1) r vr w (prisR b l j) d0) := Lib.hid (by rw [ed]; exact FC.out.below (Below.refl _ _).drew hBw)
        have kx0 : blk d0 (r + 1 + 1) = some #[.pointer (some ⟨r + 1, 0, none⟩)] := blk_of FD.out.box
        have hy0 : d0.heap[k11]? = some (.cells #[.int .i64 n, .int .i64 su, .int .i64 le, .int .i64 gr, .int .i64 me] 65 (0, 0)) := (by rw [ed]; exact ky)
        have ky0 := blk_of hy0
        have kc0 : blk d0 k10 = some #[.int .i64 c0, .int .i64 c1, .int .i64 c2, .int .i64 c3, .int .i64 c4, .int .i64 c5] := (by rw [ed]; exact blk_of kc)
        have bd0 : Below d0.heap.size d0 d0 := Below.refl _ _
        have lk1 : r + 1 ≠ k11 := (by omega)
        rw [← ed] at hHeld ⊢
        clear ed kx ky kc FC
        refine wpAnyH_take (i := 0) (oi := _) (v := ?_) rfl (by kernel_rfl) (by kernel_rfl) (by kernel_rfl) (fun _ _ _ h => h) (Or.inl ⟨by rfl, ?_⟩) (by assumption) ?_
        rotate_left
        focus (intro W hSw; (try dsimp only at hSw); go_simp; (try with_reducible rfl))
        (try simp only [Act.put, List.setIfInBounds_toArray, List.set_cons_zero, List.set_cons_succ, List.getElem_toArray, List.getElem_cons_succ, List.getElem_cons_zero])
        refine wpAnyH_take (i := 1) (oi := _) (v := ?_) rfl (by kernel_rfl) (by kernel_rfl) (by kernel_rfl) (fun _ _ _ h => h) (Or.inl ⟨by rfl, ?_⟩) (by assumption) ?_
        rotate_left
        focus (intro W hSw; (try dsimp only at hSw); go_simp; (try with_reducible rfl))
        (try simp only [Act.put, List.setIfInBounds_toArray, List.set_cons_zero, List.set_cons_succ, List.getElem_toArray, List.getElem_cons_succ, List.getElem_cons_zero])
        refine wpAnyH_take (i := 3) (oi := _) (v := ?_) rfl (by kernel_rfl) (by kernel_rfl) (by kernel_rfl) (fun _ _ _ h => h) (Or.inl ⟨by rfl, ?_⟩) (by assumption) ?_
        rotate_left
        focus (intro W hSw; (try dsimp only at hSw); go_simp; (try with_reducible rfl))
        (try simp only [Act.put, List.setIfInBounds_toArray, List.set_cons_zero, List.set_cons_succ, List.getElem_toArray, List.getElem_cons_succ, List.getElem_cons_zero])
        refine wpAnyH_take (i := 4) (oi := _) (v := ?_) rfl (by kernel_rfl) (by kernel_rfl) (by kernel_rfl) (fun _ _ _ h => h) (Or.inl ⟨by rfl, ?_⟩) (by assumption) ?_
        rotate_left
        focus (intro W hSw; (try dsimp only at hSw); go_simp; (try with_reducible rfl))
        (try simp only [Act.put, List.setIfInBounds_toArray, List.set_cons_zero, List.set_cons_succ, List.getElem_toArray, List.getElem_cons_succ, List.getElem_cons_zero])
        refine wpAnyH_take (i := 5) (oi := _) (v := ?_) rfl (by kernel_rfl) (by kernel_rfl) (by kernel_rfl) (fun _ _ _ h => h) (Or.inl ⟨by rfl, ?_⟩) (by assumption) ?_
        rotate_left
        focus (intro W hSw; (try dsimp only at hSw); go_simp; (try with_reducible rfl))
        (try simp only [Act.put, List.setIfInBounds_toArray, List.set_cons_zero, List.set_cons_succ, List.getElem_toArray, List.getElem_cons_succ, List.getElem_cons_zero])
        refine wpAnyH_take (i := 6) (oi := _) (v := ?_) rfl (by kernel_rfl) (by kernel_rfl) (by kernel_rfl) (fun _ _ _ h => h) (Or.inl ⟨by rfl, ?_⟩) (by assumption) ?_
        rotate_left
        focus (intro W hSw; (try dsimp only at hSw); go_simp; (try with_reducible rfl))
        (try simp only [Act.put, List.setIfInBounds_toArray, List.set_cons_zero, List.set_cons_succ, List.getElem_toArray, List.getElem_cons_succ, List.getElem_cons_zero])
        refine wpAnyH_take (i := 7) (oi := _) (v := ?_) rfl (by kernel_rfl) (by kernel_rfl) (by kernel_rfl) (fun _ _ _ h => h) (Or.inl ⟨by rfl, ?_⟩) (by assumption) ?_
        rotate_left
        focus (intro W hSw; (try dsimp only at hSw); go_simp; (try with_reducible rfl))
        (try simp only [Act.put, List.setIfInBounds_toArray, List.set_cons_zero, List.set_cons_succ, List.getElem_toArray, List.getElem_cons_succ, List.getElem_cons_zero])
        refine wpAnyH_take (i := 8) (oi := _) (v := ?_) rfl (by kernel_rfl) (by kernel_rfl) (by kernel_rfl) (fun _ _ _ h => h) (Or.inl ⟨by rfl, ?_⟩) (by assumption) ?_
        rotate_left
        focus (intro W hSw; (try dsimp only at hSw); go_simp; (try with_reducible rfl))
        (try simp only [Act.put, List.setIfInBounds_toArray, List.set_cons_zero, List.set_cons_succ, List.getElem_toArray, List.getElem_cons_succ, List.getElem_cons_zero])
        refine wpAnyH_take (i := 9) (oi := _) (v := ?_) rfl (by kernel_rfl) (by kernel_rfl) (by kernel_rfl) (fun _ _ _ h => h) (Or.inl ⟨by rfl, ?_⟩) (by assumption) ?_
        rotate_left
        focus (intro W hSw; (try dsimp only at hSw); go_simp; (try with_reducible rfl))
        (try simp only [Act.put, List.setIfInBounds_toArray, List.set_cons_zero, List.set_cons_succ, List.getElem_toArray, List.getElem_cons_succ, List.getElem_cons_zero])
        refine wpAnyH_take (i := 10) (oi := _) (v := ?_) rfl (by kernel_rfl) (by kernel_rfl) (by kernel_rfl) (fun _ _ _ h => h) (Or.inl ⟨by rfl, ?_⟩) (by assumption) ?_
        rotate_left
        focus (intro W hSw; (try dsimp only at hSw); go_simp; (try with_reducible rfl))
        (try simp only [Act.put, List.setIfInBounds_toArray, List.set_cons_zero, List.set_cons_succ, List.getElem_toArray, List.getElem_cons_succ, List.getElem_cons_zero])
        refine wpAnyH_take (i := 11) (oi := _) (v := ?_) rfl (by kernel_rfl) (by kernel_rfl) (by kernel_rfl) (fun _ _ _ h => h) (Or.inl ⟨by rfl, ?_⟩) (by assumption) ?_
        rotate_left
        focus (intro W hSw; (try dsimp only at hSw); go_simp; (try with_reducible rfl))
        (try simp only [Act.put, List.setIfInBounds_toArray, List.set_cons_zero, List.set_cons_succ, List.getElem_toArray, List.getElem_cons_succ, List.getElem_cons_zero])
        refine wpAnyH_take (i := 12) (oi := _) (v := ?_) rfl (by kernel_rfl) (by kernel_rfl) (by kernel_rfl) (fun _ _ _ h => h) (Or.inl ⟨by rfl, ?_⟩) (by assumption) ?_
        rotate_left
        focus (intro W hSw; (try dsimp only at hSw); go_simp; (try with_reducible rfl))
        (try simp only [Act.put, List.setIfInBounds_toArray, List.set_cons_zero, List.set_cons_succ, List.getElem_toArray, List.getElem_cons_succ, List.getElem_cons_zero])
        refine wpAnyH_take (i := 13) (oi := _) (v := ?_) rfl (by kernel_rfl) (by kernel_rfl) (by kernel_rfl) (fun _ _ _ h => h) (Or.inl ⟨by rfl, ?_⟩) (by assumption) ?_
        rotate_left
        focus (intro W hSw; (try dsimp only at hSw); go_simp; (try with_reducible rfl))
        (try simp only [Act.put, List.setIfInBounds_toArray, List.set_cons_zero, List.set_cons_succ, List.getElem_toArray, List.getElem_cons_succ, List.getElem_cons_zero])
        refine wpAnyH_ready (rs := [2, 14]) (by kernel_rfl) (by simp) ?_
        refine AllReadyH.cons rfl (fun K hK => ?_) ?_
        · skip
          go_simp
          obtain ⟨vP, evP⟩ : ∃ v, v = d0.alloc (.cells #[.int .i64 (j : Int)] 3) := ⟨_, rfl⟩
          obtain ⟨g1, eg1⟩ : ∃ v, v = d0.heap.size := ⟨_, rfl⟩
          have hB : Below d0.heap.size d0 vP := (by rw [evP]; exact (Below.refl _ _).alloc (Nat.le_refl _) _)
          have kPvP : blk vP g1 = some #[.int .i64 (j : Int)] := (by rw [evP]; exact blk_alloc_new _ _ _ eg1)
          have bvP := bt bd0 hB
          rw [← evP, ← eg1]
          clear evP eg1 hB
          refine hK.out _ _ ⟨fun o => blk_cell (blk_below bvP kx0) o, fun o => blk_cell (blk_below bvP ky0) o⟩ (fun _ => ?_)
          clear hK K
          (try simp only [Act.put, List.setIfInBounds_toArray, List.set_cons_zero, List.set_cons_succ, List.getElem_toArray, List.getElem_cons_succ, List.getElem_cons_zero])
          refine wpAnyH_ready (rs := [14]) (by kernel_rfl) (by simp) ?_
          refine AllReadyH.cons rfl (fun K hK => ?_) AllReadyH.nil
          go_simp
          obtain ⟨vQ, evQ⟩ : ∃ v, v = vP.alloc (.cells #[.int .i64 n, .int .i64 su, .int .i64 le, .int .i64 gr, .int .i64 me] 3) := ⟨_, rfl⟩
          obtain ⟨g2, eg2⟩ : ∃ v, v = vP.heap.size := ⟨_, rfl⟩
          have hB : Below vP.heap.size vP vQ := (by rw [evQ]; exact (Below.refl _ _).alloc (Nat.le_refl _) _)
          have kQvQ : blk vQ g2 = some #[.int .i64 n, .int .i64 su, .int .i64 le, .int .i64 gr, .int .i64 me] := (by rw [evQ]; exact blk_alloc_new _ _ _ eg2)
          have bvQ := bt bvP hB
          have kPvQ := blk_below hB kPvP
          rw [← evQ, ← eg2]
          clear evQ eg2 hB
          refine hK.out _ _ ⟨fun o => blk_cell (blk_below bvQ kx0) o, fun o => blk_cell (blk_below bvQ ky0) o⟩ (fun _ => ?_)
          clear hK K
          (try simp only [Act.put, List.setIfInBounds_toArray, List.set_cons_zero, List.set_cons_succ, List.getElem_toArray, List.getElem_cons_succ, List.getElem_cons_zero])
          refine wpAnyH_ready (rs := [15]) (by kernel_rfl) (by simp) ?_
          refine AllReadyH.cons rfl (fun K hK => ?_) AllReadyH.nil
          go_simp
          obtain ⟨vR, evR⟩ : ∃ v, v = vQ.alloc (.cells #[.slice (some ⟨g1, 0, none⟩) 1 1, .slice (some ⟨k10, 0, none⟩) 6 6, .slice (some ⟨g2, 0, none⟩) 5 5] 45) := ⟨_, rfl⟩
          obtain ⟨g3, eg3⟩ : ∃ v, v = vQ.heap.size := ⟨_, rfl⟩
          have hB : Below vQ.heap.size vQ vR := (by rw [evR]; exact (Below.refl _ _).alloc (Nat.le_refl _) _)
          have kRvR : blk vR g3 = some #[.slice (some ⟨g1, 0, none⟩) 1 1, .slice (some ⟨k10, 0, none⟩) 6 6, .slice (some ⟨g2, 0, none⟩) 5 5] := (by rw [evR]; exact blk_alloc_new _ _ _ eg3)
          have bvR := bt bvQ hB
          have kPvR := blk_below hB kPvQ
          have kQvR := blk_below hB kQvQ
          rw [← evR, ← eg3]
          clear evR eg3 hB
          refine hK.out _ _ ⟨fun o => blk_cell (blk_below bvR kx0) o, fun o => blk_cell (blk_below bvR ky0) o⟩ (fun _ => ?_)
          clear hK K
          (try simp only [Act.put, List.setIfInBounds_toArray, List.set_cons_zero, List.set_cons_succ, List.getElem_toArray, List.getElem_cons_succ, List.getElem_cons_zero])
          refine wpAnyH_ready (rs := [16]) (by kernel_rfl) (by simp) ?_
          refine AllReadyH.cons rfl (fun K hK => ?_) AllReadyH.nil
          go_simp
          go_at_call 42
          (with_reducible refine (concat_len 3 g3 [(some ⟨g1, 0, none⟩, 1, [(j : Int)]), (some ⟨k10, 0, none⟩, 6, [c0, c1, c2, c3, c4, c5]), (some ⟨g2, 0, none⟩, 5, [n, su, le, gr, me])] rfl [(j : Int), c0, c1, c2, c3, c4, c5, n, su, le, gr, me] rfl (by simp) (by simp) (by simp) vR (by rw [kRvR]; simp [rwV]) (fun x hx => ?_)).mono ?_)
          focus (simp only [List.mem_cons, List.not_mem_nil, or_false] at hx; rcases hx with rfl | rfl | rfl; exact srow_blkG (l := [(j : Int)]) ic_len kPvR rfl (by simp); exact srow_blkG (l := [c0, c1, c2, c3, c4, c5]) ic_len (blk_below bvR kc0) rfl (by simp); exact srow_blkG (l := [n, su, le, gr, me]) ic_len kQvR rfl (by simp))
          rintro e u16 ⟨v16, rfl, ho, hB⟩
          (try go_wp2_with fail)
          have bu16 := bt bvR hB
          have lW16 := bvR.size
          obtain ⟨g4, cap4, cur4, rfl, lg4, hg4, hc4⟩ := own_parts (by simp) ho
          clear ho hB
          refine hK.out _ _ ⟨fun o => blk_cell (blk_below bu16 kx0) o, fun o => blk_cell (blk_below bu16 ky0) o⟩ (fun _ => ?_)
          clear hK K
          (try simp only [Act.put, List.setIfInBounds_toArray, List.set_cons_zero, List.set_cons_succ, List.getElem_toArray, List.getElem_cons_succ, List.getElem_cons_zero])
          refine wpAnyH_ready (rs := [17]) (by kernel_rfl) (by simp) ?_
          refine AllReadyH.cons rfl (fun K hK => ?_) AllReadyH.nil
          go_simp
          go_at_call 41
          (with_reducible refine (row_len 12 w.heap.size (r + 1) g4 cap4 cur4 (prisR b l j) ⟨#[112, 114, 105, 111]⟩ [(j : Int), c0, c1, c2, c3, c4, c5, n, su, le, gr, me] rfl (by simp) HNN.out (by have := HLJ.out; omega) (by decide) u16 (HP.out.on (FD.out.bel.trans (bu16.mono FD.out.bel.size))) (isB_below FD.out.isb bu16) (Nat.le_trans FD.out.bel.size bu16.size) hg4 (by have h8 := heap_lt FD.out.box; have h9 := lW16; omega) hc4.2 hc4.1).mono ?_)
          rintro e u17 ⟨rfl, hI9, hB9, hK9⟩
          (try go_wp2_with fail)
          have FE : Hid (TxI w.heap.size (r + 1) (r + 1 + 1) r vr w (prisR b l (j + 1)) u17) := Lib.hid ((FD.out.below bu16 hBw).wrote (by rw [prisR_succ]; exact HPR.out ▸ hI9) hB9 hK9 (by omega) (by omega))
          have kxu : blk u17 (r + 1 + 1) = some #[.pointer (some ⟨r + 1, 0, none⟩)] := blk_of FE.out.box
          have kyu : blk u17 k11 = some #[.int .i64 n, .int .i64 su, .int .i64 le, .int .i64 gr, .int .i64 me] := blk_of (ok_cells hK9 (heap_below hy0 bu16) (Ne.symm lk1) (by decide))
          refine hK.out _ _ ⟨fun o => blk_cell kxu o, fun o => blk_cell kyu o⟩ (fun _ => ?_)
          clear hK K
          (try simp only [Act.put, List.setIfInBounds_toArray, List.set_cons_zero, List.set_cons_succ, List.getElem_toArray, List.getElem_cons_succ, List.getElem_cons_zero])
          refine wpAnyH_done (by kernel_rfl) ?_ _
          go_wp2
          go_roundw
          case rel => exact ⟨j + 1, by go_num, by omega, FE, by have := HLR.out; have := HLJ.out; rw [prisR_succ, List.length_append]; omega⟩
          case measure => simp [intOf]; omega
        refine AllReadyH.cons rfl (fun K hK => ?_) AllReadyH.nil
        go_simp
        obtain ⟨vQ, evQ⟩ : ∃ v, v = d0.alloc (.cells #[.int .i64 n, .int .i64 su, .int .i64 le, .int .i64 gr, .int .i64 me] 3) := ⟨_, rfl⟩
        obtain ⟨g2, eg2⟩ : ∃ v, v = d0.heap.size := ⟨_, rfl⟩
        have hB : Below d0.heap.size d0 vQ := (by rw [evQ]; exact (Below.refl _ _).alloc (Nat.le_refl _) _)
        have kQvQ : blk vQ g2 = some #[.int .i64 n, .int .i64 su, .int .i64 le, .int .i64 gr, .int .i64 me] := (by rw [evQ]; exact blk_alloc_new _ _ _ eg2)
        have bvQ := bt bd0 hB
        rw [← evQ, ← eg2]
        clear evQ eg2 hB
        refine hK.out _ _ ⟨fun o => blk_cell (blk_below bvQ kx0) o, fun o => blk_cell (blk_below bvQ ky0) o⟩ (fun _ => ?_)
        clear hK K
        (try simp only [Act.put, List.setIfInBounds_toArray, List.set_cons_zero, List.set_cons_succ, List.getElem_toArray, List.getElem_cons_succ, List.getElem_cons_zero])
        refine wpAnyH_ready (rs := [2]) (by kernel_rfl) (by simp) ?_
        refine AllReadyH.cons rfl (fun K hK => ?_) AllReadyH.nil
        go_simp
        obtain ⟨vP, evP⟩ : ∃ v, v = vQ.alloc (.cells #[.int .i64 (j : Int)] 3) := ⟨_, rfl⟩
        obtain ⟨g1, eg1⟩ : ∃ v, v = vQ.heap.size := ⟨_, rfl⟩
        have hB : Below vQ.heap.size vQ vP := (by rw [evP]; exact (Below.refl _ _).alloc (Nat.le_refl _) _)
        have kPvP : blk vP g1 = some #[.int .i64 (j : Int)] := (by rw [evP]; exact blk_alloc_new _ _ _ eg1)
        have bvP := bt bvQ hB
        have kQvP := blk_below hB kQvQ
        rw [← evP, ← eg1]
        clear evP eg1 hB
        refine hK.out _ _ ⟨fun o => blk_cell (blk_below bvP kx0) o, fun o => blk_cell (blk_below bvP ky0) o⟩ (fun _ => ?_)
        clear hK K
        (try simp only [Act.put, List.setIfInBounds_toArray, List.set_cons_zero, List.set_cons_succ, List.getElem_toArray, List.getElem_cons_succ, List.getElem_cons_zero])
        refine wpAnyH_ready (rs := [15]) (by kernel_rfl) (by simp) ?_
        refine AllReadyH.cons rfl (fun K hK => ?_) AllReadyH.nil
        go_simp
        obtain ⟨vR, evR⟩ : ∃ v, v = vP.alloc (.cells #[.slice (some ⟨g1, 0, none⟩) 1 1, .slice (some ⟨k10, 0, none⟩) 6 6, .slice (some ⟨g2, 0, none⟩) 5 5] 45) := ⟨_, rfl⟩
        obtain ⟨g3, eg3⟩ : ∃ v, v = vP.heap.size := ⟨_, rfl⟩
        have hB : Below vP.heap.size vP vR := (by rw [evR]; exact (Below.refl _ _).alloc (Nat.le_refl _) _)
        have kRvR : blk vR g3 = some #[.slice (some ⟨g1, 0, none⟩) 1 1, .slice (some ⟨k10, 0, none⟩) 6 6, .slice (some ⟨g2, 0, none⟩) 5 5] := (by rw [evR]; exact blk_alloc_new _ _ _ eg3)
        have bvR := bt bvP hB
        have kPvR := blk_below hB kPvP
        have kQvR := blk_below hB kQvP
        rw [← evR, ← eg3]
        clear evR eg3 hB
        refine hK.out _ _ ⟨fun o => blk_cell (blk_below bvR kx0) o, fun o => blk_cell (blk_below bvR ky0) o⟩ (fun _ => ?_)
        clear hK K
        (try simp only [Act.put, List.setIfInBounds_toArray, List.set_cons_zero, List.set_cons_succ, List.getElem_toArray, List.getElem_cons_succ, List.getElem_cons_zero])
        refine wpAnyH_ready (rs := [16]) (by kernel_rfl) (by simp) ?_
        refine AllReadyH.cons rfl (fun K hK => ?_) AllReadyH.nil
        go_simp
        go_at_call 42
        (with_reducible refine (concat_len 3 g3 [(some ⟨g1, 0, none⟩, 1, [(j : Int)]), (some ⟨k10, 0, none⟩, 6, [c0, c1, c2, c3, c4, c5]), (some ⟨g2, 0, none⟩, 5, [n, su, le, gr, me])] rfl [(j : Int), c0, c1, c2, c3, c4, c5, n, su, le, gr, me] rfl (by simp) (by simp) (by simp) vR (by rw [kRvR]; simp [rwV]) (fun x hx => ?_)).mono ?_)
        focus (simp only [List.mem_cons, List.not_mem_nil, or_false] at hx; rcases hx with rfl | rfl | rfl; exact srow_blkG (l := [(j : Int)]) ic_len kPvR rfl (by simp); exact srow_blkG (l := [c0, c1, c2, c3, c4, c5]) ic_len (blk_below bvR kc0) rfl (by simp); exact srow_blkG (l := [n, su, le, gr, me]) ic_len kQvR rfl (by simp))
        rintro e u16 ⟨v16, rfl, ho, hB⟩
        (try go_wp2_with fail)
        have bu16 := bt bvR hB
        have lW16 := bvR.size
        obtain ⟨g4, cap4, cur4, rfl, lg4, hg4, hc4⟩ := own_parts (by simp) ho
        clear ho hB
        refine hK.out _ _ ⟨fun o => blk_cell (blk_below bu16 kx0) o, fun o => blk_cell (blk_below bu16 ky0) o⟩ (fun _ => ?_)
        clear hK K
        (try simp only [Act.put, List.setIfInBounds_toArray, List.set_cons_zero, List.set_cons_succ, List.getElem_toArray, List.getElem_cons_succ, List.getElem_cons_zero])
        refine wpAnyH_ready (rs := [17]) (by kernel_rfl) (by simp) ?_
        refine AllReadyH.cons rfl (fun K hK => ?_) AllReadyH.nil
        go_simp
        go_at_call 41
        (with_reducible refine (row_len 12 w.heap.size (r + 1) g4 cap4 cur4 (prisR b l j) ⟨#[112, 114, 105, 111]⟩ [(j : Int), c0, c1, c2, c3, c4, c5, n, su, le, gr, me] rfl (by simp) HNN.out (by have := HLJ.out; omega) (by decide) u16 (HP.out.on (FD.out.bel.trans (bu16.mono FD.out.bel.size))) (isB_below FD.out.isb bu16) (Nat.le_trans FD.out.bel.size bu16.size) hg4 (by have h8 := heap_lt FD.out.box; have h9 := lW16; omega) hc4.2 hc4.1).mono ?_)
        rintro e u17 ⟨rfl, hI9, hB9, hK9⟩
        (try go_wp2_with fail)
        have FE : Hid (TxI w.heap.size (r + 1) (r + 1 + 1) r vr w (prisR b l (j + 1)) u17) := Lib.hid ((FD.out.below bu16 hBw).wrote (by rw [prisR_succ]; exact HPR.out ▸ hI9) hB9 hK9 (by omega) (by omega))
        have kxu : blk u17 (r + 1 + 1) = some #[.pointer (some ⟨r + 1, 0, none⟩)] := blk_of FE.out.box
        have kyu : blk u17 k11 = some #[.int .i64 n, .int .i64 su, .int .i64 le, .int .i64 gr, .int .i64 me] := blk_of (ok_cells hK9 (heap_below hy0 bu16) (Ne.symm lk1) (by decide))
        refine hK.out _ _ ⟨fun o => blk_cell kxu o, fun o => blk_cell kyu o⟩ (fun _ => ?_)
        clear hK K
        (try simp only [Act.put, List.setIfInBounds_toArray, List.set_cons_zero, List.set_cons_succ, List.getElem_toArray, List.getElem_cons_succ, List.getElem_cons_zero])
        refine wpAnyH_done (by kernel_rfl) ?_ _
        go_wp2
        go_roundw
        case rel => exact ⟨j + 1, by go_num, by omega, FE, by have := HLR.out; have := HLJ.out; rw [prisR_succ, List.length_append]; omega⟩
        case measure => simp [intOf]; omega
    · have hltz : ¬ (j : Int) < 3 := by omega
      have hj3 : j = 3 := by omega
      clear GCN GLT
      have F0 : Hid (TxI w.heap.size (r + 1) (r + 1 + 1) r vr w (prisR b l 3) wr) := Lib.hid (by rw [← hj3]; exact HF.out)
      replace hlj : (prisR b l 3).length ≤ 3000 := by rw [← hj3]; omega
      clear HF hj3
      have GST : Hid (∀ (n : Nat) W, Below w.heap.size w W → Calls Tryz.prog 31 #[.agg #[.slice ab b.length cb, .slice al l.length cl], .int .i64 (n : Int)] W (OwnR lc 2 35 (stepsO b szB (n : Int) l) W)) := Lib.hid fun n W hB => psteps_any ab al cb cl b l n HV.out HD.out W (HH.out.on hB) (HB.out.below hB) (HL.out.below hB)
      have GFA : Hid (∀ W, Below w.heap.size w W → Calls Tryz.prog 36 #[.agg #[.slice ab b.length cb, .slice al l.length cl]] W fun e w' => e = .returned (.tuple #[.int .u64 (faiO b l).1, .int .u64 (faiO b l).2]) ∧ Below W.heap.size W w') := Lib.hid fun W hB => pfair_any ab al cb cl b l HV.out W (HB.out.below hB) (HL.out.below hB)
      clear HT HH HB HL HD H0 q0
      go_wp2
      go_loopw [12] (fun s12 wr => ∃ n : Nat, s12 = .int .i64 n ∧ 1 ≤ n ∧ n ≤ 17 ∧ Hid (TxI w.heap.size (r + 1) (r + 1 + 1) r vr w (prisR b l 3 ++ nodsR b szB l (n - 1)) wr) ∧ (prisR b l 3 ++ nodsR b szB l (n - 1)).length ≤ 3000 + n * 1000) (fun s12 _ => 17 - (intOf s12).toNat)
      case atStart => exact ⟨1, rfl, Nat.le_refl _, by omega, by rw [show nodsR b szB l (1 - 1) = [] from rfl, List.append_nil]; exact F0, by rw [show nodsR b szB l (1 - 1) = [] from rfl, List.append_nil]; omega⟩
      case round =>
        clear F0 hlj
        obtain ⟨n, rfl, hn1, hn, HF, hln⟩ := hrel
        have kr : blk wr r = some #[.slice ab b.length cb, .slice al l.length cl] := by rw [← HVR.out]; exact blk_of HF.out.run
        have nr := kn kr
        by_cases hlt : n < 17
        · have hltz : (n : Int) ≤ 16 := by omega
          have hnl := nodR_len HV.out (show n ≤ 16 by omega)
          have hsc := nodsR_succ b szB l (n - 1)
          rw [Nat.sub_add_cancel hn1] at hsc
          have gs := GST.out n
          have hpk := pk_bd HV.out (n : Int)
          have hnr : nodR b szB l n = if stepsO b szB (n : Int) l = [] then [] else rowT nodW [n, (pkO (stepsO b szB (n : Int) l)).1.toNat, (pkO (stepsO b szB (n : Int) l)).2.toNat] := rfl
          obtain ⟨T, hT⟩ : ∃ T, stepsO b szB (n : Int) l = T := ⟨_, rfl⟩
          rw [hT] at gs hpk hnr
          have GS := Lib.hid gs
          have HSC := Lib.hid hsc; have HNL := Lib.hid hnl
          obtain ⟨P0, hP0⟩ : ∃ P, prisR b l 3 ++ nodsR b szB l (n - 1) = P := ⟨_, rfl⟩
          have hnx : prisR b l 3 ++ nodsR b szB l n = P0 ++ nodR b szB l n := by rw [hsc, ← List.append_assoc, hP0]
          rw [hP0] at HF hln
          have HNX := Lib.hid hnx; have HLN := Lib.hid hln
          clear hT gs hsc hnl hP0 hnx hln GST
          by_cases hTn : T = []
          · subst hTn
            rw [if_pos rfl] at hnr
            have HNR := Lib.hid hnr
            clear hnr hpk
            go_wp2_with (go_at_call 31; (with_reducible refine (GS.out _ HF.out.bel).mono ?_); rintro e w3 ⟨v3, rfl, ho3, h3⟩; (obtain ⟨a3, c3, rfl, hS3, _⟩ := srow_of_owns lc_len ho3); (have F3 := Lib.hid (HF.out.below h3 hBw)); clear ho3 h3 hS3)
            go_roundw
            case rel => exact ⟨n + 1, by go_num, by omega, by omega, by rw [Nat.add_sub_cancel, HNX.out, HNR.out, List.append_nil]; exact F3, by rw [Nat.add_sub_cancel, HNX.out, HNR.out, List.append_nil]; have := HLN.out; omega⟩
            case measure => simp [intOf]; omega
          · rw [if_neg hTn] at hnr
            have hTl : (0 : Int) < (T.length : Int) := by have := List.length_pos_iff.2 hTn; omega
            have GP := Lib.hid (fun a c W (h : SRow lc 2 W a c T) => peak_any a c T W h)
            obtain ⟨p1, e1⟩ : ∃ p, (pkO T).1 = p := ⟨_, rfl⟩
            obtain ⟨p2, e2⟩ : ∃ p, (pkO T).2 = p := ⟨_, rfl⟩
            rw [e1, e2] at hpk hnr GP
            have HNR := Lib.hid hnr
            have q1 : IntKind.i64.wrap p2 = p2 := IntWalk.i64_in _ (by omega)
            have HPK := Lib.hid hpk
            clear e1 e2 hnr hpk hTn
            go_upto_region 17 with (first
              | (go_at_call 31; (with_reducible refine (GS.out _ HF.out.bel).mono ?_); rintro e w3 ⟨v3, rfl, ho3, h3⟩; (obtain ⟨a3, c3, rfl, hS3, _⟩ := srow_of_owns lc_len ho3); (have F3 := Lib.hid (HF.out.below h3 hBw)); (have HS3 := Lib.hid hS3); clear ho3 h3 hS3)
              | (go_at_call 35; (with_reducible refine (GP.out _ _ _ HS3.out).mono ?_); rintro e w5 ⟨rfl, h5⟩; (have F5 := Lib.hid (F3.out.below h5 hBw)); clear h5))
            refine wp_freshT w5.heap.size #[.int .i64 p1, .int .u64 p2] (by (apply blk_to; (focus (repeat (first | (with_reducible assumption) | (with_reducible apply blk_drew) | (with_reducible apply blk_set) | ((with_reducible apply blk_other'); (first | (focus (dsimp only; assumption)) | (focus (simp; done)) | (focus (dsimp only; omega)))) | ((with_reducible apply blk_alloc_new); (first | (with_reducible rfl) | (focus (simp; done)) | (focus (simp; omega)))) | (with_reducible apply blk_alloc) | ((with_reducible apply blk_below); (with_reducible assumption))))); rfl)) (by (repeat (first | (with_reducible assumption) | (with_reducible exact Below.refl _ _) | (with_reducible refine beld_drew ?_) | ((with_reducible refine bset' ?_ ?_); (first | (focus (dsimp only; assumption)) | (focus (simp; done)) | (focus (dsimp only; omega)))) | (with_reducible refine belt_alloc ?_) | ((with_reducible refine zeroed_below' ?_ ?_); (first | (focus (simp; done)) | (focus (dsimp only; omega)))) | (with_reducible refine bt ?_ (by assumption)))) : Below w5.heap.size w5 _) ?_
            intro u kbu hbu
            have F6 := Lib.hid (F5.out.below hbu hBw)
            have nb := kn kbu
            have nx := kn (blk_of F6.out.box)
            clear F5 F3 HF GS GP HS3 hbu
            go_wp2_with fail
            with_reducible refine (row_len 3 w.heap.size (r + 1) u.heap.size 3 #[.int .i64 n, .int .i64 p1, .int .i64 p2] P0 ⟨#[110, 111, 100, 101]⟩ [(n : Int), p1, p2] rfl (by simp) (by have := HPK.out; intro x hx; simp only [List.mem_cons, List.not_mem_nil, or_false] at hx; rcases hx with rfl | rfl | rfl <;> omega) (by have := HLN.out; omega) (by decide) _ (HP.out.on (F6.out.bel.alloc F6.out.bel.size _)) (isB_below F6.out.isb ((Below.refl _ _).alloc (Nat.le_refl _) _)) (by have := F6.out.bel.size; simp; omega) (heap_alloc_new _ _) (by have := heap_lt F6.out.box; omega) (cur3 _ _ _) ⟨by simp, by decide⟩).mono ?_
            rintro e w8 ⟨rfl, hI, hB, hK⟩
            have F8 : Hid (TxI w.heap.size (r + 1) (r + 1 + 1) r vr w (P0 ++ nodR b szB l n) w8) := Lib.hid ((F6.out.below ((Below.refl _ _).alloc (Nat.le_refl _) _) hBw).wrote (by rw [HNR.out]; exact hI) hB hK (by omega) (by omega))
            clear hI hB hK
            go_wp2
            go_roundw
            case rel => exact ⟨n + 1, by go_num, by omega, by omega, by rw [Nat.add_sub_cancel, HNX.out]; exact F8, by rw [Nat.add_sub_cancel, HNX.out, List.length_append]; have := HLN.out; have := HNL.out; omega⟩
            case measure => simp [intOf]; omega
        · obtain rfl : n = 17 := by omega
          have hfb := fai_bd HV.out
          have hfr : faiR b l = rowT faiW [(faiO b l).1.toNat, (faiO b l).2.toNat] := rfl
          have hE : txtO b szB l = prisR b l 3 ++ nodsR b szB l (17 - 1) ++ faiR b l := by unfold txtO prisR; simp [List.range_succ]
          obtain ⟨f1, e1⟩ : ∃ p, (faiO b l).1 = p := ⟨_, rfl⟩
          obtain ⟨f2, e2⟩ : ∃ p, (faiO b l).2 = p := ⟨_, rfl⟩
          rw [e1, e2] at hfb hfr GFA
          obtain ⟨P0, hP0⟩ : ∃ P, prisR b l 3 ++ nodsR b szB l (17 - 1) = P := ⟨_, rfl⟩
          rw [hP0] at HF hln hE
          have q1 : IntKind.i64.wrap f1 = f1 := IntWalk.i64_in _ (by omega)
          have q2 : IntKind.i64.wrap f2 = f2 := IntWalk.i64_in _ (by omega)
          have HE := Lib.hid hE
          have HFB := Lib.hid hfb; have HFR := Lib.hid hfr; have HLN := Lib.hid hln
          clear e1 e2 hfb hfr hP0 hln hE GST HV HVR
          have nx := kn (blk_of HF.out.box)
          go_upto_region 19 with (go_at_call 36; (with_reducible refine (GFA.out _ HF.out.bel).mono ?_); rintro e w3 ⟨rfl, h3⟩; (have F3 := Lib.hid (HF.out.below h3 hBw)); clear nx nr; (have nx := kn (blk_of F3.out.box)); clear h3)
          go_wp2_with (first
            | (go_at_call 41; (with_reducible refine (row_len 2 w.heap.size (r + 1) w3.heap.size 2 #[.int .i64 f1, .int .i64 f2] P0 ⟨#[102, 97, 105, 114, 110, 101, 115, 115]⟩ [f1, f2] rfl (by simp) (by have := HFB.out; intro x hx; simp only [List.mem_cons, List.not_mem_nil, or_false] at hx; rcases hx with rfl | rfl <;> omega) (by have := HLN.out; omega) (by decide) _ (HP.out.on (F3.out.bel.alloc F3.out.bel.size _)) (isB_below F3.out.isb ((Below.refl _ _).alloc (Nat.le_refl _) _)) (by have := F3.out.bel.size; simp; omega) (heap_alloc_new _ _) (by have := heap_lt F3.out.box; omega) (cur2 _ _) ⟨by simp, by decide⟩).mono ?_); rintro e w8 ⟨rfl, hI, hB, hK⟩; (have F8 : Hid (TxI w.heap.size (r + 1) (r + 1 + 1) r vr w (P0 ++ faiR b l) w8) := Lib.hid ((F3.out.below ((Below.refl _ _).alloc (Nat.le_refl _) _) hBw).wrote (by rw [HFR.out]; exact hI) hB hK (by omega) (by omega))); clear nx; (have nx := kn (blk_of F8.out.box)); clear hI hB hK)
            | (go_at_call 43; (with_reducible refine (Tryz.Builder_String_any_k w.heap.size (r + 1) (P0 ++ faiR b l) w8 F8.out.isb F8.out.bel.size).mono ?_); rintro e w9 ⟨rfl, -, h9, -⟩; (have B9 := F8.out.bel.trans h9); clear h9))
          go_ret2
          exact ⟨by rw [HE.out]; simp, B9⟩
end Go.Proofs.YthfmkkkdjgkaoaaGreatDoor
