/- Parts of a proof, printed by a program of mine out of my texts: RpEl, RpOne, RpTrc. -/
import Derived.Great.Walk
import Derived.Deep.Cut
import Derived.Outline
import Derived.Test.YthfmkkkdjgkaoaaGreatDoorMB
import Derived.Test.YthfmkkkdjgkaoaaGreatDoorMM
import Derived.Test.YthfmkkkdjgkaoaaGreatDoorMU
set_option linter.unusedSimpArgs false
set_option linter.unusedVariables false
namespace Go.Proofs.YthfmkkkdjgkaoaaGreatDoor
open Go.RowKit
theorem setMid_all {zs : Array Value} {cs : List Value} (hz : zs.size = cs.length) : setMid zs 0 cs = cs.toArray := by
  have := setMid_list cs [] zs.toList [] (by simpa using hz)
  simpa using this
section
variable {P : Program}
theorem wpList_elemT {ops : Array Oper} {rest : List Oper} {Q : Exit → Act → World → Prop} {a : Act} {w : World} {oL oA oM oS : Oper} (ty : TypeId) (xL yM : Operand) (vM : Value) (b off : Nat) (cs : List Value) (zs : Array Value) (hr : w.rangeAt b off cs)
    (gL : oL.guard = none) (hL : oL.op = .load ty xL) (eL : a.eval xL = .pointer (some ⟨b, off, none⟩)) (d : TypeDesc) (hu : P.underlying ty = some d) (hd : d.isRow = true) (hi : (P.info? ty).map (·.size) = some cs.length)
    (gA : oA.guard = none) (hA : (execOp (a.put oL.dst (.agg cs.toArray)).eval oA).run P w = .ok (.value (.pointer (some ⟨w.heap.size, 0, none⟩))) (w.alloc (.cells zs ty)))
    (gM : oM.guard = none) (hM : oM.op = .assign yM) (eM : ((a.put oL.dst (.agg cs.toArray)).put oA.dst (.pointer (some ⟨w.heap.size, 0, none⟩))).eval yM = vM)
    (gS : oS.guard = none) (xS yS : Operand) (hS : oS.op = .store ty xS yS)
    (eS : (((a.put oL.dst (.agg cs.toArray)).put oA.dst (.pointer (some ⟨w.heap.size, 0, none⟩))).put oM.dst vM).eval xS = .pointer (some ⟨w.heap.size, 0, none⟩)) (eS2 : (((a.put oL.dst (.agg cs.toArray)).put oA.dst (.pointer (some ⟨w.heap.size, 0, none⟩))).put oM.dst vM).eval yS = .agg cs.toArray)
    (hz : zs.size = cs.length) (h1 : ∀ u ∈ cs, u.oneCell' = true)
    (h : ∀ c0 w1, c0 = w.heap.size → blk w1 c0 = some cs.toArray → Below w.heap.size w w1 → wpList P ops Q rest ((((a.put oL.dst (.agg cs.toArray)).put oA.dst (.pointer (some ⟨c0, 0, none⟩))).put oM.dst vM).put oS.dst undef) w1) : wpList P ops Q (oL :: oA :: oM :: oS :: rest) a w := by
  refine wpList_load_mid gL ty xL hL b off eL cs d hr hu hd hi ?_
  refine Go.Great.wpList_allocTo gA oA.dst rfl _ (.cells zs ty) hA ?_
  refine wpList_plain gM fun K hK => ?_
  unfold Oper.wp
  simp [execOp, hM, eM, Result.andThen]
  refine hK _ _ ?_
  have hc : setMid zs 0 cs = cs.toArray := by
    have := setMid_list cs [] zs.toList [] (by simpa using hz)
    simpa using this
  refine wpList_store_midB ty xS yS w.heap.size 0 zs cs.toArray cs.toArray (blk_alloc_new _ _ _ rfl) gS hS eS eS2 (by simp; omega) (by rw [hi]; simp) (all_oneCell_toArray h1) hc ?_
  intro w1 kb _ B1 _
  exact h _ w1 rfl kb (B1 _ _ (Nat.le_refl _) ((Below.refl _ _).alloc (Nat.le_refl _) _))
theorem wpList_elem3 {ops : Array Oper} {rest : List Oper} {Q : Exit → Act → World → Prop} {a : Act} {w : World} {oL oA oS : Oper} (ty : TypeId) (xL : Operand) (b off : Nat) (cs : List Value) (zs : Array Value) (hr : w.rangeAt b off cs)
    (gL : oL.guard = none) (hL : oL.op = .load ty xL) (eL : a.eval xL = .pointer (some ⟨b, off, none⟩)) (d : TypeDesc) (hu : P.underlying ty = some d) (hd : d.isRow = true) (hi : (P.info? ty).map (·.size) = some cs.length)
    (gA : oA.guard = none) (hA : (execOp (a.put oL.dst (.agg cs.toArray)).eval oA).run P w = .ok (.value (.pointer (some ⟨w.heap.size, 0, none⟩))) (w.alloc (.cells zs ty)))
    (gS : oS.guard = none) (xS yS : Operand) (hS : oS.op = .store ty xS yS)
    (eS : ((a.put oL.dst (.agg cs.toArray)).put oA.dst (.pointer (some ⟨w.heap.size, 0, none⟩))).eval xS = .pointer (some ⟨w.heap.size, 0, none⟩)) (eS2 : ((a.put oL.dst (.agg cs.toArray)).put oA.dst (.pointer (some ⟨w.heap.size, 0, none⟩))).eval yS = .agg cs.toArray)
    (hz : zs.size = cs.length) (h1 : ∀ u ∈ cs, u.oneCell' = true)
    (h : ∀ c0 w1, c0 = w.heap.size → blk w1 c0 = some cs.toArray → Below w.heap.size w w1 → wpList P ops Q rest (((a.put oL.dst (.agg cs.toArray)).put oA.dst (.pointer (some ⟨c0, 0, none⟩))).put oS.dst undef) w1) : wpList P ops Q (oL :: oA :: oS :: rest) a w := by
  refine wpList_load_mid gL ty xL hL b off eL cs d hr hu hd hi ?_
  refine Go.Great.wpList_allocTo gA oA.dst rfl _ (.cells zs ty) hA ?_
  refine wpList_store_midB ty xS yS w.heap.size 0 zs cs.toArray cs.toArray (blk_alloc_new _ _ _ rfl) gS hS eS eS2 (by simp; omega) (by rw [hi]; simp) (all_oneCell_toArray h1) (setMid_all hz) ?_
  intro w1 kb _ B1 _
  exact h _ w1 rfl kb (B1 _ _ (Nat.le_refl _) ((Below.refl _ _).alloc (Nat.le_refl _) _))
theorem wp_region_elem {Q : Exit → Act → World → Prop} {a : Act} {w : World} {id : Nat} {oI oX oL oA oM oS : Oper} (ty : TypeId) (xL yM : Operand) (vI vM : Value) (b off : Nat) (cs : List Value) (zs : Array Value) (hr : w.rangeAt b off cs)
    (gI : oI.guard = none) (hI : (execOp a.eval oI).run P w = .ok (.value vI) w) (gX : oX.guard = none) (hX : (execOp (a.put oI.dst vI).eval oX).run P w = .ok (.value (.pointer (some ⟨b, off, none⟩))) w)
    (gL : oL.guard = none) (hL : oL.op = .load ty xL) (eL : ((a.put oI.dst vI).put oX.dst (.pointer (some ⟨b, off, none⟩))).eval xL = .pointer (some ⟨b, off, none⟩)) (d : TypeDesc) (hu : P.underlying ty = some d) (hd : d.isRow = true) (hi : (P.info? ty).map (·.size) = some cs.length)
    (gA : oA.guard = none) (hA : (execOp (((a.put oI.dst vI).put oX.dst (.pointer (some ⟨b, off, none⟩))).put oL.dst (.agg cs.toArray)).eval oA).run P w = .ok (.value (.pointer (some ⟨w.heap.size, 0, none⟩))) (w.alloc (.cells zs ty)))
    (gM : oM.guard = none) (hM : oM.op = .assign yM) (eM : ((((a.put oI.dst vI).put oX.dst (.pointer (some ⟨b, off, none⟩))).put oL.dst (.agg cs.toArray)).put oA.dst (.pointer (some ⟨w.heap.size, 0, none⟩))).eval yM = vM)
    (gS : oS.guard = none) (xS yS : Operand) (hS : oS.op = .store ty xS yS)
    (eS : (((((a.put oI.dst vI).put oX.dst (.pointer (some ⟨b, off, none⟩))).put oL.dst (.agg cs.toArray)).put oA.dst (.pointer (some ⟨w.heap.size, 0, none⟩))).put oM.dst vM).eval xS = .pointer (some ⟨w.heap.size, 0, none⟩)) (eS2 : (((((a.put oI.dst vI).put oX.dst (.pointer (some ⟨b, off, none⟩))).put oL.dst (.agg cs.toArray)).put oA.dst (.pointer (some ⟨w.heap.size, 0, none⟩))).put oM.dst vM).eval yS = .agg cs.toArray)
    (hz : zs.size = cs.length) (h1 : ∀ u ∈ cs, u.oneCell' = true)
    (h : ∀ c0 w1, c0 = w.heap.size → blk w1 c0 = some cs.toArray → Below w.heap.size w w1 → Q .normal ((((((a.put oI.dst vI).put oX.dst (.pointer (some ⟨b, off, none⟩))).put oL.dst (.agg cs.toArray)).put oA.dst (.pointer (some ⟨c0, 0, none⟩))).put oM.dst vM).put oS.dst undef) w1) :
    (Code.region id #[oI, oX, oL, oA, oM, oS] false).wp P Q a w := by
  refine wp_region_lit (l := [oI, oX, oL, oA, oM, oS]) ?_
  refine Go.Great.wpList_readTo gI oI.dst rfl vI hI ?_
  refine Go.Great.wpList_readTo gX oX.dst rfl _ hX ?_
  refine wpList_elemT ty xL yM vM b off cs zs hr gL hL eL d hu hd hi gA hA gM hM eM gS xS yS hS eS eS2 hz h1 ?_
  exact h
theorem wp_region_elem0 {Q : Exit → Act → World → Prop} {a : Act} {w : World} {id : Nat} {oX oL oA oS : Oper} (ty : TypeId) (xL : Operand) (b off : Nat) (cs : List Value) (zs : Array Value) (hr : w.rangeAt b off cs)
    (gX : oX.guard = none) (hX : (execOp a.eval oX).run P w = .ok (.value (.pointer (some ⟨b, off, none⟩))) w)
    (gL : oL.guard = none) (hL : oL.op = .load ty xL) (eL : (a.put oX.dst (.pointer (some ⟨b, off, none⟩))).eval xL = .pointer (some ⟨b, off, none⟩)) (d : TypeDesc) (hu : P.underlying ty = some d) (hd : d.isRow = true) (hi : (P.info? ty).map (·.size) = some cs.length)
    (gA : oA.guard = none) (hA : (execOp ((a.put oX.dst (.pointer (some ⟨b, off, none⟩))).put oL.dst (.agg cs.toArray)).eval oA).run P w = .ok (.value (.pointer (some ⟨w.heap.size, 0, none⟩))) (w.alloc (.cells zs ty)))
    (gS : oS.guard = none) (xS yS : Operand) (hS : oS.op = .store ty xS yS)
    (eS : (((a.put oX.dst (.pointer (some ⟨b, off, none⟩))).put oL.dst (.agg cs.toArray)).put oA.dst (.pointer (some ⟨w.heap.size, 0, none⟩))).eval xS = .pointer (some ⟨w.heap.size, 0, none⟩)) (eS2 : (((a.put oX.dst (.pointer (some ⟨b, off, none⟩))).put oL.dst (.agg cs.toArray)).put oA.dst (.pointer (some ⟨w.heap.size, 0, none⟩))).eval yS = .agg cs.toArray)
    (hz : zs.size = cs.length) (h1 : ∀ u ∈ cs, u.oneCell' = true)
    (h : ∀ c0 w1, c0 = w.heap.size → blk w1 c0 = some cs.toArray → Below w.heap.size w w1 → Q .normal ((((a.put oX.dst (.pointer (some ⟨b, off, none⟩))).put oL.dst (.agg cs.toArray)).put oA.dst (.pointer (some ⟨c0, 0, none⟩))).put oS.dst undef) w1) :
    (Code.region id #[oX, oL, oA, oS] false).wp P Q a w := by
  refine wp_region_lit (l := [oX, oL, oA, oS]) ?_
  refine Go.Great.wpList_readTo gX oX.dst rfl _ hX ?_
  refine wpList_load_mid gL ty xL hL b off eL cs d hr hu hd hi ?_
  refine Go.Great.wpList_allocTo gA oA.dst rfl _ (.cells zs ty) hA ?_
  have hc : setMid zs 0 cs = cs.toArray := by
    have := setMid_list cs [] zs.toList [] (by simpa using hz)
    simpa using this
  refine wpList_store_midB ty xS yS w.heap.size 0 zs cs.toArray cs.toArray (blk_alloc_new _ _ _ rfl) gS hS eS eS2 (by simp; omega) (by rw [hi]; simp) (all_oneCell_toArray h1) hc ?_
  intro w1 kb _ B1 _
  exact h _ w1 rfl kb (B1 _ _ (Nat.le_refl _) ((Below.refl _ _).alloc (Nat.le_refl _) _))
end
end Go.Proofs.YthfmkkkdjgkaoaaGreatDoor
namespace Go.Proofs.YthfmkkkdjgkaoaaGreatDoor
open Go.RowKit
def thB (q2 q3 : Bool) (no ot : Int) : Bool := if q2 then (decide (1 ≤ ot) && (decide (ot ≤ 16) && (ot != no))) || (q3 && (ot == 0)) else (ot == 0)
theorem thB_cases (q3 : Bool) (no ot : Int) : (ot < 1 ∧ q3 = false ∧ thB true q3 no ot = false) ∨ (ot < 1 ∧ q3 = true ∧ thB true q3 no ot = (ot == 0)) ∨ (1 ≤ ot ∧ 16 < ot ∧ thB true q3 no ot = false) ∨ (1 ≤ ot ∧ ot ≤ 16 ∧ ot = no ∧ thB true q3 no ot = false) ∨ (1 ≤ ot ∧ ot ≤ 16 ∧ ot ≠ no ∧ thB true q3 no ot = true) := by
  unfold thB
  by_cases h1 : 1 ≤ ot
  · have h0 : (ot == 0) = false := by simp; omega
    by_cases h2 : ot ≤ 16
    · by_cases h3 : ot = no
      · exact .inr (.inr (.inr (.inl ⟨h1, h2, h3, by subst h3; simp [h0]⟩)))
      · exact .inr (.inr (.inr (.inr ⟨h1, h2, h3, by simp [h1, h2, h3]⟩)))
    · exact .inr (.inr (.inl ⟨h1, by omega, by simp [h2, h0]⟩))
  · cases q3
    · exact .inl ⟨by omega, rfl, by simp [h1]⟩
    · exact .inr (.inl ⟨by omega, rfl, by simp [h1]⟩)
def finB (ti no : Int) (q th : Bool) : Int := if (ti < 0 ∨ 1099511627776 < ti ∨ no < 1 ∨ 16 < no) ∨ q = false ∨ th = false then 2 else 0
theorem finB_cases (ti no : Int) (q th : Bool) : (ti < 0 ∧ finB ti no q th = 2) ∨ (0 ≤ ti ∧ 1099511627776 < ti ∧ finB ti no q th = 2) ∨ (0 ≤ ti ∧ ti ≤ 1099511627776 ∧ no < 1 ∧ finB ti no q th = 2) ∨ (0 ≤ ti ∧ ti ≤ 1099511627776 ∧ 1 ≤ no ∧ 16 < no ∧ finB ti no q th = 2) ∨
    (0 ≤ ti ∧ ti ≤ 1099511627776 ∧ 1 ≤ no ∧ no ≤ 16 ∧ q = false ∧ finB ti no q th = 2) ∨ (0 ≤ ti ∧ ti ≤ 1099511627776 ∧ 1 ≤ no ∧ no ≤ 16 ∧ q = true ∧ th = false ∧ finB ti no q th = 2) ∨ (0 ≤ ti ∧ ti ≤ 1099511627776 ∧ 1 ≤ no ∧ no ≤ 16 ∧ q = true ∧ th = true ∧ finB ti no q th = 0) := by
  unfold finB
  by_cases a : ti < 0
  · exact .inl ⟨a, if_pos (.inl (.inl a))⟩
  by_cases b : 1099511627776 < ti
  · exact .inr (.inl ⟨by omega, b, if_pos (.inl (.inr (.inl b)))⟩)
  by_cases c : no < 1
  · exact .inr (.inr (.inl ⟨by omega, by omega, c, if_pos (.inl (.inr (.inr (.inl c))))⟩))
  by_cases d : 16 < no
  · exact .inr (.inr (.inr (.inl ⟨by omega, by omega, by omega, d, if_pos (.inl (.inr (.inr (.inr d))))⟩)))
  cases q
  · exact .inr (.inr (.inr (.inr (.inl ⟨by omega, by omega, by omega, by omega, rfl, if_pos (.inr (.inl rfl))⟩))))
  cases th
  · exact .inr (.inr (.inr (.inr (.inr (.inl ⟨by omega, by omega, by omega, by omega, rfl, rfl, if_pos (.inr (.inr rfl))⟩)))))
  · exact .inr (.inr (.inr (.inr (.inr (.inr ⟨by omega, by omega, by omega, by omega, rfl, rfl, if_neg (by simp [a, b, c, d])⟩)))))
set_option maxRecDepth 100000 in
set_option maxHeartbeats 3200000 in
theorem one_ok (ti no ki ino isq iof ot : Int) (u : Int) (q1 q2 q3 : Bool) (h1 : 1 ≤ ki) (h15 : ki ≤ 15) (e1 : (bits BinOp.and IntKind.i64 u 1 != 0) = q1) (e2 : (bits BinOp.and IntKind.i64 u 2 != 0) = q2) (e3 : (bits BinOp.and IntKind.i64 u 4 != 0) = q3) (w : World) (hT : w.cell? ⟨1, ki.toNat * 2 + 1, none⟩ = some (.int .i64 u)) (hg : 1 < w.heap.size) :
    Calls Tryz.prog 95 #[.agg #[.int .i64 ti, .int .i64 no, .int .i64 ki, .int .i64 ino, .int .u64 isq, .int .i64 iof, .int .i64 ot]] w fun e w' => e = .returned (.int .i64 (finB ti no (if q1 then (idC ino isq iof == 0) else decide (((ino, isq, iof) : Id3) = (0, 0, 0))) (thB q2 q3 no ot))) ∧ Below w.heap.size w w' := by
  have t1 : decide (ki < 1) = false := decide_eq_false (by omega)
  have t2 : decide (15 < ki) = false := decide_eq_false (by omega)
  have i1 : 0 ≤ ki := by omega
  have i2 : ki < 16 := by omega
  have E := fun W => run_idKEq (ino, isq, iof) (0, 0, 0) W
  obtain ⟨z, hz⟩ : ∃ z, decide (((ino, isq, iof) : Id3) = (0, 0, 0)) = z := ⟨_, rfl⟩
  rw [hz] at E ⊢
  clear hz
  have E : ∀ W, Sem.run Tryz.prog (binOp BinOp.eql 52 (.agg #[.int .i64 ino, .int .u64 isq, .int .i64 iof]) (.agg #[.int .i64 0, .int .u64 0, .int .i64 0])) W = .ok (.bool z) W := E
  have gc := fun W => checkID_any ino isq iof W
  obtain ⟨c, hc⟩ : ∃ c, idC ino isq iof = c := ⟨_, rfl⟩
  rw [hc] at gc ⊢
  have GC := Lib.hid gc
  clear hc gc
  obtain ⟨q, hq⟩ : ∃ q, (if q1 then (c == 0) else z) = q := ⟨_, rfl⟩
  obtain ⟨th, hth⟩ : ∃ q, thB q2 q3 no ot = q := ⟨_, rfl⟩
  rw [hq, hth]
  have HQ := Lib.hid hq; have HTH := Lib.hid hth
  clear hq hth
  obtain ⟨R, hR⟩ : ∃ R, finB ti no q th = R := ⟨_, rfl⟩
  have HF := Lib.hid (finB_cases ti no q th)
  rw [hR] at HF ⊢
  clear hR
  go_enter Tryz.func95, Tryz.ntmps95
  go_upto_region 4 with fail
  refine wp_region_in (by kernel_rfl) (by kernel_rfl) ?_
  intro W0_1 hE_1 hN_1
  have bW0_1 : Below w.heap.size w W0_1 := (by rw [hE_1.out]; (repeat (first | (with_reducible assumption) | (with_reducible exact Below.refl _ _) | (with_reducible refine beld_drew ?_) | ((with_reducible refine bset' ?_ ?_); (first | (focus (dsimp only; assumption)) | (focus (simp; done)) | (focus (dsimp only; omega)))) | (with_reducible refine belt_alloc ?_) | ((with_reducible refine zeroed_below' ?_ ?_); (first | (focus (simp; done)) | (focus (dsimp only; omega)))) | (with_reducible refine bt ?_ (by assumption)))))
  have kk2 : blk W0_1 (w.heap.size) = some #[.int .i64 ti, .int .i64 no, .int .i64 ki, .int .i64 ino, .int .u64 isq, .int .i64 iof, .int .i64 ot] := (by rw [hE_1.out]; (apply blk_to; (focus (repeat (first | (with_reducible assumption) | (with_reducible apply blk_drew) | (with_reducible apply blk_set) | ((with_reducible apply blk_other'); (first | (focus (dsimp only; assumption)) | (focus (simp; done)) | (focus (dsimp only; omega)))) | ((with_reducible apply blk_alloc_new); (first | (with_reducible rfl) | (focus (simp; done)) | (focus (simp; omega)))) | (with_reducible apply blk_alloc) | ((with_reducible apply blk_below); (with_reducible assumption))))); rfl))
  have kn2 := calm_kn kk2
  clear hE_1
  repeat (go_big_quiet_step ((fail)))
  refine wpQuiet_nil ?_
  rintro _ ⟨x_1, rfl⟩
  have hx_1 : Calm W0_1 x_1.wd := x_1.ok
  have bw1 : Below w.heap.size w x_1.wd := bt bW0_1 hx_1
  clear kn2; replace kk2 := blk_below hx_1 kk2; have kn2 := kn kk2
  clear hx_1 bW0_1 hN_1
  generalize x_1.wd = w1 at *
  clear E
  go_upto_if 28 with fail
  go_cut [4] from 29 (fun s4 wq => s4 = .bool q ∧ blk wq w.heap.size = some #[.int .i64 ti, .int .i64 no, .int .i64 ki, .int .i64 ino, .int .u64 isq, .int .i64 iof, .int .i64 ot] ∧ Below w.heap.size w wq)
  case first =>
    cases q1
    · go_wp2
      go_meet
      case rel => exact ⟨by rw [← HQ.out]; rfl, by (apply blk_to; (focus (repeat (first | (with_reducible assumption) | (with_reducible apply blk_drew) | (with_reducible apply blk_set) | ((with_reducible apply blk_other'); (first | (focus (dsimp only; assumption)) | (focus (simp; done)) | (focus (dsimp only; omega)))) | ((with_reducible apply blk_alloc_new); (first | (with_reducible rfl) | (focus (simp; done)) | (focus (simp; omega)))) | (with_reducible apply blk_alloc) | ((with_reducible apply blk_below); (with_reducible assumption))))); rfl), by (repeat (first | (with_reducible assumption) | (with_reducible exact Below.refl _ _) | (with_reducible refine beld_drew ?_) | ((with_reducible refine bset' ?_ ?_); (first | (focus (dsimp only; assumption)) | (focus (simp; done)) | (focus (dsimp only; omega)))) | (with_reducible refine belt_alloc ?_) | ((with_reducible refine zeroed_below' ?_ ?_); (first | (focus (simp; done)) | (focus (dsimp only; omega)))) | (with_reducible refine bt ?_ (by assumption))))⟩
    · go_wp2_with (go_at_call 52; (with_reducible refine (GC.out _).mono ?_); rintro e w2 ⟨rfl, h2⟩)
      go_meet
      case rel => exact ⟨by rw [← HQ.out]; rfl, by (apply blk_to; (focus (repeat (first | (with_reducible assumption) | (with_reducible apply blk_drew) | (with_reducible apply blk_set) | ((with_reducible apply blk_other'); (first | (focus (dsimp only; assumption)) | (focus (simp; done)) | (focus (dsimp only; omega)))) | ((with_reducible apply blk_alloc_new); (first | (with_reducible rfl) | (focus (simp; done)) | (focus (simp; omega)))) | (with_reducible apply blk_alloc) | ((with_reducible apply blk_below); (with_reducible assumption))))); rfl), by (repeat (first | (with_reducible assumption) | (with_reducible exact Below.refl _ _) | (with_reducible refine beld_drew ?_) | ((with_reducible refine bset' ?_ ?_); (first | (focus (dsimp only; assumption)) | (focus (simp; done)) | (focus (dsimp only; omega)))) | (with_reducible refine belt_alloc ?_) | ((with_reducible refine zeroed_below' ?_ ?_); (first | (focus (simp; done)) | (focus (dsimp only; omega)))) | (with_reducible refine bt ?_ (by assumption))))⟩
  case rest =>
  obtain ⟨rfl, kb, b2⟩ := hcut
  clear kk2 kn2 bw1 GC e1 HQ
  have nb := kn kb
  go_upto_if 35 with fail
  go_cut [5] from 36 (fun s5 wq => s5 = .bool th ∧ wq = wc)
  case first =>
    cases q2
    · go_wp2
      go_meet
      case rel => exact ⟨by rw [← HTH.out]; rfl, rfl⟩
    · have hc := thB_cases q3 no ot
      rw [HTH.out] at hc
      clear HTH HF
      rcases hc with ⟨n1, rfl, rfl⟩ | ⟨n1, rfl, rfl⟩ | ⟨n1, n2, rfl⟩ | ⟨n1, n2, n3, rfl⟩ | ⟨n1, n2, n3, rfl⟩
      · have g1 : decide (1 ≤ ot) = false := decide_eq_false (by omega)
        have g2 : decide (ot ≥ 1) = false := g1
        go_wp2
        go_meet
        case rel => exact ⟨rfl, rfl⟩
      · have g1 : decide (1 ≤ ot) = false := decide_eq_false (by omega)
        go_wp2
        go_meet
        case rel => exact ⟨rfl, rfl⟩
      · have g1 : decide (1 ≤ ot) = true := decide_eq_true (by omega)
        have g2 : decide (ot ≤ 16) = false := decide_eq_false (by omega)
        have g3 : (ot == 0) = false := by simp; omega
        cases q3 <;> (go_wp2; go_meet; case rel => exact ⟨rfl, rfl⟩)
      · have g1 : decide (1 ≤ ot) = true := decide_eq_true (by omega)
        have g2 : decide (ot ≤ 16) = true := decide_eq_true (by omega)
        have g3 : (ot == 0) = false := by simp; omega
        have g4 : (ot != no) = false := by simp [n3]
        clear n3
        cases q3 <;> (go_wp2; go_meet; case rel => exact ⟨rfl, rfl⟩)
      · have g1 : decide (1 ≤ ot) = true := decide_eq_true (by omega)
        have g2 : decide (ot ≤ 16) = true := decide_eq_true (by omega)
        have g4 : (ot != no) = true := by simp [n3]
        clear n3
        go_wp2
        go_meet
        case rel => exact ⟨rfl, rfl⟩
  case rest =>
  obtain ⟨rfl, rfl⟩ := hcut
  clear e2 e3 HTH
  have HB := Lib.hid b2
  clear b2 kb
  rcases HF.out with ⟨n1, rfl⟩ | ⟨n1, n2, rfl⟩ | ⟨n1, n2, n3, rfl⟩ | ⟨n1, n2, n3, n4, rfl⟩ | ⟨n1, n2, n3, n4, rfl, rfl⟩ | ⟨n1, n2, n3, n4, rfl, rfl, rfl⟩ | ⟨n1, n2, n3, n4, rfl, rfl, rfl⟩
  · have g1 : decide (ti < 0) = true := decide_eq_true n1
    clear HF
    go_wp2
    go_ret
    exact ⟨rfl, HB.out⟩
  · have g1 : decide (ti < 0) = false := decide_eq_false (by omega)
    have g2 : decide (1099511627776 < ti) = true := decide_eq_true n2
    clear HF
    go_wp2
    go_ret
    exact ⟨rfl, HB.out⟩
  all_goals
    have g1 : decide (ti < 0) = false := decide_eq_false (by omega)
    have g2 : decide (1099511627776 < ti) = false := decide_eq_false (by omega)
  · have g3 : decide (no < 1) = true := decide_eq_true n3
    clear HF
    go_wp2
    go_ret
    exact ⟨rfl, HB.out⟩
  · have g3 : decide (no < 1) = false := decide_eq_false (by omega)
    have g4 : decide (16 < no) = true := decide_eq_true n4
    clear HF
    go_wp2
    go_ret
    exact ⟨rfl, HB.out⟩
  all_goals
    have g3 : decide (no < 1) = false := decide_eq_false (by omega)
    have g4 : decide (16 < no) = false := decide_eq_false (by omega)
    clear HF
    go_wp2
    go_ret
    exact ⟨rfl, HB.out⟩
set_option maxRecDepth 100000 in
theorem one_kind (o : Oc) (h : o.ki < 1 ∨ 15 < o.ki) (w : World) : Calls Tryz.prog 95 #[.agg (oc o).toArray] w fun e w' => e = .returned (.int .i64 7) ∧ Below w.heap.size w w' := by
  obtain ⟨ti, no, ki, ino, isq, iof, ot⟩ := o
  show Calls Tryz.prog 95 #[.agg #[.int .i64 ti, .int .i64 no, .int .i64 ki, .int .i64 ino, .int .u64 isq, .int .i64 iof, .int .i64 ot]] w _
  have h : ki < 1 ∨ 15 < ki := h
  rcases h with h | h
  · have t1 : decide (ki < 1) = true := decide_eq_true h
    go_enter Tryz.func95, Tryz.ntmps95
    go_wp2
    go_ret
    exact ⟨rfl, by (repeat (first | (with_reducible assumption) | (with_reducible exact Below.refl _ _) | (with_reducible refine beld_drew ?_) | ((with_reducible refine bset' ?_ ?_); (first | (focus (dsimp only; assumption)) | (focus (simp; done)) | (focus (dsimp only; omega)))) | (with_reducible refine belt_alloc ?_) | ((with_reducible refine zeroed_below' ?_ ?_); (first | (focus (simp; done)) | (focus (dsimp only; omega)))) | (with_reducible refine bt ?_ (by assumption))))⟩
  · have t1 : decide (ki < 1) = false := decide_eq_false (by omega)
    have t2 : decide (15 < ki) = true := decide_eq_true h
    go_enter Tryz.func95, Tryz.ntmps95
    go_wp2
    go_ret
    exact ⟨rfl, by (repeat (first | (with_reducible assumption) | (with_reducible exact Below.refl _ _) | (with_reducible refine beld_drew ?_) | ((with_reducible refine bset' ?_ ?_); (first | (focus (dsimp only; assumption)) | (focus (simp; done)) | (focus (dsimp only; omega)))) | (with_reducible refine belt_alloc ?_) | ((with_reducible refine zeroed_below' ?_ ?_); (first | (focus (simp; done)) | (focus (dsimp only; omega)))) | (with_reducible refine bt ?_ (by assumption))))⟩
theorem use_bits (k : Int) (h1 : 1 ≤ k) (h15 : k ≤ 15) : (bits BinOp.and IntKind.i64 (useN k) 1 != 0) = useI k ∧ (bits BinOp.and IntKind.i64 (useN k) 2 != 0) = useO k ∧ (bits BinOp.and IntKind.i64 (useN k) 4 != 0) = decide (k = 12) := by
  have h : k = 1 ∨ k = 2 ∨ k = 3 ∨ k = 4 ∨ k = 5 ∨ k = 6 ∨ k = 7 ∨ k = 8 ∨ k = 9 ∨ k = 10 ∨ k = 11 ∨ k = 12 ∨ k = 13 ∨ k = 14 ∨ k = 15 := by omega
  rcases h with rfl | rfl | rfl | rfl | rfl | rfl | rfl | rfl | rfl | rfl | rfl | rfl | rfl | rfl | rfl <;> decide
theorem idC_two (no sq of : Int) : idC no sq of = 0 ∨ idC no sq of = 2 := by
  rcases idC_cases no sq of with ⟨h, _⟩ | ⟨h, _⟩ <;> simp [h]
theorem oneC_ok {o : Oc} (h1 : 1 ≤ o.ki) (h15 : o.ki ≤ 15) : oneC o = finB o.ti o.no (if useI o.ki then (idC o.ino o.isq o.iof == 0) else decide (((o.ino, o.isq, o.iof) : Id3) = (0, 0, 0))) (thB (useO o.ki) (decide (o.ki = 12)) o.no o.ot) := by
  have e : othB o = thB (useO o.ki) (decide (o.ki = 12)) o.no o.ot := by
    unfold othB thB
    cases hO : useO o.ki
    · have : o.ki ≠ 12 := by intro h; rw [h] at hO; exact absurd hO (by decide)
      by_cases h : o.ot = 0 <;> simp [h]
    · by_cases h12 : o.ki = 12
      · by_cases h0 : o.ot = 0
        · simp [h12, h0]
        · simp only [h12, h0, decide_true, decide_false, Bool.and_false, Bool.not_false, Bool.and_true, if_true, Bool.true_and, beq_iff_eq, show (o.ot == 0) = false by simp [h0], Bool.or_false]
          by_cases a : 1 ≤ o.ot <;> by_cases b : o.ot ≤ 16 <;> by_cases c : o.ot = o.no <;> simp [a, b, c]
      · simp only [h12, decide_false, Bool.false_and, Bool.not_false, Bool.and_true, if_true, Bool.or_false]
        by_cases a : 1 ≤ o.ot <;> by_cases b : o.ot ≤ 16 <;> by_cases c : o.ot = o.no <;> simp [a, b, c]
  unfold oneC finB
  rw [if_neg (by omega), ← e]
  by_cases hb : o.ti < 0 ∨ 1099511627776 < o.ti ∨ o.no < 1 ∨ 16 < o.no
  · rw [if_pos (by rcases hb with h | h | h | h <;> simp [h]), if_pos (.inl hb)]
  · by_cases ho : othB o = false
    · rw [if_pos (by simp [ho]), if_pos (.inr (.inr ho))]
    · have ho' : othB o = true := by simpa using ho
      rw [if_neg (by simp only [ho']; simp; omega)]
      cases hI : useI o.ki
      · by_cases hz : oid o = (0, 0, 0)
        · have hz' : ((o.ino, o.isq, o.iof) : Id3) = (0, 0, 0) := hz
          simp [hz, hz', ho', hb]
        · have hz' : ¬ ((o.ino, o.isq, o.iof) : Id3) = (0, 0, 0) := hz
          simp [hz, hz', ho', hb]
      · rcases idC_two o.ino o.isq o.iof with h | h
        · simp [h, ho', hb]
        · simp [h]
theorem one_any (o : Oc) (w : World) (hT : FTab w) : Calls Tryz.prog 95 #[.agg (oc o).toArray] w fun e w' => e = .returned (.int .i64 (oneC o)) ∧ Below w.heap.size w w' := by
  by_cases h : o.ki < 1 ∨ 15 < o.ki
  · have := one_kind o h w
    have e : oneC o = 7 := by unfold oneC; rw [if_pos h]
    rwa [e]
  · have h1 : 1 ≤ o.ki := by omega
    have h15 : o.ki ≤ 15 := by omega
    rw [oneC_ok h1 h15]
    obtain ⟨b1, b2, b3⟩ := use_bits o.ki h1 h15
    have hc := hT.cell o.ki (by omega) (by omega)
    have hl : 1 < w.heap.size := by
      unfold World.cell? at hc
      cases ho : w.heap[1]? with
      | none => simp [ho] at hc
      | some x => exact (Array.getElem?_eq_some_iff.1 ho).1
    obtain ⟨ti, no, ki, ino, isq, iof, ot⟩ := o
    exact one_ok ti no ki ino isq iof ot (useN ki) _ _ _ h1 h15 b1 b2 b3 w hc hl
end Go.Proofs.YthfmkkkdjgkaoaaGreatDoor
namespace Go.Proofs.YthfmkkkdjgkaoaaGreatDoor
open Go.RowKit
set_option maxRecDepth 100000 in
set_option maxHeartbeats 3200000 in
theorem tcheck_any (a : Option Addr) (cap : Nat) (l : List Oc) (w : World) (hT : FTab w) (hrow : SRow oc 7 w a cap l) :
    Calls Tryz.prog 76 #[.slice a l.length cap] w fun e w' => e = .returned (.tuple #[.int .i64 (trcC l).1, .int .i64 (trcC l).2]) ∧ Below w.heap.size w w' := by
  have HR := Lib.hid hrow
  have HT := Lib.hid hT
  clear hrow hT
  by_cases h0 : 5000 < l.length
  · have e : trcC l = (5, 0) := by unfold trcC; rw [if_pos h0]
    rw [e]
    have t0 : decide ((5000 : Int) < (l.length : Int)) = true := decide_eq_true (by omega)
    clear e
    go_enter Tryz.func76, Tryz.ntmps76
    go_wp2
    go_ret2
    exact ⟨rfl, Below.refl _ _⟩
  · have t0 : decide ((5000 : Int) < (l.length : Int)) = false := decide_eq_false (by omega)
    have hcap := HR.out.1
    have hmax := HR.out.2.1
    unfold maxLen at hmax
    go_enter Tryz.func76, Tryz.ntmps76
    go_wp2
    go_loopw [12] (fun i wr => ∃ j : Nat, i = .int .i64 j ∧ j ≤ l.length ∧ Below w.heap.size w wr ∧ Hid (∀ k < j, trcAt l k = 0)) (fun i _ => l.length - (intOf i).toNat)
    case atStart => exact ⟨0, rfl, Nat.zero_le _, Below.refl _ _, Lib.hid (fun k hk => absurd hk (by omega))⟩
    case round =>
      obtain ⟨j, rfl, hj, hB, HM⟩ := hrel
      by_cases hlt : j < l.length
      · have hltz : (j : Int) < (l.length : Int) := by omega
        obtain ⟨b, off, hab, hbl, hcs⟩ := (HR.out.below hB).2.2.2 (by omega)
        subst hab
        obtain ⟨x, hx⟩ : ∃ x, x = l[j] := ⟨_, rfl⟩
        have hr := hcs j hlt
        rw [← hx] at hr
        have HX := Lib.hid hx
        clear hx hcs
        go_upto_region 5 with fail
        refine wp_region_elem 56 (.tmp 15) (.tmp 14) (.int .i64 j) (.int .i64 j) b (off + j * 7) (oc x) #[.int .i64 0, .int .i64 0, .int .i64 0, .int .i64 0, .int .u64 0, .int .i64 0, .int .i64 0] hr rfl rfl rfl (by go_simp) rfl rfl rfl _ Tryz.underlying56 rfl (by kernel_rfl) rfl (by kernel_rfl) rfl rfl rfl rfl _ _ rfl rfl rfl rfl (oc_one x) ?_
        intro c0 w1 hc0 kb hB1
        conv => arg 4; simp [Act.put]
        have hB2 : Below w.heap.size w w1 := bt hB hB1
        have kb : blk w1 c0 = some #[.int .i64 x.ti, .int .i64 x.no, .int .i64 x.ki, .int .i64 x.ino, .int .u64 x.isq, .int .i64 x.iof, .int .i64 x.ot] := kb
        have nk := kn kb
        have g1 : Calls Tryz.prog 95 #[.agg #[.int .i64 x.ti, .int .i64 x.no, .int .i64 x.ki, .int .i64 x.ino, .int .u64 x.isq, .int .i64 x.iof, .int .i64 x.ot]] w1 fun e w' => e = .returned (.int .i64 (oneC x)) ∧ Below w1.heap.size w1 w' := one_any x w1 (HT.out.on hB2)
        have hA : trcAt l j = if oneC x ≠ 0 then oneC x else if 0 < j ∧ x.ti < (l[j - 1]'(by omega)).ti then 19 else 0 := by rw [trcAt_eq hlt, HX.out]
        obtain ⟨v, hv⟩ : ∃ v, oneC x = v := ⟨_, rfl⟩
        obtain ⟨tv, htv⟩ : ∃ v, trcAt l j = v := ⟨_, rfl⟩
        rw [hv] at g1 hA
        rw [htv] at hA
        have G1 := Lib.hid g1
        have HTV := Lib.hid htv
        have HA := Lib.hid hA
        have hlb : b < w1.heap.size := Nat.lt_of_lt_of_le hbl hB1.size
        clear hv g1 hr hc0 htv hA hbl hB hB1
        have bad : tv ≠ 0 → trcC l = (tv, (j : Int)) := fun h => by
          unfold trcC
          rw [if_neg h0, firC_at hlt HM.out (by rw [HTV.out]; exact h), HTV.out]; rfl
        have BAD := Lib.hid bad
        clear bad
        by_cases hv0 : v = 0
        · subst hv0
          have q0 : ((0 : Int) != 0) = false := rfl
          have stp : tv = 0 → ∀ k < j + 1, trcAt l k = 0 := fun h k hk => by
            rcases Nat.lt_or_ge k j with h5 | h5
            · exact HM.out k h5
            · obtain rfl : k = j := by omega
              rw [HTV.out]; exact h
          have STP := Lib.hid stp
          clear stp
          by_cases hj0 : j = 0
          · subst hj0
            have htv : tv = 0 := by rw [HA.out]; simp
            have HZ := Lib.hid htv
            clear htv HA
            have j0 : decide ((0 : Int) < ((0 : Nat) : Int)) = false := rfl
            go_upto_region 9 with (go_at_call 95; (with_reducible refine (G1.out).mono ?_); rintro e w2 ⟨rfl, h2⟩; (have kb2 := blk_below h2 kb); clear nk; (have nk := kn kb2); (have hB3 := bt hB2 h2))
            refine wp_region_in (by kernel_rfl) (by kernel_rfl) ?_
            intro W0_1 hE_1 hN_1
            have bW0_1 : Below w.heap.size w W0_1 := (by rw [hE_1.out]; (repeat (first | (with_reducible assumption) | (with_reducible exact Below.refl _ _) | (with_reducible refine beld_drew ?_) | ((with_reducible refine bset' ?_ ?_); (first | (focus (dsimp only; assumption)) | (focus (simp; done)) | (focus (dsimp only; omega)))) | (with_reducible refine belt_alloc ?_) | ((with_reducible refine zeroed_below' ?_ ?_); (first | (focus (simp; done)) | (focus (dsimp only; omega)))) | (with_reducible refine bt ?_ (by assumption)))))
            have kk2 : blk W0_1 (c0) = some #[.int .i64 x.ti, .int .i64 x.no, .int .i64 x.ki, .int .i64 x.ino, .int .u64 x.isq, .int .i64 x.iof, .int .i64 x.ot] := (by rw [hE_1.out]; (apply blk_to; (focus (repeat (first | (with_reducible assumption) | (with_reducible apply blk_drew) | (with_reducible apply blk_set) | ((with_reducible apply blk_other'); (first | (focus (dsimp only; assumption)) | (focus (simp; done)) | (focus (dsimp only; omega)))) | ((with_reducible apply blk_alloc_new); (first | (with_reducible rfl) | (focus (simp; done)) | (focus (simp; omega)))) | (with_reducible apply blk_alloc) | ((with_reducible apply blk_below); (with_reducible assumption))))); rfl))
            have kn2 := calm_kn kk2
            clear hE_1
            repeat (go_big_quiet_step ((fail)))
            refine wpQuiet_nil ?_
            rintro _ ⟨x_1, rfl⟩
            have hx_1 : Calm W0_1 x_1.wd := x_1.ok
            have bw3 : Below w.heap.size w x_1.wd := bt bW0_1 hx_1
            clear kn2; replace kk2 := blk_below hx_1 kk2; have kn2 := kn kk2
            clear hx_1 bW0_1 hN_1
            generalize x_1.wd = w3 at *
            go_wp2
            go_roundw
            case rel => exact ⟨0 + 1, by go_num, by omega, by assumption, Lib.hid (STP.out HZ.out)⟩
            case measure => simp [intOf]; omega
          · obtain ⟨k, hjk⟩ : ∃ k, j = k + 1 := ⟨j - 1, by omega⟩
            have j0 : decide ((0 : Int) < (j : Int)) = true := decide_eq_true (by omega)
            have j0' : decide (0 < j) = true := decide_eq_true (by omega)
            have m1 : IntKind.i64.wrap ((j : Int) - 1) = (k : Int) := (IntWalk.i64_in _ (by omega)).trans (by omega)
            have kl : (k : Int) < (l.length : Int) := by omega
            have hkl : k < l.length := by omega
            obtain ⟨p, hp⟩ : ∃ p, p = l[k] := ⟨_, rfl⟩
            have HP := Lib.hid hp
            have hA2 : tv = if x.ti < p.ti then 19 else 0 := by
              rw [HA.out, if_neg (by simp)]
              have e : l[j - 1] = p := by rw [HP.out]; congr 1; omega
              rw [e]
              by_cases h : x.ti < p.ti
              · rw [if_pos ⟨by omega, h⟩, if_pos h]
              · rw [if_neg (by simp [h]), if_neg h]
            have HJ := Lib.hid hjk
            clear HA hp hjk hj0
            obtain ⟨q, hq⟩ : ∃ q, decide (x.ti < p.ti) = q := ⟨_, rfl⟩
            have hv : (q = true ∧ tv = 19) ∨ (q = false ∧ tv = 0) := by
              rw [hA2, ← hq]
              by_cases h : x.ti < p.ti <;> simp [h]
            have hun : undef = Value.tuple #[] := rfl
            clear hA2
            go_upto_region 9 with (go_at_call 95; (with_reducible refine (G1.out).mono ?_); rintro e w2 ⟨rfl, h2⟩; (have kb2 := blk_below h2 kb); clear nk; (have nk := kn kb2); (have hB3 := bt hB2 h2); (have hlb2 := Nat.lt_of_lt_of_le hlb h2.size))
            refine wp_region_in (by kernel_rfl) (by kernel_rfl) ?_
            intro W0 hE hN
            have q1 : blk W0 c0 = some #[.int .i64 x.ti, .int .i64 x.no, .int .i64 x.ki, .int .i64 x.ino, .int .u64 x.isq, .int .i64 x.iof, .int .i64 x.ot] := (by rw [hE.out]; exact kb2)
            have q2 : Below w.heap.size w W0 := (by rw [hE.out]; exact hB3)
            have q3 : b < W0.heap.size := (by rw [hE.out]; exact hlb2)
            have n1 := calm_kn q1
            have n2 : ∀ X : Class (Calm W0), X.wd.cell? ⟨b, off + k * 7, none⟩ = some (.int .i64 p.ti) := fun X => by
              obtain ⟨b', o', e', _, hc⟩ := (HR.out.below (q2.trans (X.ok.mono q2.size))).2.2.2 (by omega)
              cases e'
              have := hc k hkl 0 _ rfl
              rw [HP.out]
              exact this
            clear hE hB3 kb2 nk hlb2
            repeat (go_big_quiet_step (fail))
            refine wpQuiet_nil ?_
            rintro _ ⟨x', rfl⟩
            have b3 := bt q2 x'.ok
            obtain ⟨u, hu⟩ : ∃ u, u = x'.wd := ⟨_, rfl⟩
            rw [← hu] at b3 ⊢
            (try simp only [← hun])
            clear hu x' hN q1 q2 q3 n1 n2 hun
            rcases hv with ⟨rfl, rfl⟩ | ⟨rfl, rfl⟩
            · have he := BAD.out (by decide)
              have HE := Lib.hid he
              clear he
              go_wp2
              go_ret2
              exact ⟨by rw [HE.out]; rfl, b3⟩
            · go_wp2
              go_roundw
              case rel => exact ⟨j + 1, by go_num, by omega, b3, Lib.hid (STP.out rfl)⟩
              case measure => simp [intOf]; omega
        · have q0 : (v != 0) = true := by simpa using hv0
          have htv : tv = v := by rw [HA.out, if_pos hv0]
          have he := BAD.out (by rw [htv]; exact hv0)
          rw [htv] at he
          have HE := Lib.hid he
          clear hv0 htv he
          go_wp2_with (go_at_call 95; (with_reducible refine (G1.out).mono ?_); rintro e w2 ⟨rfl, h2⟩)
          go_ret2
          exact ⟨by rw [HE.out]; rfl, bt hB2 h2⟩
      · obtain rfl : j = l.length := by omega
        have e : trcC l = (0, 0) := by unfold trcC; rw [if_neg h0, firC_none HM.out]; rfl
        have HE := Lib.hid e
        clear e
        go_wp2
        go_ret2
        exact ⟨by rw [HE.out]; rfl, hB⟩
set_option maxRecDepth 100000 in
theorem tvalid_any (a : Option Addr) (cap : Nat) (l : List Oc) (w : World) (hT : FTab w) (hrow : SRow oc 7 w a cap l) :
    Calls Tryz.prog 51 #[.slice a l.length cap] w fun e w' => e = .returned (.int .i64 (trcC l).1) ∧ Below w.heap.size w w' := by
  have g := Lib.hid (tcheck_any a cap l w hT hrow)
  clear hT hrow
  go_enter Tryz.func51, Tryz.ntmps51
  go_wp2_with (go_at_call 76; (with_reducible refine (g.out).mono ?_); rintro e w2 ⟨rfl, h2⟩)
  go_ret
  exact ⟨rfl, h2⟩
end Go.Proofs.YthfmkkkdjgkaoaaGreatDoor
