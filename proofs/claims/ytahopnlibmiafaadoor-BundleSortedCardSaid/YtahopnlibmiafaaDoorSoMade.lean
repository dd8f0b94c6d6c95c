/- packhorsekit.Bundles: at most 'most' valid bundles made of numbers, with different IDs (under way). -/
import Derived.Test.YtahopnlibmiafaaDoorSoSort
import Derived.Test.YtahopnlibmiafaaDoorSlice
import Derived.Test.YtahopnlibmiafaaDoorBuKit
namespace Go.Proofs.YtahopnlibmiafaaDoor
set_option linter.unusedVariables false
open Go.RowKit
theorem wpList_callS {P : Program} {ops : Array Oper} {rest : List Oper} {o : Oper} {a : Act} {w : World} {Q : Exit → Act → World → Prop} (hg : o.guard = none) (d : Option Tmp) (hd : o.dst = d)
    (f : FuncId) (args : Array Value) (hrun : (execOp a.eval o).run P w = .ok (.enter f args) w) (R : Value → World → Prop)
    (hc : Calls P f args w fun e w' => ∃ v, e = .returned v ∧ R v w')
    (h : ∀ v w', R v w' → wpList P ops Q rest (a.put d v) w') : wpList P ops Q (o :: rest) a w := by
  subst hd
  refine wpList_plain hg fun K hK => ?_
  unfold Oper.wp
  rw [hrun, Oper.upon_enter]
  refine hc.mono fun e w' hh => ?_
  obtain ⟨v, rfl, hR⟩ := hh
  exact hK _ _ (h v w' hR)
/-- The bundle made of a number, at place i. -/
def mkB (k : Int) (i : Nat) (da : ByteArray) : Bn := ⟨1 + k % 4, i, 0, 1 + k / 200 % 4, k / 800 % 3, k / 2400 % 20, 1 + k / 48000 % 60, k % 17 + 1, da⟩
theorem mkB_v {k : Int} {i : Nat} {da : ByteArray} (h : MadeOf k da) (hi : i < 50) : BnV (mkB k i da) := by
  obtain ⟨h0, h1, h2⟩ := h
  unfold BnV mkB
  simp only
  have hI : okI (1 + k % 4) i 0 := (by unfold okI; omega)
  have hN : okN (1 + k / 200 % 4) (k / 800 % 3) (k / 2400 % 20) (1 + k / 48000 % 60) (k % 17 + 1) := (by unfold okN; omega)
  rcases buC_cases (1 + k % 4) i 0 (1 + k / 200 % 4) (k / 800 % 3) (k / 2400 % 20) (1 + k / 48000 % 60) (k % 17 + 1) da.size with h | h | h | h | h | h
  · exact absurd hI h.2
  · exact absurd hN h.2.2
  · exfalso; have := h.2.2.2; omega
  · exfalso; have := h.2.2.2.2; omega
  · exfalso; have := h.2.2.2.2.2; omega
  · exact h.1
/-- What Bundles has made of the first numbers. -/
def MkL (zs : List Int) (l : List Bn) : Prop := ∀ i (h : i < l.length), ∃ da, MadeOf (zs.getD i 0 % 1073741824) da ∧ l[i] = mkB (zs.getD i 0 % 1073741824) i da
theorem MkL.snoc {zs : List Int} {l : List Bn} (h : MkL zs l) {da : ByteArray} (hd : MadeOf (zs.getD l.length 0 % 1073741824) da) : MkL zs (l ++ [mkB (zs.getD l.length 0 % 1073741824) l.length da]) := by
  intro i hi
  by_cases hl : i < l.length
  · obtain ⟨d, h1, h2⟩ := h i hl
    exact ⟨d, h1, by rw [List.getElem_append_left hl]; exact h2⟩
  · have : i = l.length := by simp at hi; omega
    subst this
    exact ⟨da, hd, by simp⟩
theorem MkL.valid {zs : List Int} {l : List Bn} (h : MkL zs l) (hl : l.length ≤ 20) : ∀ b ∈ l, BnV b := by
  intro b hb
  obtain ⟨i, hi, rfl⟩ := List.getElem_of_mem hb
  obtain ⟨da, h1, h2⟩ := h i hi
  rw [h2]
  exact mkB_v h1 (by omega)
theorem MkL.sq {zs : List Int} {l : List Bn} (h : MkL zs l) (i : Nat) (hi : i < l.length) : l[i].sq = i := by
  obtain ⟨da, _, h2⟩ := h i hi
  rw [h2]; rfl
theorem MkL.inj {zs : List Int} {l : List Bn} (h : MkL zs l) : l.Pairwise (fun a b => a ≠ b) := by
  rw [List.pairwise_iff_getElem]
  intro i j hi hj hij e
  have h1 := h.sq i hi
  have h2 := h.sq j hj
  rw [e, h2] at h1
  omega
theorem wp_fresh1 {P : Program} {cd : Code} {Q : Exit → Act → World → Prop} {a : Act} {W w0 w1 : World} {B B1 : Nat} (b : Nat) (c : Array Value) (h1 : blk W b = some c) (hB : Below B w0 W) (hB1 : Below B1 w1 W)
    (h : ∀ w', blk w' b = some c → Below B w0 w' → Below B1 w1 w' → cd.wp P Q a w') : cd.wp P Q a W := h W h1 hB hB1
set_option maxRecDepth 100000 in
set_option maxHeartbeats 3200000 in
theorem bundles_any (a : Option Addr) (cap : Nat) (zs : List Int) (w : World) (hrow : Row .i64 w a cap zs) :
    Calls Tryd.prog 17 #[.slice a zs.length cap, .int .i64 20] w fun e w' => ∃ v l, e = .returned v ∧ MkL zs l ∧ l.length ≤ 20 ∧ w'.ownsRow w.heap.size 28 9 v l.length (rowC bn l) ∧ Below w.heap.size w w' := by
  obtain ⟨i2, hi', hz0', hz1', hz2'⟩ := info_parts infoBu
  have Hj := Lib.hid hi'; have Hy0 := Lib.hid hz0'; have Hy1 := Lib.hid hz1'; have Hy2 := Lib.hid hz2'
  clear hi' hz0' hz1' hz2'
  have HR := Lib.hid hrow
  have hz2 := hrow.2.1
  have hz1 := hrow.1
  unfold maxLen at hz2
  clear hrow
  go_enter Tryd.func17, Tryd.ntmps17
  go_wp2
  go_loopw [5, 6] (fun o i wr => ∃ l : List Bn, i = .int .i64 l.length ∧ l.length ≤ 20 ∧ l.length ≤ zs.length ∧ Below w.heap.size w wr ∧ Hid (MkL zs l ∧ wr.ownsRow w.heap.size 28 9 o l.length (rowC bn l))) (fun _ i _ => 20 - (intOf i).toNat)
  case atStart => exact ⟨[], rfl, by simp, by simp, Below.refl _ _, Lib.hid ⟨fun i h => absurd h (by simp), by simpa [rowC] using World.ownsRow_nil w _ _ _⟩⟩
  case round =>
    obtain ⟨l, rfl, h20, hlz, hB, hq⟩ := hrel
    obtain ⟨n, hn⟩ : ∃ n, n = l.length := ⟨_, rfl⟩
    rw [← hn] at h20 hlz ⊢
    have HN := Lib.hid hn
    clear hn
    by_cases hz : n < zs.length
    · have t1 : decide ((n : Int) < (zs.length : Int)) = true := decide_eq_true (by omega)
      by_cases ht : n < 20
      · have t2 : decide ((n : Int) < 20) = true := decide_eq_true (by omega)
        have l1 : (n : Int) < (zs.length : Int) := by omega
        obtain ⟨b, off, rfl, hbl, hc⟩ := (HR.out.below hB).2.2.2.2 (by omega)
        have h1 := hc n hz
        clear hc
        obtain ⟨z, hzz⟩ : ∃ z, z = zs[n] := ⟨_, rfl⟩
        rw [← hzz] at h1
        have HZ := Lib.hid hzz
        clear hzz
        have hb := Lib.hid (fun w => bundleOf_any z w)
        have m1 : IntKind.u64.wrap (n : Int) = n := IntWalk.u64_in _ (by omega)
        obtain ⟨k, hk⟩ : ∃ k, z % 1073741824 = k := ⟨_, rfl⟩
        have HK := Lib.hid hk
        rw [hk] at hb
        clear hk
        have szr := hB.size
        go_upto_region 7 with (go_at_call 58; (with_reducible refine (hb.out _).mono ?_); rintro e w1 ⟨da, hmk, rfl, h1⟩)
        have sz1 := h1.size
        have hB1 := bt hB h1
        refine wp_fresh1 w1.heap.size #[.int .i64 (1 + k % 4), .int .u64 n, .int .i64 0, .int .i64 (1 + k / 200 % 4), .int .i64 (k / 800 % 3), .int .i64 (k / 2400 % 20), .int .i64 (1 + k / 48000 % 60), .int .i64 (k % 17 + 1), .string da] (by (apply blk_to; (focus (repeat (first | (with_reducible assumption) | (with_reducible apply blk_drew) | (with_reducible apply blk_set) | ((with_reducible apply blk_other'); (first | (focus (dsimp only; assumption)) | (focus (simp; done)) | (focus (dsimp only; omega)))) | ((with_reducible apply blk_alloc_new); (first | (with_reducible rfl) | (focus (simp; done)) | (focus (simp; omega)))) | (with_reducible apply blk_alloc) | ((with_reducible apply blk_below); (with_reducible assumption))))); rfl)) (by (repeat (first | (with_reducible assumption) | (with_reducible exact Below.refl _ _) | (with_reducible refine beld_drew ?_) | ((with_reducible refine bset' ?_ ?_); (first | (focus (dsimp only; assumption)) | (focus (simp; done)) | (focus (dsimp only; omega)))) | (with_reducible refine belt_alloc ?_) | ((with_reducible refine zeroed_below' ?_ ?_); (first | (focus (simp; done)) | (focus (dsimp only; omega)))) | (with_reducible refine bt ?_ (by assumption)))) : Below w.heap.size w _) (by (repeat (first | (with_reducible assumption) | (with_reducible exact Below.refl _ _) | (with_reducible refine beld_drew ?_) | ((with_reducible refine bset' ?_ ?_); (first | (focus (dsimp only; assumption)) | (focus (simp; done)) | (focus (dsimp only; omega)))) | (with_reducible refine belt_alloc ?_) | ((with_reducible refine zeroed_below' ?_ ?_); (first | (focus (simp; done)) | (focus (dsimp only; omega)))) | (with_reducible refine bt ?_ (by assumption)))) : Below wr.heap.size wr _) ?_
        intro w2 kb2 hb2 hr2
        have nb2 := kn kb2
        have ho2 := Lib.hid (owns_belowS hq.out.2 hr2)
        have sw2 := hb2.size
        have hgd : zs.getD n 0 = z := (by rw [List.getD_eq_getElem?_getD, List.getElem?_eq_getElem hz, HZ.out]; rfl)
        have hML : MkL zs (l ++ [mkB k n da]) := (by
          have h9 := MkL.snoc hq.out.1 (da := da) (by rw [← HN.out, hgd, HK.out]; exact hmk)
          rw [← HN.out, hgd, HK.out] at h9
          exact h9)
        have HML := Lib.hid hML
        clear hgd hML
        go_wp2_with (at_builtin; refine wpList_append_struct (enc := bn) rfl _ _ 22 rfl w.heap.size 28 i2 (.agg #[.int .i64 0, .int .u64 0, .int .i64 0, .int .i64 0, .int .i64 0, .int .i64 0, .int .i64 0, .int .i64 0, .string ⟨#[]⟩]) 9 80 Tryd.underlying22 Hj.out Hy0.out Hy1.out Hy2.out rfl (by decide) bn_len bn_one _ l rfl (ho2.out.alloc _) w2.heap.size 1 (mkB k n da) rfl (blk_alloc_new _ _ _ rfl) (by rw [← HN.out]; unfold maxLen; omega) (by rw [← HN.out]; omega) (by simp; omega) ?_; intro v' wb hown2 hgrow2)
        have hB3 : Below w.heap.size w wb := (hb2.alloc hb2.size _).grown hgrow2 (by simp; omega) (fun k e => (ho2.out.lt k e).1)
        have ln : (l ++ [mkB k n da]).length = n + 1 := (by rw [List.length_append, ← HN.out]; rfl)
        have LN := Lib.hid ln
        clear ln
        replace hown2 := Lib.hid hown2
        go_wp2
        go_roundw
        case rel => exact ⟨l ++ [mkB k n da], by rw [LN.out]; go_num, by rw [LN.out]; omega, by rw [LN.out]; omega, hB3, Lib.hid ⟨HML.out, hown2.out⟩⟩
        case measure => simp [intOf]; omega
      · have t2 : decide ((n : Int) < 20) = false := decide_eq_false (by omega)
        go_wp2
        go_ret
        exact ⟨_, l, rfl, hq.out.1, by rw [← HN.out]; exact h20, hq.out.2, hB⟩
    · have t1 : decide ((n : Int) < (zs.length : Int)) = false := decide_eq_false (by omega)
      go_wp2
      go_ret
      exact ⟨_, l, rfl, hq.out.1, by rw [← HN.out]; exact h20, hq.out.2, hB⟩
end Go.Proofs.YtahopnlibmiafaaDoor
