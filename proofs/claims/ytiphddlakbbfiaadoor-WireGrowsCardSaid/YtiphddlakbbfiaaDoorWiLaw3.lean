/- WireBack: what is encoded is decoded as the bundle. -/
import Derived.Test.YtiphddlakbbfiaaDoorWiMade4
namespace Go.Proofs.YtiphddlakbbfiaaDoor
set_option linter.unusedVariables false
open Go.RowKit

theorem peekC_enc (no sq of de pr bo li to : Nat) (da : List UInt8) (hv : buC no sq of de pr bo li to da.length = 0) : peekC (encL no sq of de pr bo li to da) = ((no : Int), (sq : Int), (of : Int), (de : Int), 0, 0) := by
  obtain ⟨v1, v2, v3, v4, v5, v6, v7, v8, v9, v10, v11, v12, v13, v14, v15⟩ := buC_nat hv
  have hc := encL_cons no sq of de pr bo li to da []
  rw [List.append_nil] at hc
  obtain ⟨wh, hwh⟩ : ∃ wh, wholeB of to da.length = wh := ⟨_, rfl⟩
  rw [hwh] at hc
  obtain ⟨l, hl⟩ : ∃ l, encL no sq of de pr bo li to da = l := ⟨_, rfl⟩
  rw [hl] at hc ⊢
  have hst : startR l = ((pr : Int), wh, ⟨1, 0, 0⟩) := by rw [hc]; exact startR_enc pr wh _ v7
  obtain ⟨q, hf, _, _⟩ := fieldsR_put l no sq of de bo li to wh _ (by rw [hc]; simp) (by rw [hc, List.drop_succ_cons, List.drop_zero]) (by omega) (by omega) (by omega) (by omega) (by omega) (by omega) (by omega)
  unfold peekC
  rw [hst]
  simp only
  rw [hf]
  simp only [if_true]
  have hof : (if wh = true then (0 : Int) else (of : Int)) = of := by
    cases wh
    · rfl
    · have : of = 0 ∧ (to : Int) = da.length := by simpa [wholeB] using hwh
      simp [this.1]
  rw [hof]
set_option maxRecDepth 100000 in
set_option maxHeartbeats 3200000 in
theorem wireBack_walk (a0 : Option Addr) (len0 cap0 : Nat) (z0 : List Int) (w : World) (w0 : IsRow .i64 w a0 len0 cap0 z0) (T0 : Lib.TabIs Tryd.prog w sumNm .u32 sumTab) (T1 : Lib.TabIs Tryd.prog w headsNm .u8 headsTab) :
    Calls Tryd.prog 6 #[.slice a0 len0 cap0] w fun e w' => e = .returned (.bool true) ∧ Below w.heap.size w w' := by
  obtain ⟨hl, hr⟩ := row_of w0
  obtain ⟨zs, hzs⟩ : ∃ zs, z0.take len0 = zs := ⟨_, rfl⟩
  rw [hzs] at hl hr
  subst hl
  have z1 := hr.1; have z2 := hr.2.1
  unfold maxLen at z2
  have HR := Lib.hid hr
  have HT := Lib.hid (htab_of T1); have ST := Lib.hid (stab_of T0)
  have g0 := Lib.hid known_any
  clear T0 T1 w0 hr hzs
  by_cases hlong : 320 < zs.length
  · go_enter Tryd.func6, Tryd.ntmps6
    go_wp2_with fail
    (with_reducible refine (g0.out _ HT.out ST.out).mono ?_)
    rintro e w1 ⟨rfl, hw1⟩
    have bw1 : Below w.heap.size w w1 := (by (repeat (first | (with_reducible assumption) | (with_reducible exact Below.refl _ _) | (with_reducible refine beld_drew ?_) | ((with_reducible refine bset' ?_ ?_); (first | (focus (dsimp only; assumption)) | (focus (simp; done)) | (focus (dsimp only; omega)))) | (with_reducible refine belt_alloc ?_) | ((with_reducible refine zeroed_below' ?_ ?_); (first | (focus (simp; done)) | (focus (dsimp only; omega)))) | (with_reducible refine bt ?_ (by assumption)))))
    have sw1 := bw1.size
    clear hw1
    go_wp2
    go_ret
    exact ⟨rfl, bw1⟩
  · obtain ⟨no, sq, of, de, pr, bo, li, to, da, hv, hd, gm⟩ := made_any a0 cap0 zs
    have hds : da.data.toList.length = da.size := by simp
    have ge := fun w h t => encode_ok no sq of de pr bo li to da hv w h t
    have gs := fun w h => size_ok no sq of de pr bo li to da hv w h
    have hel := encL_len no sq of de pr bo li to da.data.toList
    rw [hds] at hel
    have hde := decL_enc no sq of de pr bo li to da.data.toList [] (by rw [hds]; exact hv)
    rw [List.append_nil, if_pos rfl] at hde
    have hpe := peekC_enc no sq of de pr bo li to da.data.toList (by rw [hds]; exact hv)
    have hF := frLen_le no sq of de pr bo li to (wholeB of to da.size)
    have hP := putN_length da.size
    have hbn := buC_nat hv
    obtain ⟨s, hs⟩ : ∃ s : ByteArray, s.data.toList = encL no sq of de pr bo li to da.data.toList := ⟨⟨(encL no sq of de pr bo li to da.data.toList).toArray⟩, rfl⟩
    rw [← hs] at ge hde hpe hel
    rw [show bstr s.data.toList = .string s from rfl] at ge
    rw [← hel, show s.data.toList.length = s.size by simp] at gs
    have hsz : s.size = szN (frLen no sq of de pr bo li to (wholeB of to da.size)) da.size := by rw [← hel]; simp
    have hs12 : 12 ≤ s.size := by rw [hsz]; unfold szN; omega
    have hs1030 : s.size ≤ 1030 := by rw [hsz]; unfold szN; omega
    have gd := fun w h t => decode_any s (by omega) w h t
    rw [hde] at gd
    have hbs : (⟨da.data.toList.toArray⟩ : ByteArray) = da := by simp
    unfold decV at gd
    simp only [hbs] at gd
    have gp := fun w h => peek_any s (by unfold maxLen; omega) w h
    rw [hpe] at gp
    simp only at gp
    have E1 : ∀ w, Sem.run Tryd.prog (binOp BinOp.eql 26 (.agg #[.int .i64 (no : Int), .int .u64 (sq : Int), .int .i64 (of : Int), .int .i64 (de : Int), .int .i64 (pr : Int), .int .i64 (bo : Int), .int .i64 (li : Int), .int .i64 (to : Int), .string da]) (.agg #[.int .i64 (no : Int), .int .u64 (sq : Int), .int .i64 (of : Int), .int .i64 (de : Int), .int .i64 (pr : Int), .int .i64 (bo : Int), .int .i64 (li : Int), .int .i64 (to : Int), .string da])) w = .ok (.bool true) w := fun w => run_buSame no sq of de pr bo li to da w
    have E2 : ∀ w, Sem.run Tryd.prog (binOp BinOp.eql 36 (.agg #[.int .i64 0, .int .i64 0]) (.agg #[.int .i64 0, .int .i64 0])) w = .ok (.bool true) w := fun w => run_ftEq 0 0 0 0 w
    have E3 : ∀ w, Sem.run Tryd.prog (binOp BinOp.eql 24 (.agg #[.int .i64 no, .int .u64 sq, .int .i64 of]) (.agg #[.int .i64 no, .int .u64 sq, .int .i64 of])) w = .ok (.bool true) w := fun w => by have := run_idEq no sq of no sq of w; rwa [show idEq no sq of no sq of = true by simp [idEq]] at this
    replace ge := Lib.hid ge; replace gs := Lib.hid gs; replace gd := Lib.hid gd; replace gp := Lib.hid gp; replace gm := Lib.hid gm
    clear hv hd hds hel hde hpe hF hP hbn hs hsz hbs
    go_enter Tryd.func6, Tryd.ntmps6
    go_wp2_with fail
    (with_reducible refine (g0.out _ HT.out ST.out).mono ?_)
    rintro e w1 ⟨rfl, hw1⟩
    have bw1 : Below w.heap.size w w1 := (by (repeat (first | (with_reducible assumption) | (with_reducible exact Below.refl _ _) | (with_reducible refine beld_drew ?_) | ((with_reducible refine bset' ?_ ?_); (first | (focus (dsimp only; assumption)) | (focus (simp; done)) | (focus (dsimp only; omega)))) | (with_reducible refine belt_alloc ?_) | ((with_reducible refine zeroed_below' ?_ ?_); (first | (focus (simp; done)) | (focus (dsimp only; omega)))) | (with_reducible refine bt ?_ (by assumption)))))
    have sw1 := bw1.size
    clear hw1
    go_wp2_with fail
    (with_reducible refine (gm.out _ (HR.out.below bw1)).mono ?_)
    rintro e w2 ⟨rfl, hw2⟩
    have bw2 : Below w.heap.size w w2 := (by (repeat (first | (with_reducible assumption) | (with_reducible exact Below.refl _ _) | (with_reducible refine beld_drew ?_) | ((with_reducible refine bset' ?_ ?_); (first | (focus (dsimp only; assumption)) | (focus (simp; done)) | (focus (dsimp only; omega)))) | (with_reducible refine belt_alloc ?_) | ((with_reducible refine zeroed_below' ?_ ?_); (first | (focus (simp; done)) | (focus (dsimp only; omega)))) | (with_reducible refine bt ?_ (by assumption)))))
    have sw2 := bw2.size
    clear hw2 bw1
    go_wp2_with fail
    have B2 : Below w.heap.size w (w2.alloc (.cells #[.int .i64 (no : Int), .int .u64 (sq : Int), .int .i64 (of : Int), .int .i64 (de : Int), .int .i64 (pr : Int), .int .i64 (bo : Int), .int .i64 (li : Int), .int .i64 (to : Int), .string da] 26)) := (bw2.alloc sw2 _)
    go_wp2_with fail
    (with_reducible refine (ge.out _ (HT.out.on B2) (ST.out.on B2)).mono ?_)
    rintro e w3 ⟨rfl, hw3⟩
    have kk1 : blk w3 (w2.heap.size) = some #[.int .i64 (no : Int), .int .u64 (sq : Int), .int .i64 (of : Int), .int .i64 (de : Int), .int .i64 (pr : Int), .int .i64 (bo : Int), .int .i64 (li : Int), .int .i64 (to : Int), .string da] := (by (apply blk_to; (focus (repeat (first | (with_reducible assumption) | (with_reducible apply blk_drew) | (with_reducible apply blk_set) | ((with_reducible apply blk_other'); (first | (focus (dsimp only; assumption)) | (focus (simp; done)) | (focus (dsimp only; omega)))) | ((with_reducible apply blk_alloc_new); (first | (with_reducible rfl) | (focus (simp; done)) | (focus (simp; omega)))) | (with_reducible apply blk_alloc) | ((with_reducible apply blk_below); (with_reducible assumption))))); rfl))
    have kn1 := kn kk1
    have bw3 : Below w.heap.size w w3 := (by (repeat (first | (with_reducible assumption) | (with_reducible exact Below.refl _ _) | (with_reducible refine beld_drew ?_) | ((with_reducible refine bset' ?_ ?_); (first | (focus (dsimp only; assumption)) | (focus (simp; done)) | (focus (dsimp only; omega)))) | (with_reducible refine belt_alloc ?_) | ((with_reducible refine zeroed_below' ?_ ?_); (first | (focus (simp; done)) | (focus (dsimp only; omega)))) | (with_reducible refine bt ?_ (by assumption)))))
    have sw3 := bw3.size
    clear hw3 bw2
    go_wp2_with fail
    (with_reducible refine (gs.out _ (HT.out.on bw3)).mono ?_)
    rintro e w4 ⟨rfl, hw4⟩
    have kk2 : blk w4 (w2.heap.size) = some #[.int .i64 (no : Int), .int .u64 (sq : Int), .int .i64 (of : Int), .int .i64 (de : Int), .int .i64 (pr : Int), .int .i64 (bo : Int), .int .i64 (li : Int), .int .i64 (to : Int), .string da] := (by (apply blk_to; (focus (repeat (first | (with_reducible assumption) | (with_reducible apply blk_drew) | (with_reducible apply blk_set) | ((with_reducible apply blk_other'); (first | (focus (dsimp only; assumption)) | (focus (simp; done)) | (focus (dsimp only; omega)))) | ((with_reducible apply blk_alloc_new); (first | (with_reducible rfl) | (focus (simp; done)) | (focus (simp; omega)))) | (with_reducible apply blk_alloc) | ((with_reducible apply blk_below); (with_reducible assumption))))); rfl))
    clear kk1 kn1
    have kn2 := kn kk2
    have bw4 : Below w.heap.size w w4 := (by (repeat (first | (with_reducible assumption) | (with_reducible exact Below.refl _ _) | (with_reducible refine beld_drew ?_) | ((with_reducible refine bset' ?_ ?_); (first | (focus (dsimp only; assumption)) | (focus (simp; done)) | (focus (dsimp only; omega)))) | (with_reducible refine belt_alloc ?_) | ((with_reducible refine zeroed_below' ?_ ?_); (first | (focus (simp; done)) | (focus (dsimp only; omega)))) | (with_reducible refine bt ?_ (by assumption)))))
    have sw4 := bw4.size
    clear hw4 bw3
    go_wp2_with fail
    (with_reducible refine (gd.out _ (HT.out.on bw4) (ST.out.on bw4)).mono ?_)
    rintro e w5 ⟨rfl, hw5⟩
    have kk3 : blk w5 (w2.heap.size) = some #[.int .i64 (no : Int), .int .u64 (sq : Int), .int .i64 (of : Int), .int .i64 (de : Int), .int .i64 (pr : Int), .int .i64 (bo : Int), .int .i64 (li : Int), .int .i64 (to : Int), .string da] := (by (apply blk_to; (focus (repeat (first | (with_reducible assumption) | (with_reducible apply blk_drew) | (with_reducible apply blk_set) | ((with_reducible apply blk_other'); (first | (focus (dsimp only; assumption)) | (focus (simp; done)) | (focus (dsimp only; omega)))) | ((with_reducible apply blk_alloc_new); (first | (with_reducible rfl) | (focus (simp; done)) | (focus (simp; omega)))) | (with_reducible apply blk_alloc) | ((with_reducible apply blk_below); (with_reducible assumption))))); rfl))
    clear kk2 kn2
    have kn3 := kn kk3
    have bw5 : Below w.heap.size w w5 := (by (repeat (first | (with_reducible assumption) | (with_reducible exact Below.refl _ _) | (with_reducible refine beld_drew ?_) | ((with_reducible refine bset' ?_ ?_); (first | (focus (dsimp only; assumption)) | (focus (simp; done)) | (focus (dsimp only; omega)))) | (with_reducible refine belt_alloc ?_) | ((with_reducible refine zeroed_below' ?_ ?_); (first | (focus (simp; done)) | (focus (dsimp only; omega)))) | (with_reducible refine bt ?_ (by assumption)))))
    have sw5 := bw5.size
    clear hw5 bw4
    go_wp2_with fail
    have B5 : Below w.heap.size w ((w5.alloc (.cells #[.int .i64 (no : Int), .int .u64 (sq : Int), .int .i64 (of : Int), .int .i64 (de : Int), .int .i64 (pr : Int), .int .i64 (bo : Int), .int .i64 (li : Int), .int .i64 (to : Int), .string da] 26)).alloc (.cells #[.int .i64 0, .int .i64 0] 36)) := ((bw5.alloc sw5 _).alloc (by simp; omega) _)
    go_wp2_with fail
    (with_reducible refine (gp.out _ (HT.out.on B5)).mono ?_)
    rintro e w6 ⟨rfl, hw6⟩
    have kk4 : blk w6 (w2.heap.size) = some #[.int .i64 (no : Int), .int .u64 (sq : Int), .int .i64 (of : Int), .int .i64 (de : Int), .int .i64 (pr : Int), .int .i64 (bo : Int), .int .i64 (li : Int), .int .i64 (to : Int), .string da] := (by (apply blk_to; (focus (repeat (first | (with_reducible assumption) | (with_reducible apply blk_drew) | (with_reducible apply blk_set) | ((with_reducible apply blk_other'); (first | (focus (dsimp only; assumption)) | (focus (simp; done)) | (focus (dsimp only; omega)))) | ((with_reducible apply blk_alloc_new); (first | (with_reducible rfl) | (focus (simp; done)) | (focus (simp; omega)))) | (with_reducible apply blk_alloc) | ((with_reducible apply blk_below); (with_reducible assumption))))); rfl))
    have kk5 : blk w6 (w5.heap.size) = some #[.int .i64 (no : Int), .int .u64 (sq : Int), .int .i64 (of : Int), .int .i64 (de : Int), .int .i64 (pr : Int), .int .i64 (bo : Int), .int .i64 (li : Int), .int .i64 (to : Int), .string da] := (by (apply blk_to; (focus (repeat (first | (with_reducible assumption) | (with_reducible apply blk_drew) | (with_reducible apply blk_set) | ((with_reducible apply blk_other'); (first | (focus (dsimp only; assumption)) | (focus (simp; done)) | (focus (dsimp only; omega)))) | ((with_reducible apply blk_alloc_new); (first | (with_reducible rfl) | (focus (simp; done)) | (focus (simp; omega)))) | (with_reducible apply blk_alloc) | ((with_reducible apply blk_below); (with_reducible assumption))))); rfl))
    have kk6 : blk w6 (w5.heap.size + 1) = some #[.int .i64 0, .int .i64 0] := (by (apply blk_to; (focus (repeat (first | (with_reducible assumption) | (with_reducible apply blk_drew) | (with_reducible apply blk_set) | ((with_reducible apply blk_other'); (first | (focus (dsimp only; assumption)) | (focus (simp; done)) | (focus (dsimp only; omega)))) | ((with_reducible apply blk_alloc_new); (first | (with_reducible rfl) | (focus (simp; done)) | (focus (simp; omega)))) | (with_reducible apply blk_alloc) | ((with_reducible apply blk_below); (with_reducible assumption))))); rfl))
    clear kk3 kn3
    have kn4 := kn kk4
    have kn5 := kn kk5
    have kn6 := kn kk6
    have bw6 : Below w.heap.size w w6 := (by (repeat (first | (with_reducible assumption) | (with_reducible exact Below.refl _ _) | (with_reducible refine beld_drew ?_) | ((with_reducible refine bset' ?_ ?_); (first | (focus (dsimp only; assumption)) | (focus (simp; done)) | (focus (dsimp only; omega)))) | (with_reducible refine belt_alloc ?_) | ((with_reducible refine zeroed_below' ?_ ?_); (first | (focus (simp; done)) | (focus (dsimp only; omega)))) | (with_reducible refine bt ?_ (by assumption)))))
    have sw6 := bw6.size
    clear hw6 bw5
    have B6 := bw6
    go_wp2
    go_ret
    exact ⟨rfl, by (repeat (first | (with_reducible assumption) | (with_reducible exact Below.refl _ _) | (with_reducible refine beld_drew ?_) | ((with_reducible refine bset' ?_ ?_); (first | (focus (dsimp only; assumption)) | (focus (simp; done)) | (focus (dsimp only; omega)))) | (with_reducible refine belt_alloc ?_) | ((with_reducible refine zeroed_below' ?_ ?_); (first | (focus (simp; done)) | (focus (dsimp only; omega)))) | (with_reducible refine bt ?_ (by assumption))))⟩
end Go.Proofs.YtiphddlakbbfiaaDoor
