/- WireKnown and WireOnly. -/
import Derived.Test.YtiphddlakbbfiaaDoorWiKnown
namespace Go.Proofs.YtiphddlakbbfiaaDoor
set_option linter.unusedVariables false
open Go.RowKit

theorem wireKnown_walk (w : World) (T0 : Lib.TabIs Tryd.prog w sumNm .u32 sumTab) (T1 : Lib.TabIs Tryd.prog w headsNm .u8 headsTab) :
    Calls Tryd.prog 5 #[] w fun e w' => e = .returned (.bool true) ∧ Below w.heap.size w w' := known_any w (htab_of T1) (stab_of T0)

/-! ### Where a fault is -/
theorem rdI_fat (l : List UInt8) (m : Int) (r : Rs) (hq : 0 ≤ r.pos) (hq2 : r.pos ≤ l.length) (h1 : 0 ≤ r.fat) (h2 : r.fat ≤ l.length) : 0 ≤ (rdI l m r).2.fat ∧ (rdI l m r).2.fat ≤ l.length := by
  unfold rdI
  split
  · exact ⟨h1, h2⟩
  · have := intN_range l r.pos m hq hq2
    simp only
    split
    · exact ⟨this.2.2.1, this.2.2.2⟩
    · exact ⟨h1, h2⟩
theorem fieldsR_fat (l : List UInt8) (fu : Bool) (r : Rs) (hq : 0 ≤ r.pos) (hq2 : r.pos ≤ l.length) (h1 : 0 ≤ r.fat) (h2 : r.fat ≤ l.length) : 0 ≤ (fieldsR l fu r).r.fat ∧ (fieldsR l fu r).r.fat ≤ l.length := by
  have a1 := rdI_range l 16 r (by omega) hq hq2
  have b1 := rdI_fat l 16 r hq hq2 h1 h2
  have a2 := rdI_range l 1099511627776 _ (by omega) a1.2.2.1 a1.2.2.2
  have b2 := rdI_fat l 1099511627776 _ a1.2.2.1 a1.2.2.2 b1.1 b1.2
  have a3 := rdI_range l 16 _ (by omega) a2.2.2.1 a2.2.2.2
  have b3 := rdI_fat l 16 _ a2.2.2.1 a2.2.2.2 b2.1 b2.2
  have a4 := rdI_range l 1099511627776 _ (by omega) a3.2.2.1 a3.2.2.2
  have b4 := rdI_fat l 1099511627776 _ a3.2.2.1 a3.2.2.2 b3.1 b3.2
  have a5 := rdI_range l 1048576 _ (by omega) a4.2.2.1 a4.2.2.2
  have b5 := rdI_fat l 1048576 _ a4.2.2.1 a4.2.2.2 b4.1 b4.2
  have a6 := rdI_range l 20000 _ (by omega) a5.2.2.1 a5.2.2.2
  have b6 := rdI_fat l 20000 _ a5.2.2.1 a5.2.2.2 b5.1 b5.2
  have b7 := rdI_fat l 20000 _ a6.2.2.1 a6.2.2.2 b6.1 b6.2
  cases fu
  · exact b7
  · exact b5
theorem startR_fat (l : List UInt8) : (startR l).2.2.fat = 0 := by
  match l with
  | [] => rfl
  | b :: r => rw [startR]; split <;> rfl
theorem textN_range (l : List UInt8) (q m : Int) (hq : 0 ≤ q) (hq2 : q ≤ l.length) : 0 ≤ (getTextN l q m).2.1 ∧ (getTextN l q m).2.1 ≤ l.length := by
  have h := intN_range l q m hq hq2
  unfold getTextN
  split
  · exact ⟨h.2.2.1, h.2.2.2⟩
  · split
    · exact ⟨h.2.2.1, h.2.2.2⟩
    · rename_i h2
      simp only
      omega
theorem decL_bad (l : List UInt8) (h : (decL l).err ≠ 0) : ∃ e a : Int, decL l = .bad e a ∧ e ≠ 0 ∧ 0 ≤ a ∧ a ≤ l.length := by
  unfold decL at h ⊢
  have hp := startR_pos l
  have hf0 := startR_fat l
  have hf := fieldsR_fat l (startR l).2.1 (startR l).2.2 hp.1 hp.2 (by omega) (by omega)
  have hok := fieldsR_ok l (startR l).2.1 (startR l).2.2
  obtain ⟨f, hff⟩ : ∃ f, fieldsR l (startR l).2.1 (startR l).2.2 = f := ⟨_, rfl⟩
  rw [hff] at h hf hok ⊢
  unfold decF at h ⊢
  by_cases h1 : f.r.err = 0
  · rw [if_neg (by simp [h1])] at h ⊢
    obtain ⟨_, j, no, sq, of, de, bo, li, to, q, _, pq, lq, _⟩ := hok h1
    rw [pq] at h ⊢
    have ht := textN_range l q 1000 (by omega) (by omega)
    obtain ⟨⟨d, nx, te⟩, htt⟩ : ∃ t, getTextN l q 1000 = t := ⟨_, rfl⟩
    rw [htt] at h ht ⊢
    simp only at ht
    unfold decT at h ⊢
    split at h
    · rename_i h2; rw [if_pos h2]; exact ⟨_, _, rfl, h2, ht⟩
    · rename_i h2; rw [if_neg h2]
      split at h
      · rename_i h3; rw [if_pos h3]; exact ⟨_, _, rfl, by omega, by omega, by omega⟩
      · rename_i h3; rw [if_neg h3]
        split at h
        · rename_i h4; rw [if_pos h4]; exact ⟨_, _, rfl, by omega, ht⟩
        · rename_i h4; rw [if_neg h4]
          split at h
          · rename_i h5; rw [if_pos h5]; exact ⟨_, _, rfl, by omega, by simp only at h5 ⊢; omega, by simp only at h5 ⊢; omega⟩
          · rename_i h5; rw [if_neg h5]
            obtain ⟨tv, htv⟩ : ∃ tv : Int, (if (startR l).2.1 = true then (d.length : Int) else f.to) = tv := ⟨_, rfl⟩
            simp only at h ⊢
            rw [htv] at h ⊢
            by_cases h6 : buC f.no f.sq f.of f.de (startR l).1 f.bo f.li tv d.length = 0
            · rw [if_neg (by simp [h6])] at h ⊢
              by_cases h7 : (startR l).2.1 = false ∧ wholeB f.of tv d.length = true
              · rw [if_pos h7]; exact ⟨_, _, rfl, by omega, by omega, by omega⟩
              · rw [if_neg h7] at h; exact absurd rfl h
            · rw [if_pos h6]; exact ⟨_, _, rfl, h6, by omega, by omega⟩
  · rw [if_pos h1]
    exact ⟨_, _, rfl, h1, hf⟩
/-! ### WireOnly -/
set_option maxRecDepth 100000 in
set_option maxHeartbeats 3200000 in
theorem wireOnly_walk (s : ByteArray) (hs : s.size ≤ maxLen) (w : World) (T0 : Lib.TabIs Tryd.prog w sumNm .u32 sumTab) (T1 : Lib.TabIs Tryd.prog w headsNm .u8 headsTab) :
    Calls Tryd.prog 7 #[.string s] w fun e w' => e = .returned (.bool true) ∧ Below w.heap.size w w' := by
  have HT := Lib.hid (htab_of T1); have ST := Lib.hid (stab_of T0)
  have g0 := Lib.hid known_any
  unfold maxLen at hs
  clear T0 T1
  by_cases hlong : 1400 < s.size
  · go_enter Tryd.func7, Tryd.ntmps7
    go_wp2_with fail
    (with_reducible refine (g0.out _ HT.out ST.out).mono ?_)
    rintro e w1 ⟨rfl, hw1⟩
    have bw1 : Below w.heap.size w w1 := (by (repeat (first | (with_reducible assumption) | (with_reducible exact Below.refl _ _) | (with_reducible refine beld_drew ?_) | ((with_reducible refine bset' ?_ ?_); (first | (focus (dsimp only; assumption)) | (focus (simp; done)) | (focus (dsimp only; omega)))) | (with_reducible refine belt_alloc ?_) | ((with_reducible refine zeroed_below' ?_ ?_); (first | (focus (simp; done)) | (focus (dsimp only; omega)))) | (with_reducible refine bt ?_ (by assumption)))))
    have sw1 := bw1.size
    clear hw1
    go_wp2
    go_ret
    exact ⟨rfl, bw1⟩
  · have gd := fun w h t => decode_any s (by omega) w h t
    by_cases he : (decL s.data.toList).err = 0
    · obtain ⟨no, sq, of, de, pr, bo, li, to, d, hdec, hv, hl⟩ := decL_only s.data.toList he
      obtain ⟨da, rfl⟩ : ∃ dd : ByteArray, d = dd.data.toList := ⟨⟨d.toArray⟩, rfl⟩
      have hds : da.data.toList.length = da.size := by simp
      rw [hds] at hv
      have hb := buC_nat hv
      rw [hdec] at gd
      have hbs : (⟨da.data.toList.toArray⟩ : ByteArray) = da := by simp
      unfold decV at gd
      simp only [hbs] at gd
      have ge := fun w h t => encode_ok no sq of de pr bo li to da hv w h t
      rw [← hl, show bstr s.data.toList = .string s from rfl] at ge
      replace gd := Lib.hid gd; replace ge := Lib.hid ge
      have hs2 : (s.toList == s.toList) = true := by simp
      clear he hdec hv hl hds hbs hb
      go_enter Tryd.func7, Tryd.ntmps7
      go_wp2_with fail
      (with_reducible refine (g0.out _ HT.out ST.out).mono ?_)
      rintro e w1 ⟨rfl, hw1⟩
      have bw1 : Below w.heap.size w w1 := (by (repeat (first | (with_reducible assumption) | (with_reducible exact Below.refl _ _) | (with_reducible refine beld_drew ?_) | ((with_reducible refine bset' ?_ ?_); (first | (focus (dsimp only; assumption)) | (focus (simp; done)) | (focus (dsimp only; omega)))) | (with_reducible refine belt_alloc ?_) | ((with_reducible refine zeroed_below' ?_ ?_); (first | (focus (simp; done)) | (focus (dsimp only; omega)))) | (with_reducible refine bt ?_ (by assumption)))))
      have sw1 := bw1.size
      clear hw1
      go_wp2_with fail
      (with_reducible refine (gd.out _ (HT.out.on bw1) (ST.out.on bw1)).mono ?_)
      rintro e w2 ⟨rfl, hw2⟩
      have bw2 : Below w.heap.size w w2 := (by (repeat (first | (with_reducible assumption) | (with_reducible exact Below.refl _ _) | (with_reducible refine beld_drew ?_) | ((with_reducible refine bset' ?_ ?_); (first | (focus (dsimp only; assumption)) | (focus (simp; done)) | (focus (dsimp only; omega)))) | (with_reducible refine belt_alloc ?_) | ((with_reducible refine zeroed_below' ?_ ?_); (first | (focus (simp; done)) | (focus (dsimp only; omega)))) | (with_reducible refine bt ?_ (by assumption)))))
      have sw2 := bw2.size
      clear hw2 bw1
      go_wp2_with fail
      have B2 : Below w.heap.size w ((w2.alloc (.cells #[.int .i64 no, .int .u64 sq, .int .i64 of, .int .i64 de, .int .i64 pr, .int .i64 bo, .int .i64 li, .int .i64 to, .string da] 26)).alloc (.cells #[.int .i64 0, .int .i64 0] 36)) := ((bw2.alloc sw2 _).alloc (by simp; omega) _)
      go_wp2_with fail
      (with_reducible refine (ge.out _ (HT.out.on B2) (ST.out.on B2)).mono ?_)
      rintro e w3 ⟨rfl, hw3⟩
      have kk1 : blk w3 (w2.heap.size) = some #[.int .i64 no, .int .u64 sq, .int .i64 of, .int .i64 de, .int .i64 pr, .int .i64 bo, .int .i64 li, .int .i64 to, .string da] := (by (apply blk_to; (focus (repeat (first | (with_reducible assumption) | (with_reducible apply blk_drew) | (with_reducible apply blk_set) | ((with_reducible apply blk_other'); (first | (focus (dsimp only; assumption)) | (focus (simp; done)) | (focus (dsimp only; omega)))) | ((with_reducible apply blk_alloc_new); (first | (with_reducible rfl) | (focus (simp; done)) | (focus (simp; omega)))) | (with_reducible apply blk_alloc) | ((with_reducible apply blk_below); (with_reducible assumption))))); rfl))
      have kk2 : blk w3 (w2.heap.size + 1) = some #[.int .i64 0, .int .i64 0] := (by (apply blk_to; (focus (repeat (first | (with_reducible assumption) | (with_reducible apply blk_drew) | (with_reducible apply blk_set) | ((with_reducible apply blk_other'); (first | (focus (dsimp only; assumption)) | (focus (simp; done)) | (focus (dsimp only; omega)))) | ((with_reducible apply blk_alloc_new); (first | (with_reducible rfl) | (focus (simp; done)) | (focus (simp; omega)))) | (with_reducible apply blk_alloc) | ((with_reducible apply blk_below); (with_reducible assumption))))); rfl))
      have kn1 := kn kk1
      have kn2 := kn kk2
      have bw3 : Below w.heap.size w w3 := (by (repeat (first | (with_reducible assumption) | (with_reducible exact Below.refl _ _) | (with_reducible refine beld_drew ?_) | ((with_reducible refine bset' ?_ ?_); (first | (focus (dsimp only; assumption)) | (focus (simp; done)) | (focus (dsimp only; omega)))) | (with_reducible refine belt_alloc ?_) | ((with_reducible refine zeroed_below' ?_ ?_); (first | (focus (simp; done)) | (focus (dsimp only; omega)))) | (with_reducible refine bt ?_ (by assumption)))))
      have sw3 := bw3.size
      clear hw3 bw2
      go_wp2
      go_ret
      exact ⟨rfl, bw3⟩
    · obtain ⟨e, a, hdec, he0, ha1, ha2⟩ := decL_bad s.data.toList he
      rw [show s.data.toList.length = s.size by simp] at ha2
      rw [hdec] at gd
      have gd : ∀ w, HTab w → STab w → Calls Tryd.prog 17 #[.string s] w fun q w' => q = .returned (.tuple #[.agg #[.int .i64 0, .int .u64 0, .int .i64 0, .int .i64 0, .int .i64 0, .int .i64 0, .int .i64 0, .int .i64 0, .string ⟨#[]⟩], .agg #[.int .i64 e, .int .i64 a]]) ∧ Below w.heap.size w w' := gd
      have e1 : (e != 0) = true := by simp [he0]
      have E1 : ∀ w, Sem.run Tryd.prog (binOp BinOp.eql 26 (.agg #[.int .i64 0, .int .u64 0, .int .i64 0, .int .i64 0, .int .i64 0, .int .i64 0, .int .i64 0, .int .i64 0, .string ⟨#[]⟩]) (.agg #[.int .i64 0, .int .u64 0, .int .i64 0, .int .i64 0, .int .i64 0, .int .i64 0, .int .i64 0, .int .i64 0, .string ⟨#[]⟩])) w = .ok (.bool true) w := fun w => run_buSame 0 0 0 0 0 0 0 0 ⟨#[]⟩ w
      replace gd := Lib.hid gd
      clear he hdec he0
      go_enter Tryd.func7, Tryd.ntmps7
      go_wp2_with fail
      (with_reducible refine (g0.out _ HT.out ST.out).mono ?_)
      rintro e w1 ⟨rfl, hw1⟩
      have bw1 : Below w.heap.size w w1 := (by (repeat (first | (with_reducible assumption) | (with_reducible exact Below.refl _ _) | (with_reducible refine beld_drew ?_) | ((with_reducible refine bset' ?_ ?_); (first | (focus (dsimp only; assumption)) | (focus (simp; done)) | (focus (dsimp only; omega)))) | (with_reducible refine belt_alloc ?_) | ((with_reducible refine zeroed_below' ?_ ?_); (first | (focus (simp; done)) | (focus (dsimp only; omega)))) | (with_reducible refine bt ?_ (by assumption)))))
      have sw1 := bw1.size
      clear hw1
      go_wp2_with fail
      (with_reducible refine (gd.out _ (HT.out.on bw1) (ST.out.on bw1)).mono ?_)
      rintro e w2 ⟨rfl, hw2⟩
      have bw2 : Below w.heap.size w w2 := (by (repeat (first | (with_reducible assumption) | (with_reducible exact Below.refl _ _) | (with_reducible refine beld_drew ?_) | ((with_reducible refine bset' ?_ ?_); (first | (focus (dsimp only; assumption)) | (focus (simp; done)) | (focus (dsimp only; omega)))) | (with_reducible refine belt_alloc ?_) | ((with_reducible refine zeroed_below' ?_ ?_); (first | (focus (simp; done)) | (focus (dsimp only; omega)))) | (with_reducible refine bt ?_ (by assumption)))))
      have sw2 := bw2.size
      clear hw2 bw1
      go_wp2
      go_ret
      exact ⟨rfl, by (repeat (first | (with_reducible assumption) | (with_reducible exact Below.refl _ _) | (with_reducible refine beld_drew ?_) | ((with_reducible refine bset' ?_ ?_); (first | (focus (dsimp only; assumption)) | (focus (simp; done)) | (focus (dsimp only; omega)))) | (with_reducible refine belt_alloc ?_) | ((with_reducible refine zeroed_below' ?_ ?_); (first | (focus (simp; done)) | (focus (dsimp only; omega)))) | (with_reducible refine bt ?_ (by assumption))))⟩
end Go.Proofs.YtiphddlakbbfiaaDoor
