/- Encode and Size, both sides. -/
import Derived.Test.YtiphddlakbbfiaaDoorWiFront2
namespace Go.Proofs.YtiphddlakbbfiaaDoor
set_option linter.unusedVariables false
open Go.RowKit

/-- What Encode gives. -/
def encC (no sq of de pr bo li to : Int) (da : List UInt8) : List UInt8 × Int :=
  if buC no sq of de pr bo li to da.length = 0 then (encL no.toNat sq.toNat of.toNat de.toNat pr.toNat bo.toNat li.toNat to.toNat da, 0) else ([], buC no sq of de pr bo li to da.length)
/-- The front as a text, on both sides. -/
theorem front_str (no sq of de pr bo li to : Nat) (da : ByteArray) (hv : buC no sq of de pr bo li to da.size = 0) :
    ∃ f : ByteArray, f.data.toList = frontL no sq of de pr bo li to (wholeB of to da.size) ∧ f.size = frLen no sq of de pr bo li to (wholeB of to da.size) ∧ f.size ≤ 78 ∧
      (∀ w, HTab w → Calls Tryd.prog 29 #[buv no sq of de pr bo li to da] w fun e w' => e = .returned (.string f) ∧ Below w.heap.size w w') ∧
      (∀ w, Calls Tryd.prog 32 #[buv no sq of de pr bo li to da] w fun e w' => e = .returned (.string f) ∧ Below w.heap.size w w') := by
  obtain ⟨v1, v2, v3, v4, v5, v6, v7, v8, v9, v10, v11, v12, v13, v14, v15⟩ := buC_nat hv
  have hda : da.size ≤ maxLen := by unfold maxLen; omega
  refine ⟨⟨(frontL no sq of de pr bo li to (wholeB of to da.size)).toArray⟩, rfl, by rw [bsize]; rfl, by rw [bsize]; exact (frLen_le _ _ _ _ _ _ _ _ _).2, fun w hH => ?_, fun w => ?_⟩
  · cases hw : wholeB of to da.size
    · exact front_part no sq of de bo li to pr da hda (by omega) (by omega) (by omega) (by omega) (by omega) (by omega) (by omega) (by omega) hw w hH
    · exact front_whole no sq of de bo li to pr da hda (by omega) (by omega) (by omega) (by omega) (by omega) (by omega) (by omega) (by omega) hw w hH
  · cases hw : wholeB of to da.size
    · exact refFront_part no sq of de pr bo li to da hda (by omega) (by omega) (by omega) (by omega) (by omega) (by omega) (by omega) (by omega) hw w
    · exact refFront_whole no sq of de pr bo li to da hda (by omega) (by omega) (by omega) (by omega) (by omega) (by omega) (by omega) (by omega) hw w

set_option maxRecDepth 100000 in
set_option maxHeartbeats 1600000 in
theorem encode_err (no sq of de pr bo li to : Int) (da : ByteArray) (hda : da.size ≤ maxLen) (c : Int) (hc : buC no sq of de pr bo li to da.size = c) (hc0 : c ≠ 0) (w : World) :
    Calls Tryd.prog 11 #[buv no sq of de pr bo li to da] w fun e w' => e = .returned (.tuple #[bstr [], .int .i64 c]) ∧ Below w.heap.size w w' := by
  have g1 := fun w => check_any no sq of de pr bo li to da hda w
  rw [hc] at g1
  have e1 : (c != 0) = true := by simp [hc0]
  clear hc0 hc
  replace g1 := Lib.hid g1
  go_enter Tryd.func11, Tryd.ntmps11
  go_wp2_with fail
  (with_reducible refine (g1.out _).mono ?_)
  rintro e w1 ⟨rfl, hw1⟩
  have kk1 : blk w1 (w.heap.size) = some #[.int .i64 no, .int .u64 sq, .int .i64 of, .int .i64 de, .int .i64 pr, .int .i64 bo, .int .i64 li, .int .i64 to, .string da] := (by (apply blk_to; (focus (repeat (first | (with_reducible assumption) | (with_reducible apply blk_drew) | (with_reducible apply blk_set) | ((with_reducible apply blk_other'); (first | (focus (dsimp only; assumption)) | (focus (simp; done)) | (focus (dsimp only; omega)))) | ((with_reducible apply blk_alloc_new); (first | (with_reducible rfl) | (focus (simp; done)) | (focus (simp; omega)))) | (with_reducible apply blk_alloc) | ((with_reducible apply blk_below); (with_reducible assumption))))); rfl))
  have kn1 := kn kk1
  have bw1 : Below w.heap.size w w1 := (by (repeat (first | (with_reducible assumption) | (with_reducible exact Below.refl _ _) | (with_reducible refine beld_drew ?_) | ((with_reducible refine bset' ?_ ?_); (first | (focus (dsimp only; assumption)) | (focus (simp; done)) | (focus (dsimp only; omega)))) | (with_reducible refine belt_alloc ?_) | ((with_reducible refine zeroed_below' ?_ ?_); (first | (focus (simp; done)) | (focus (dsimp only; omega)))) | (with_reducible refine bt ?_ (by assumption)))))
  have sw1 := bw1.size
  clear hw1
  go_wp2
  go_ret2
  exact ⟨rfl, bw1⟩
set_option maxRecDepth 100000 in
set_option maxHeartbeats 1600000 in
theorem refEncode_err (no sq of de pr bo li to : Int) (da : ByteArray) (hda : da.size ≤ maxLen) (c : Int) (hc : buC no sq of de pr bo li to da.size = c) (hc0 : c ≠ 0) (w : World) :
    Calls Tryd.prog 12 #[buv no sq of de pr bo li to da] w fun e w' => e = .returned (.tuple #[bstr [], .int .i64 c]) ∧ Below w.heap.size w w' := by
  have g1 := fun w => refCheck_any no sq of de pr bo li to da hda w
  rw [hc] at g1
  have e1 : (c != 0) = true := by simp [hc0]
  clear hc0 hc
  replace g1 := Lib.hid g1
  go_enter Tryd.func12, Tryd.ntmps12
  go_wp2_with fail
  (with_reducible refine (g1.out _).mono ?_)
  rintro e w1 ⟨rfl, hw1⟩
  have kk2 : blk w1 (w.heap.size) = some #[.int .i64 no, .int .u64 sq, .int .i64 of, .int .i64 de, .int .i64 pr, .int .i64 bo, .int .i64 li, .int .i64 to, .string da] := (by (apply blk_to; (focus (repeat (first | (with_reducible assumption) | (with_reducible apply blk_drew) | (with_reducible apply blk_set) | ((with_reducible apply blk_other'); (first | (focus (dsimp only; assumption)) | (focus (simp; done)) | (focus (dsimp only; omega)))) | ((with_reducible apply blk_alloc_new); (first | (with_reducible rfl) | (focus (simp; done)) | (focus (simp; omega)))) | (with_reducible apply blk_alloc) | ((with_reducible apply blk_below); (with_reducible assumption))))); rfl))
  have kn2 := kn kk2
  have bw1 : Below w.heap.size w w1 := (by (repeat (first | (with_reducible assumption) | (with_reducible exact Below.refl _ _) | (with_reducible refine beld_drew ?_) | ((with_reducible refine bset' ?_ ?_); (first | (focus (dsimp only; assumption)) | (focus (simp; done)) | (focus (dsimp only; omega)))) | (with_reducible refine belt_alloc ?_) | ((with_reducible refine zeroed_below' ?_ ?_); (first | (focus (simp; done)) | (focus (dsimp only; omega)))) | (with_reducible refine bt ?_ (by assumption)))))
  have sw1 := bw1.size
  clear hw1
  go_wp2
  go_ret2
  exact ⟨rfl, bw1⟩
theorem text_str (da : ByteArray) (h : da.size ≤ 100000) : ∃ t : ByteArray, t.data.toList = putTextN da.data.toList ∧ t.size ≤ da.size + 11 ∧
    (∀ w, Calls Tryd.prog 30 #[.string da] w fun e w' => e = .returned (.string t) ∧ Below w.heap.size w w') ∧
    (∀ w, Calls Tryd.prog 33 #[.string da] w fun e w' => e = .returned (.string t) ∧ Below w.heap.size w w') :=
  ⟨⟨(putTextN da.data.toList).toArray⟩, rfl, by rw [bsize]; have := (putN_length da.size).2; simp [putTextN]; omega, fun w => numPutText_any da w h, fun w => refPutText_any da w h⟩
theorem encL_of (no sq of de pr bo li to : Nat) (da f t : ByteArray) (hf : f.data.toList = frontL no sq of de pr bo li to (wholeB of to da.size)) (ht : t.data.toList = putTextN da.data.toList) :
    sealL (f ++ t).data.toList = encL no sq of de pr bo li to da.data.toList := by
  have : (da.data.toList).length = da.size := by simp
  unfold encL; rw [this, ← hf, ← ht]; simp
set_option maxRecDepth 100000 in
set_option maxHeartbeats 1600000 in
theorem encode_ok (no sq of de pr bo li to : Nat) (da : ByteArray) (hv : buC no sq of de pr bo li to da.size = 0) (w : World) (hH : HTab w) (hT : STab w) :
    Calls Tryd.prog 11 #[buv no sq of de pr bo li to da] w fun e w' => e = .returned (.tuple #[bstr (encL no sq of de pr bo li to da.data.toList), .int .i64 0]) ∧ Below w.heap.size w w' := by
  obtain ⟨v1, v2, v3, v4, v5, v6, v7, v8, v9, v10, v11, v12, v13, v14, v15⟩ := buC_nat hv
  obtain ⟨f, f1, f2, f3, cf, _⟩ := front_str no sq of de pr bo li to da hv
  obtain ⟨t, t1, t2, ct, _⟩ := text_str da (by omega)
  have g1 := fun w => check_any no sq of de pr bo li to da (by unfold maxLen; omega) w
  rw [hv] at g1
  have he := encL_of no sq of de pr bo li to da f t f1 t1
  have cs := fun w h => seal32_any (f ++ t) (by rw [ByteArray.size_append]; omega) w h
  rw [he] at cs
  obtain ⟨q, hq⟩ : ∃ q : ByteArray, Value.string q = bstr (encL no sq of de pr bo li to da.data.toList) := ⟨_, rfl⟩
  rw [← hq] at cs ⊢
  have n1 : ¬ (9223372036854775807 < f.size + t.size) := by omega
  replace g1 := Lib.hid g1; replace cf := Lib.hid cf; replace ct := Lib.hid ct; replace cs := Lib.hid cs
  have HT := Lib.hid hH; have ST := Lib.hid hT
  clear he f1 f2 t1 hq hv hH hT v1 v2 v3 v4 v5 v6 v7 v8 v9 v10 v11 v12 v13 v14 v15
  go_enter Tryd.func11, Tryd.ntmps11
  go_wp2_with fail
  (with_reducible refine (g1.out _).mono ?_)
  rintro e w1 ⟨rfl, hw1⟩
  have kk3 : blk w1 (w.heap.size) = some #[.int .i64 (no : Int), .int .u64 (sq : Int), .int .i64 (of : Int), .int .i64 (de : Int), .int .i64 (pr : Int), .int .i64 (bo : Int), .int .i64 (li : Int), .int .i64 (to : Int), .string da] := (by (apply blk_to; (focus (repeat (first | (with_reducible assumption) | (with_reducible apply blk_drew) | (with_reducible apply blk_set) | ((with_reducible apply blk_other'); (first | (focus (dsimp only; assumption)) | (focus (simp; done)) | (focus (dsimp only; omega)))) | ((with_reducible apply blk_alloc_new); (first | (with_reducible rfl) | (focus (simp; done)) | (focus (simp; omega)))) | (with_reducible apply blk_alloc) | ((with_reducible apply blk_below); (with_reducible assumption))))); rfl))
  have kn3 := kn kk3
  have bw1 : Below w.heap.size w w1 := (by (repeat (first | (with_reducible assumption) | (with_reducible exact Below.refl _ _) | (with_reducible refine beld_drew ?_) | ((with_reducible refine bset' ?_ ?_); (first | (focus (dsimp only; assumption)) | (focus (simp; done)) | (focus (dsimp only; omega)))) | (with_reducible refine belt_alloc ?_) | ((with_reducible refine zeroed_below' ?_ ?_); (first | (focus (simp; done)) | (focus (dsimp only; omega)))) | (with_reducible refine bt ?_ (by assumption)))))
  have sw1 := bw1.size
  clear hw1
  go_wp2_with fail
  refine wp_region_in (by kernel_rfl) (by kernel_rfl) ?_
  intro W0_4 hE_4 hN_4
  have bW0_4 : Below w.heap.size w W0_4 := (by rw [hE_4.out]; (repeat (first | (with_reducible assumption) | (with_reducible exact Below.refl _ _) | (with_reducible refine beld_drew ?_) | ((with_reducible refine bset' ?_ ?_); (first | (focus (dsimp only; assumption)) | (focus (simp; done)) | (focus (dsimp only; omega)))) | (with_reducible refine belt_alloc ?_) | ((with_reducible refine zeroed_below' ?_ ?_); (first | (focus (simp; done)) | (focus (dsimp only; omega)))) | (with_reducible refine bt ?_ (by assumption)))))
  have kk5 : blk W0_4 (w.heap.size) = some #[.int .i64 (no : Int), .int .u64 (sq : Int), .int .i64 (of : Int), .int .i64 (de : Int), .int .i64 (pr : Int), .int .i64 (bo : Int), .int .i64 (li : Int), .int .i64 (to : Int), .string da] := (by rw [hE_4.out]; (apply blk_to; (focus (repeat (first | (with_reducible assumption) | (with_reducible apply blk_drew) | (with_reducible apply blk_set) | ((with_reducible apply blk_other'); (first | (focus (dsimp only; assumption)) | (focus (simp; done)) | (focus (dsimp only; omega)))) | ((with_reducible apply blk_alloc_new); (first | (with_reducible rfl) | (focus (simp; done)) | (focus (simp; omega)))) | (with_reducible apply blk_alloc) | ((with_reducible apply blk_below); (with_reducible assumption))))); rfl))
  clear kk3 kn3
  have kn5 := calm_kn kk5
  clear hE_4
  repeat (go_big_quiet_step ((first | (go_at_call 29; (with_reducible refine Class.go _ (cf.out _ (HT.out.on (bt (by assumption) (Class.ok _)))))) | (go_at_call 30; (with_reducible refine Class.go _ (ct.out _))) | (go_at_call 28; (with_reducible refine Class.go _ (cs.out _ (ST.out.on (bt (by assumption) (Class.ok _)))))))))
  refine wpQuiet_nil ?_
  rintro _ ⟨x_4, rfl⟩
  have hx_4 : Calm W0_4 x_4.wd := x_4.ok
  have bw2 : Below w.heap.size w x_4.wd := bt bW0_4 hx_4
  clear kn5; replace kk5 := blk_below hx_4 kk5; have kn5 := kn kk5
  clear hx_4 bW0_4 hN_4 bw1
  generalize x_4.wd = w2 at *
  have sw2 := bw2.size
  go_wp2
  go_ret2
  exact ⟨rfl, bw2⟩
set_option maxRecDepth 100000 in
set_option maxHeartbeats 1600000 in
theorem refEncode_ok (no sq of de pr bo li to : Nat) (da : ByteArray) (hv : buC no sq of de pr bo li to da.size = 0) (w : World) :
    Calls Tryd.prog 12 #[buv no sq of de pr bo li to da] w fun e w' => e = .returned (.tuple #[bstr (encL no sq of de pr bo li to da.data.toList), .int .i64 0]) ∧ Below w.heap.size w w' := by
  obtain ⟨v1, v2, v3, v4, v5, v6, v7, v8, v9, v10, v11, v12, v13, v14, v15⟩ := buC_nat hv
  obtain ⟨f, f1, f2, f3, _, cf⟩ := front_str no sq of de pr bo li to da hv
  obtain ⟨t, t1, t2, _, ct⟩ := text_str da (by omega)
  have g1 := fun w => refCheck_any no sq of de pr bo li to da (by unfold maxLen; omega) w
  rw [hv] at g1
  have he := encL_of no sq of de pr bo li to da f t f1 t1
  have cs := fun w => refCrc32_any (f ++ t) (by rw [ByteArray.size_append]; omega) w
  have cq := fun w => refFour_any (crcN (f ++ t).data.toList) (crcN_lt _) w
  obtain ⟨q, hq⟩ : ∃ q : ByteArray, q.data.toList = four (crcN (f ++ t).data.toList) := ⟨⟨(four (crcN (f ++ t).data.toList)).toArray⟩, rfl⟩
  have hqs : q.size ≤ 4 := by have := congrArg List.length hq; simp [four_len] at this; omega
  rw [← hq] at cq
  have fin : Value.string (f ++ t ++ q) = bstr (encL no sq of de pr bo li to da.data.toList) := by rw [← he]; exact vstr (by unfold sealL; rw [← hq]; simp)
  have hfx : ∀ l : ByteArray, bstr l.data.toList = .string l := fun l => rfl
  rw [hfx q] at cq
  obtain ⟨c, hc⟩ : ∃ c, crcN (f ++ t).data.toList = c := ⟨_, rfl⟩
  rw [hc] at cs cq
  have Fin := Lib.hid fin
  have n1 : ¬ (9223372036854775807 < f.size + t.size) := by omega
  have n2 : ¬ (9223372036854775807 < f.size + t.size + q.size) := by omega
  replace g1 := Lib.hid g1; replace cf := Lib.hid cf; replace ct := Lib.hid ct; replace cs := Lib.hid cs; replace cq := Lib.hid cq
  clear he f1 f2 t1 hq hv v1 v2 v3 v4 v5 v6 v7 v8 v9 v10 v11 v12 v13 v14 v15 fin hfx hc
  go_enter Tryd.func12, Tryd.ntmps12
  go_wp2_with fail
  (with_reducible refine (g1.out _).mono ?_)
  rintro e w1 ⟨rfl, hw1⟩
  have kk6 : blk w1 (w.heap.size) = some #[.int .i64 (no : Int), .int .u64 (sq : Int), .int .i64 (of : Int), .int .i64 (de : Int), .int .i64 (pr : Int), .int .i64 (bo : Int), .int .i64 (li : Int), .int .i64 (to : Int), .string da] := (by (apply blk_to; (focus (repeat (first | (with_reducible assumption) | (with_reducible apply blk_drew) | (with_reducible apply blk_set) | ((with_reducible apply blk_other'); (first | (focus (dsimp only; assumption)) | (focus (simp; done)) | (focus (dsimp only; omega)))) | ((with_reducible apply blk_alloc_new); (first | (with_reducible rfl) | (focus (simp; done)) | (focus (simp; omega)))) | (with_reducible apply blk_alloc) | ((with_reducible apply blk_below); (with_reducible assumption))))); rfl))
  have kn6 := kn kk6
  have bw1 : Below w.heap.size w w1 := (by (repeat (first | (with_reducible assumption) | (with_reducible exact Below.refl _ _) | (with_reducible refine beld_drew ?_) | ((with_reducible refine bset' ?_ ?_); (first | (focus (dsimp only; assumption)) | (focus (simp; done)) | (focus (dsimp only; omega)))) | (with_reducible refine belt_alloc ?_) | ((with_reducible refine zeroed_below' ?_ ?_); (first | (focus (simp; done)) | (focus (dsimp only; omega)))) | (with_reducible refine bt ?_ (by assumption)))))
  have sw1 := bw1.size
  clear hw1
  go_wp2_with fail
  refine wp_region_in (by kernel_rfl) (by kernel_rfl) ?_
  intro W0_7 hE_7 hN_7
  have bW0_7 : Below w.heap.size w W0_7 := (by rw [hE_7.out]; (repeat (first | (with_reducible assumption) | (with_reducible exact Below.refl _ _) | (with_reducible refine beld_drew ?_) | ((with_reducible refine bset' ?_ ?_); (first | (focus (dsimp only; assumption)) | (focus (simp; done)) | (focus (dsimp only; omega)))) | (with_reducible refine belt_alloc ?_) | ((with_reducible refine zeroed_below' ?_ ?_); (first | (focus (simp; done)) | (focus (dsimp only; omega)))) | (with_reducible refine bt ?_ (by assumption)))))
  have kk8 : blk W0_7 (w.heap.size) = some #[.int .i64 (no : Int), .int .u64 (sq : Int), .int .i64 (of : Int), .int .i64 (de : Int), .int .i64 (pr : Int), .int .i64 (bo : Int), .int .i64 (li : Int), .int .i64 (to : Int), .string da] := (by rw [hE_7.out]; (apply blk_to; (focus (repeat (first | (with_reducible assumption) | (with_reducible apply blk_drew) | (with_reducible apply blk_set) | ((with_reducible apply blk_other'); (first | (focus (dsimp only; assumption)) | (focus (simp; done)) | (focus (dsimp only; omega)))) | ((with_reducible apply blk_alloc_new); (first | (with_reducible rfl) | (focus (simp; done)) | (focus (simp; omega)))) | (with_reducible apply blk_alloc) | ((with_reducible apply blk_below); (with_reducible assumption))))); rfl))
  clear kk6 kn6
  have kn8 := calm_kn kk8
  clear hE_7
  repeat (go_big_quiet_step ((first | (go_at_call 32; (with_reducible refine Class.go _ (cf.out _))) | (go_at_call 33; (with_reducible refine Class.go _ (ct.out _))))))
  refine wpQuiet_nil ?_
  rintro _ ⟨x_7, rfl⟩
  have hx_7 : Calm W0_7 x_7.wd := x_7.ok
  have bw2 : Below w.heap.size w x_7.wd := bt bW0_7 hx_7
  clear kn8; replace kk8 := blk_below hx_7 kk8; have kn8 := kn kk8
  clear hx_7 bW0_7 hN_7 bw1
  generalize x_7.wd = w2 at *
  have sw2 := bw2.size
  go_wp2_with (first | (go_at_call 35; (with_reducible refine (cs.out _).mono ?_); rintro e wx ⟨rfl, rfl⟩) | (go_at_call 34; (with_reducible refine (cq.out _).mono ?_); rintro e w4 ⟨rfl, hb4⟩))
  go_ret2
  exact ⟨congrArg (fun v => Ending.returned (.tuple #[v, .int .i64 0])) Fin.out, bt bw2 hb4⟩
end Go.Proofs.YtiphddlakbbfiaaDoor
