/- WireSpoilt: spoilt forms are never read. -/
import Derived.Test.YtiphddlakbbfiaaDoorWiLaw3
namespace Go.Proofs.YtiphddlakbbfiaaDoor
set_option linter.unusedVariables false
open Go.RowKit

/-! ### Plain -/
theorem spoilt_set (no sq of de pr bo li to : Nat) (da : List UInt8) (i : Nat) (v : UInt8) (hi : i < (encL no sq of de pr bo li to da).length) (hv : v ≠ (encL no sq of de pr bo li to da)[i]) : (decL ((encL no sq of de pr bo li to da).set i v)).err ≠ 0 := by
  intro h
  obtain ⟨no', sq', of', de', pr', bo', li', to', da', _, _, he⟩ := decL_only _ h
  exact seal_spoilt _ _ i v hi hv he
theorem spoilt_cut (no sq of de pr bo li to : Nat) (da : List UInt8) (hval : buC no sq of de pr bo li to da.length = 0) (i : Nat) (hi : i < (encL no sq of de pr bo li to da).length) : (decL ((encL no sq of de pr bo li to da).take i)).err ≠ 0 := by
  intro h
  obtain ⟨no', sq', of', de', pr', bo', li', to', da', _, hv', he⟩ := decL_only _ h
  have h1 := decL_enc no' sq' of' de' pr' bo' li' to' da' ((encL no sq of de pr bo li to da).drop i) hv'
  rw [← he, List.take_append_drop] at h1
  have h2 := decL_enc no sq of de pr bo li to da [] hval
  rw [List.append_nil, if_pos rfl] at h2
  have h3 : (encL no sq of de pr bo li to da).drop i ≠ [] := by
    intro h0
    have := congrArg List.length h0
    simp at this
    omega
  rw [if_neg h3, h2] at h1
  have := congrArg Dr.err h1
  simp [Dr.bad] at this
theorem spoilt_more (no sq of de pr bo li to : Nat) (da : List UInt8) (hval : buC no sq of de pr bo li to da.length = 0) (r : List UInt8) (hr : r ≠ []) : (decL (encL no sq of de pr bo li to da ++ r)).err ≠ 0 := by
  rw [decL_enc no sq of de pr bo li to da r hval, if_neg hr]
  simp [Dr.bad]
theorem dec_err (s : ByteArray) (hs : s.size ≤ 1000000) (h : (decL s.data.toList).err ≠ 0) : ∃ e a : Int, (e != 0) = true ∧ ∀ w, HTab w → STab w → Calls Tryd.prog 17 #[.string s] w fun q w' => q = .returned (.tuple #[.agg #[.int .i64 0, .int .u64 0, .int .i64 0, .int .i64 0, .int .i64 0, .int .i64 0, .int .i64 0, .int .i64 0, .string ⟨#[]⟩], .agg #[.int .i64 e, .int .i64 a]]) ∧ Below w.heap.size w w' := by
  obtain ⟨e, a, hd, he, _, _⟩ := decL_bad _ h
  refine ⟨e, a, by simp [he], fun w hH hT => ?_⟩
  have := decode_any s hs w hH hT
  rw [hd] at this
  exact this
theorem u8_change (b : UInt8) (c : Nat) (hc : 1 ≤ c) (hc2 : c < 256) : ∃ v : UInt8, (v.toNat : Nat) = b.toNat ^^^ c ∧ v ≠ b := by
  have hb := b.toNat_lt
  have hx : b.toNat ^^^ c < 256 := Nat.xor_lt_two_pow (n := 8) (by omega) (by omega)
  refine ⟨UInt8.ofNat (b.toNat ^^^ c), by rw [UInt8.toNat_ofNat']; omega, fun h => ?_⟩
  have h1 := congrArg UInt8.toNat h
  rw [UInt8.toNat_ofNat', Nat.mod_eq_of_lt hx] at h1
  have h2 : b.toNat ^^^ c = b.toNat ^^^ 0 := by rw [h1, Nat.xor_zero]
  have := xor_cancel h2
  omega
set_option maxRecDepth 100000 in
set_option maxHeartbeats 3200000 in
theorem wireSpoilt_walk (a0 : Option Addr) (len0 cap0 : Nat) (z0 : List Int) (pos by_ : Int) (w : World) (w0 : IsRow .i64 w a0 len0 cap0 z0) (T0 : Lib.TabIs Tryd.prog w sumNm .u32 sumTab) (T1 : Lib.TabIs Tryd.prog w headsNm .u8 headsTab) :
    Calls Tryd.prog 8 #[.slice a0 len0 cap0, .int .i64 pos, .int .i64 by_] w fun e w' => e = .returned (.bool true) ∧ Below w.heap.size w w' := by
  obtain ⟨hl, hr⟩ := row_of w0
  obtain ⟨zs, hzs⟩ : ∃ zs, z0.take len0 = zs := ⟨_, rfl⟩
  rw [hzs] at hl hr
  subst hl
  have z1 := hr.1; have z2 := hr.2.1
  unfold maxLen at z2
  have HR := Lib.hid hr
  have HT := Lib.hid (htab_of T1); have ST := Lib.hid (stab_of T0)
  have g0 := Lib.hid known_any
  clear T0 T1 w0 hr hzs
  by_cases hlong : 320 < zs.length
  · go_enter Tryd.func8, Tryd.ntmps8
    go_wp2_with fail
    (with_reducible refine (g0.out _ HT.out ST.out).mono ?_)
    rintro e w1 ⟨rfl, hw1⟩
    have bw1 : Below w.heap.size w w1 := (by (repeat (first | (with_reducible assumption) | (with_reducible exact Below.refl _ _) | (with_reducible refine beld_drew ?_) | ((with_reducible refine bset' ?_ ?_); (first | (focus (dsimp only; assumption)) | (focus (simp; done)) | (focus (dsimp only; omega)))) | (with_reducible refine belt_alloc ?_) | ((with_reducible refine zeroed_below' ?_ ?_); (first | (focus (simp; done)) | (focus (dsimp only; omega)))) | (with_reducible refine bt ?_ (by assumption)))))
    have sw1 := bw1.size
    clear hw1
    go_wp2
    go_ret
    exact ⟨rfl, bw1⟩
  · obtain ⟨no, sq, of, de, pr, bo, li, to, da, hv, hd, gm⟩ := made_any a0 cap0 zs
    have hds : da.data.toList.length = da.size := by simp
    have ge := fun w h t => encode_ok no sq of de pr bo li to da hv w h t
    have hel := encL_len no sq of de pr bo li to da.data.toList
    rw [hds] at hel
    have hv' : buC no sq of de pr bo li to da.data.toList.length = 0 := by rw [hds]; exact hv
    have hF := frLen_le no sq of de pr bo li to (wholeB of to da.size)
    have hP := putN_length da.size
    have hbn := buC_nat hv
    obtain ⟨s, hs⟩ : ∃ s : ByteArray, s.data.toList = encL no sq of de pr bo li to da.data.toList := ⟨⟨(encL no sq of de pr bo li to da.data.toList).toArray⟩, rfl⟩
    have hsz : s.size = szN (frLen no sq of de pr bo li to (wholeB of to da.size)) da.size := by rw [← hel, ← hs]; simp
    have hs12 : 12 ≤ s.size := by rw [hsz]; unfold szN; omega
    have hs1030 : s.size ≤ 1030 := by rw [hsz]; unfold szN; omega
    rw [← hs, show bstr s.data.toList = .string s from rfl] at ge
    have hsl : s.data.toList.length = s.size := by simp
    obtain ⟨n, en, ln⟩ := nat_mod pos (s.size : Int) (by omega)
    obtain ⟨r, er, lr⟩ := nat_mod by_ 255 (by omega)
    have gn : ∀ w, Calls Tryd.prog 25 #[.int .i64 pos, .int .i64 (s.size : Int)] w fun e w' => e = .returned (.int .i64 (n : Int)) ∧ w = w' := fun w => by have := mod_any pos s.size w (by omega) (by omega); rwa [en] at this
    have gr : ∀ w, Calls Tryd.prog 25 #[.int .i64 by_, .int .i64 255] w fun e w' => e = .returned (.int .i64 (r : Int)) ∧ w = w' := fun w => by have := mod_any by_ 255 w (by omega) (by omega); rwa [er] at this
    have hn : n < s.size := by omega
    have hnl : n < s.data.toList.length := by omega
    obtain ⟨b, hb⟩ : ∃ b, s.data.toList[n] = b := ⟨_, rfl⟩
    obtain ⟨v, hv1, hv2⟩ := u8_change b (1 + r) (by omega) (by omega)
    have xr : bits BinOp.xor IntKind.u8 (b.toNat : Int) (1 + (r : Int)) = (v.toNat : Int) := by
      have := u8_xor_nat b.toNat (1 + r) b.toNat_lt (by omega)
      rw [← hv1] at this
      push_cast at this
      exact this
    have q1 : IntKind.u8.wrap (1 + (r : Int)) = 1 + (r : Int) := by rw [IntKind.wrap_u8']; omega
    have p1 : (decL (s.data.toList.set n v)).err ≠ 0 := by
      rw [hs]
      refine spoilt_set no sq of de pr bo li to da.data.toList n v (by rw [← hs]; exact hnl) ?_
      have : (encL no sq of de pr bo li to da.data.toList)[n]'(by rw [← hs]; exact hnl) = b := by rw [← hb]; congr 1; exact hs.symm
      rw [this]; exact hv2
    have p2 : (decL (s.data.toList.take n)).err ≠ 0 := by
      rw [hs]; exact spoilt_cut no sq of de pr bo li to da.data.toList hv' n (by rw [← hs]; exact hnl)
    have p3 : (decL (s.data.toList ++ s.data.toList.take (1 + n))).err ≠ 0 := by
      have h3 : s.data.toList.take (1 + n) ≠ [] := by intro h0; have := congrArg List.length h0; rw [List.length_take, List.length_nil] at this; omega
      conv => lhs; rw [show s.data.toList ++ s.data.toList.take (1 + n) = encL no sq of de pr bo li to da.data.toList ++ s.data.toList.take (1 + n) by rw [← hs]]
      exact spoilt_more no sq of de pr bo li to da.data.toList hv' _ h3
    have sx : (s.extract 0 (1 + n)).size = 1 + n := by simp; omega
    obtain ⟨e1, f1, n1, gd1⟩ := dec_err ⟨(s.data.toList.set n v).toArray⟩ (by rw [bsize, List.length_set]; omega) p1
    have gd1 : ∀ w, HTab w → STab w → Calls Tryd.prog 17 #[bstr (s.data.toList.set n v)] w fun q w' => q = .returned (.tuple #[.agg #[.int .i64 0, .int .u64 0, .int .i64 0, .int .i64 0, .int .i64 0, .int .i64 0, .int .i64 0, .int .i64 0, .string ⟨#[]⟩], .agg #[.int .i64 e1, .int .i64 f1]]) ∧ Below w.heap.size w w' := gd1
    obtain ⟨e2, f2, n2, gd2⟩ := dec_err (s.extract 0 n) (by simp; omega) (by rw [ext_toList]; exact p2)
    obtain ⟨e3, f3, n3, gd3⟩ := dec_err (s ++ s.extract 0 (1 + n)) (by rw [ByteArray.size_append, sx]; omega) (by rw [show (s ++ s.extract 0 (1 + n)).data.toList = s.data.toList ++ s.data.toList.take (1 + n) by simp]; exact p3)
    have st1 : (s.toList == []) = false := by
      have h1 : s.data.toList ≠ [] := by rw [← List.length_pos_iff]; omega
      rw [ByteArray.toList_eq]; simpa using h1
    have st2 : s.toList.isEmpty = false := by
      have h1 : s.data.toList ≠ [] := by rw [← List.length_pos_iff]; omega
      rw [ByteArray.toList_eq]; simpa using h1
    have n9 : ¬ (9223372036854775807 < s.size + (s.extract 0 (1 + n)).size) := by omega
    replace ge := Lib.hid ge; replace gm := Lib.hid gm; replace gn := Lib.hid gn; replace gr := Lib.hid gr; replace gd1 := Lib.hid gd1; replace gd2 := Lib.hid gd2; replace gd3 := Lib.hid gd3
    have Hb := Lib.hid hb
    clear hv hd hds hel hv' hF hP hbn hs hsz en er hb hv1 hv2 p1 p2 p3
    have Hsl := Lib.hid hsl; clear hsl
    go_enter Tryd.func8, Tryd.ntmps8
    go_wp2_with fail
    (with_reducible refine (g0.out _ HT.out ST.out).mono ?_)
    rintro e w1 ⟨rfl, hw1⟩
    have bw1 : Below w.heap.size w w1 := (by (repeat (first | (with_reducible assumption) | (with_reducible exact Below.refl _ _) | (with_reducible refine beld_drew ?_) | ((with_reducible refine bset' ?_ ?_); (first | (focus (dsimp only; assumption)) | (focus (simp; done)) | (focus (dsimp only; omega)))) | (with_reducible refine belt_alloc ?_) | ((with_reducible refine zeroed_below' ?_ ?_); (first | (focus (simp; done)) | (focus (dsimp only; omega)))) | (with_reducible refine bt ?_ (by assumption)))))
    have sw1 := bw1.size
    clear hw1
    go_wp2_with fail
    (with_reducible refine (gm.out _ (HR.out.below bw1)).mono ?_)
    rintro e w2 ⟨rfl, hw2⟩
    have bw2 : Below w.heap.size w w2 := (by (repeat (first | (with_reducible assumption) | (with_reducible exact Below.refl _ _) | (with_reducible refine beld_drew ?_) | ((with_reducible refine bset' ?_ ?_); (first | (focus (dsimp only; assumption)) | (focus (simp; done)) | (focus (dsimp only; omega)))) | (with_reducible refine belt_alloc ?_) | ((with_reducible refine zeroed_below' ?_ ?_); (first | (focus (simp; done)) | (focus (dsimp only; omega)))) | (with_reducible refine bt ?_ (by assumption)))))
    have sw2 := bw2.size
    clear hw2 bw1
    go_wp2_with fail
    (with_reducible refine (ge.out _ (HT.out.on bw2) (ST.out.on bw2)).mono ?_)
    rintro e w3 ⟨rfl, hw3⟩
    have bw3 : Below w.heap.size w w3 := (by (repeat (first | (with_reducible assumption) | (with_reducible exact Below.refl _ _) | (with_reducible refine beld_drew ?_) | ((with_reducible refine bset' ?_ ?_); (first | (focus (dsimp only; assumption)) | (focus (simp; done)) | (focus (dsimp only; omega)))) | (with_reducible refine belt_alloc ?_) | ((with_reducible refine zeroed_below' ?_ ?_); (first | (focus (simp; done)) | (focus (dsimp only; omega)))) | (with_reducible refine bt ?_ (by assumption)))))
    have sw3 := bw3.size
    clear hw3 bw2
    go_wp2_with fail
    (with_reducible refine (gn.out _).mono ?_)
    rintro e wx ⟨rfl, rfl⟩
    go_wp2
    obtain ⟨vb, w8, hrun, hown, hb8, hz8⟩ := ownsB_of (P := Tryd.prog) Tryd.underlying9 Tryd.underlying43 Tryd.underlying5 s (by unfold maxLen; omega) w3
    obtain ⟨cap8, rfl⟩ : ∃ cap, vb = .slice (some ⟨w3.heap.size, 0, none⟩) s.size cap := by obtain ⟨cap, _, _, h, _⟩ := hown; exact ⟨cap, by rw [h, Hsl.out]⟩
    have O8 := Lib.hid hown
    have B8 : Below w.heap.size w w8 := bt bw3 hb8
    have sw8 := B8.size
    have rown := hown.cell n hnl
    rw [show s.data.toList[n] = b from Hb.out] at rown
    have zown := hown.frozen n hnl
    clear hown hb8 hz8
    rw [hrun]
    go_wp2
    have c1 : (0 : Int) ≤ (n : Int) := by omega
    have c2 : (n : Int) < (s.size : Int) := by omega
    refine wp_region_tail 12 (by kernel_rfl) (by kernel_rfl) ?_
    intro W0_1 hE_1 hN_1
    have bW0_1 : Below w.heap.size w W0_1 := (by rw [hE_1.out]; (repeat (first | (with_reducible assumption) | (with_reducible exact Below.refl _ _) | (with_reducible refine beld_drew ?_) | ((with_reducible refine bset' ?_ ?_); (first | (focus (dsimp only; assumption)) | (focus (simp; done)) | (focus (dsimp only; omega)))) | (with_reducible refine belt_alloc ?_) | ((with_reducible refine zeroed_below' ?_ ?_); (first | (focus (simp; done)) | (focus (dsimp only; omega)))) | (with_reducible refine bt ?_ (by assumption)))))
    have OX : ∀ x : Class (Calm W0_1), OwnsB x.wd w3.heap.size 5 (.slice (some ⟨w3.heap.size, 0, none⟩) s.size cap8) w3.heap.size s.data.toList := (fun x => O8.out.below (by rw [← hE_1.out]; exact x.ok)); have rowx : ∀ x : Class (Calm W0_1), x.wd.cell? ⟨w3.heap.size, n, none⟩ = some (.int .u8 (b.toNat : Int)) := (fun x => by have := (OX x).cell n hnl; rw [show s.data.toList[n] = b from Hb.out] at this; exact this); replace OX := Lib.hid OX
    clear hE_1
    simp only [List.take_succ_cons, List.take_zero, List.drop_succ_cons, List.drop_zero]
    repeat (go_big_quiet_step ((go_at_call 25; (with_reducible refine Class.same _ (gr.out _)))))
    refine wpQuiet_nil ?_
    rintro _ ⟨x_1, rfl⟩
    have hx_1 : Calm W0_1 x_1.wd := x_1.ok
    have bw9 : Below w.heap.size w x_1.wd := bt bW0_1 hx_1
    have O9 := Lib.hid (OX.out x_1); clear OX rowx
    clear hx_1 bW0_1 hN_1 bw3
    generalize x_1.wd = w9 at *
    have sw9 := bw9.size
    have z9 := O9.out.frozen n hnl
    have y9 := O9.out.cell n hnl
    have cv1 := (O9.out.set n v).back Tryd.underlying43 Tryd.underlying5 Tryd.underlying9
    have B9 : Below w.heap.size w (w9.setCell ⟨w3.heap.size, n, none⟩ (.int .u8 (v.toNat : Int))) := bw9.setCell (p := ⟨w3.heap.size, n, none⟩) (by simp only; omega) _
    clear O8 rown zown
    go_wp2_with fail
    (with_reducible refine (gd1.out _ (HT.out.on B9) (ST.out.on B9)).mono ?_)
    rintro e w10 ⟨rfl, hw10⟩
    have bw10 : Below w.heap.size w w10 := (by (repeat (first | (with_reducible assumption) | (with_reducible exact Below.refl _ _) | (with_reducible refine beld_drew ?_) | ((with_reducible refine bset' ?_ ?_); (first | (focus (dsimp only; assumption)) | (focus (simp; done)) | (focus (dsimp only; omega)))) | (with_reducible refine belt_alloc ?_) | ((with_reducible refine zeroed_below' ?_ ?_); (first | (focus (simp; done)) | (focus (dsimp only; omega)))) | (with_reducible refine bt ?_ (by assumption)))))
    have sw10 := bw10.size
    clear hw10 bw9
    go_wp2_with fail
    have B10 : Below w.heap.size w ((w10.alloc (.cells #[.int .i64 0, .int .u64 0, .int .i64 0, .int .i64 0, .int .i64 0, .int .i64 0, .int .i64 0, .int .i64 0, .string ⟨#[]⟩] 26)).alloc (.cells #[.int .i64 e1, .int .i64 f1] 36)) := ((bw10.alloc sw10 _).alloc (by simp; omega) _)
    go_wp2_with fail
    (with_reducible refine (gd2.out _ (HT.out.on B10) (ST.out.on B10)).mono ?_)
    rintro e w11 ⟨rfl, hw11⟩
    have m10 := hw11.size; simp at m10
    have kk2 : blk w11 (w10.heap.size + 1) = some #[.int .i64 e1, .int .i64 f1] := (by (apply blk_to; (focus (repeat (first | (with_reducible assumption) | (with_reducible apply blk_drew) | (with_reducible apply blk_set) | ((with_reducible apply blk_other'); (first | (focus (dsimp only; assumption)) | (focus (simp; done)) | (focus (dsimp only; omega)))) | ((with_reducible apply blk_alloc_new); (first | (with_reducible rfl) | (focus (simp; done)) | (focus (simp; omega)))) | (with_reducible apply blk_alloc) | ((with_reducible apply blk_below); (with_reducible assumption))))); rfl))
    have kn2 := kn kk2
    have bw11 : Below w.heap.size w w11 := (by (repeat (first | (with_reducible assumption) | (with_reducible exact Below.refl _ _) | (with_reducible refine beld_drew ?_) | ((with_reducible refine bset' ?_ ?_); (first | (focus (dsimp only; assumption)) | (focus (simp; done)) | (focus (dsimp only; omega)))) | (with_reducible refine belt_alloc ?_) | ((with_reducible refine zeroed_below' ?_ ?_); (first | (focus (simp; done)) | (focus (dsimp only; omega)))) | (with_reducible refine bt ?_ (by assumption)))))
    have sw11 := bw11.size
    clear hw11 bw10
    go_wp2_with fail
    have B11 : Below w.heap.size w ((w11.alloc (.cells #[.int .i64 0, .int .u64 0, .int .i64 0, .int .i64 0, .int .i64 0, .int .i64 0, .int .i64 0, .int .i64 0, .string ⟨#[]⟩] 26)).alloc (.cells #[.int .i64 e2, .int .i64 f2] 36)) := ((bw11.alloc sw11 _).alloc (by simp; omega) _)
    go_wp2_with fail
    (with_reducible refine (gd3.out _ (HT.out.on B11) (ST.out.on B11)).mono ?_)
    rintro e w12 ⟨rfl, hw12⟩
    have m11 := hw12.size; simp at m11
    have kk3 : blk w12 (w10.heap.size + 1) = some #[.int .i64 e1, .int .i64 f1] := (by (apply blk_to; (focus (repeat (first | (with_reducible assumption) | (with_reducible apply blk_drew) | (with_reducible apply blk_set) | ((with_reducible apply blk_other'); (first | (focus (dsimp only; assumption)) | (focus (simp; done)) | (focus (dsimp only; omega)))) | ((with_reducible apply blk_alloc_new); (first | (with_reducible rfl) | (focus (simp; done)) | (focus (simp; omega)))) | (with_reducible apply blk_alloc) | ((with_reducible apply blk_below); (with_reducible assumption))))); rfl))
    have kk4 : blk w12 (w11.heap.size + 1) = some #[.int .i64 e2, .int .i64 f2] := (by (apply blk_to; (focus (repeat (first | (with_reducible assumption) | (with_reducible apply blk_drew) | (with_reducible apply blk_set) | ((with_reducible apply blk_other'); (first | (focus (dsimp only; assumption)) | (focus (simp; done)) | (focus (dsimp only; omega)))) | ((with_reducible apply blk_alloc_new); (first | (with_reducible rfl) | (focus (simp; done)) | (focus (simp; omega)))) | (with_reducible apply blk_alloc) | ((with_reducible apply blk_below); (with_reducible assumption))))); rfl))
    clear kk2 kn2
    have kn3 := kn kk3
    have kn4 := kn kk4
    have bw12 : Below w.heap.size w w12 := (by (repeat (first | (with_reducible assumption) | (with_reducible exact Below.refl _ _) | (with_reducible refine beld_drew ?_) | ((with_reducible refine bset' ?_ ?_); (first | (focus (dsimp only; assumption)) | (focus (simp; done)) | (focus (dsimp only; omega)))) | (with_reducible refine belt_alloc ?_) | ((with_reducible refine zeroed_below' ?_ ?_); (first | (focus (simp; done)) | (focus (dsimp only; omega)))) | (with_reducible refine bt ?_ (by assumption)))))
    have sw12 := bw12.size
    clear hw12 bw11
    have l10 : w10.heap.size + 1 < w12.heap.size := blk_lt (by assumption : blk w12 (w10.heap.size + 1) = some #[.int .i64 e1, .int .i64 f1])
    have l11 : w11.heap.size + 1 < w12.heap.size := blk_lt (by assumption : blk w12 (w11.heap.size + 1) = some #[.int .i64 e2, .int .i64 f2])
    have d10 : w10.heap.size ≠ w12.heap.size := by omega
    have d11 : w11.heap.size ≠ w12.heap.size := by omega
    have j1 : ∀ o, ((w12.alloc (.cells #[.int .i64 0, .int .u64 0, .int .i64 0, .int .i64 0, .int .i64 0, .int .i64 0, .int .i64 0, .int .i64 0, .string ⟨#[]⟩] 26)).alloc (.cells #[.int .i64 e3, .int .i64 f3] 36)).cell? ⟨w10.heap.size + 1, o, none⟩ = (#[.int .i64 e1, .int .i64 f1] : Array Value)[o]? := blk_cell (blk_alloc (blk_alloc (by assumption : blk w12 (w10.heap.size + 1) = some #[.int .i64 e1, .int .i64 f1]) _) _)
    have j2 : ∀ o, ((w12.alloc (.cells #[.int .i64 0, .int .u64 0, .int .i64 0, .int .i64 0, .int .i64 0, .int .i64 0, .int .i64 0, .int .i64 0, .string ⟨#[]⟩] 26)).alloc (.cells #[.int .i64 e3, .int .i64 f3] 36)).cell? ⟨w11.heap.size + 1, o, none⟩ = (#[.int .i64 e2, .int .i64 f2] : Array Value)[o]? := blk_cell (blk_alloc (blk_alloc (by assumption : blk w12 (w11.heap.size + 1) = some #[.int .i64 e2, .int .i64 f2]) _) _)
    go_wp2
    go_ret
    exact ⟨rfl, by (repeat (first | (with_reducible assumption) | (with_reducible exact Below.refl _ _) | (with_reducible refine beld_drew ?_) | ((with_reducible refine bset' ?_ ?_); (first | (focus (dsimp only; assumption)) | (focus (simp; done)) | (focus (dsimp only; omega)))) | (with_reducible refine belt_alloc ?_) | ((with_reducible refine zeroed_below' ?_ ?_); (first | (focus (simp; done)) | (focus (dsimp only; omega)))) | (with_reducible refine bt ?_ (by assumption))))⟩
end Go.Proofs.YtiphddlakbbfiaaDoor
