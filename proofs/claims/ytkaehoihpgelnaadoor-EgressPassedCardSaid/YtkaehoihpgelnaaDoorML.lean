/- Parts of a proof, printed by a program of mine out of my texts: EgBool, SoStab, SoSort, BuKit, SoMade, KitBytes, EgMade, EgLaP. -/
import Derived.Great.Walk
import Derived.Test.YtkaehoihpgelnaaDoorMA
import Derived.Test.YtkaehoihpgelnaaDoorMB
import Derived.Test.YtkaehoihpgelnaaDoorMI
import Derived.Test.YtkaehoihpgelnaaDoorMK
import Derived.Test.YtkaehoihpgelnaaDoorMM
import Derived.Test.YtkaehoihpgelnaaDoorMN
import Derived.Test.YtkaehoihpgelnaaDoorMU
import Derived.Test.YtkaehoihpgelnaaDoorMW
import Derived.Test.YtkaehoihpgelnaaDoorMX9
set_option linter.unusedSimpArgs false
set_option linter.unusedVariables false
namespace Go.Proofs.YtkaehoihpgelnaaDoor
open Go.RowKit
theorem srow_atG {α : Type} {enc : α → List Value} {k : Nat} {w : World} {b o cap : Nat} {l : List α} (h : SRow enc k w (some ⟨b, o, none⟩) cap l) {j : Nat} (hj : j < l.length) : b < w.heap.size ∧ w.rangeAt b (o + j * k) (enc l[j]) := by
  obtain ⟨b', o', e, g, r⟩ := h.2.2.2 (by omega)
  cases e
  exact ⟨g, r j hj⟩
theorem MadeE.nodup {l : List Bn} (h : MadeE l) : (l.map fun b => (b.no, b.sq, b.of)).Nodup := by
  rw [List.Nodup, List.pairwise_iff_getElem]
  intro i j hi hj hij e
  simp only [List.length_map] at hi hj
  rw [List.getElem_map, List.getElem_map] at e
  simp only [Prod.mk.injEq] at e
  exact absurd (h.ids i j hi hj e.1 e.2.1 e.2.2) (by omega)
end Go.Proofs.YtkaehoihpgelnaaDoor
namespace Go.Proofs.YtkaehoihpgelnaaDoor
open Go.RowKit
def BnV (b : Bn) : Prop := buC b.no b.sq b.of b.de b.pr b.bo b.li b.to b.da.size = 0
theorem BnV.i {b : Bn} (h : BnV b) : BnI b := by
  obtain ⟨_, ⟨_, _, _, _, h1, h2, h3, h4, _⟩, _⟩ := buC_ok h
  exact ⟨⟨by omega, by omega⟩, ⟨by omega, by omega⟩⟩
theorem BnV.da {b : Bn} (h : BnV b) : b.da.size ≤ 1000 := by
  obtain ⟨_, _, _, h1, _⟩ := buC_ok h
  omega
end Go.Proofs.YtkaehoihpgelnaaDoor
namespace Go.Proofs.YtkaehoihpgelnaaDoor
open Go.RowKit
def MadeOf (k : Int) (da : ByteArray) : Prop := 0 ≤ k ∧ k < 1073741824 ∧ (da.size : Int) = k % 17 + 1
end Go.Proofs.YtkaehoihpgelnaaDoor
namespace Go.Proofs.YtkaehoihpgelnaaDoor
open Go.RowKit
def mkB (k : Int) (i : Nat) (da : ByteArray) : Bn := ⟨1 + k % 4, i, 0, 1 + k / 200 % 4, k / 800 % 3, k / 2400 % 20, 1 + k / 48000 % 60, k % 17 + 1, da⟩
def MkL (zs : List Int) (l : List Bn) : Prop := ∀ i (h : i < l.length), ∃ da, MadeOf (zs.getD i 0 % 1073741824) da ∧ l[i] = mkB (zs.getD i 0 % 1073741824) i da
theorem MkL.snoc {zs : List Int} {l : List Bn} (h : MkL zs l) {da : ByteArray} (hd : MadeOf (zs.getD l.length 0 % 1073741824) da) : MkL zs (l ++ [mkB (zs.getD l.length 0 % 1073741824) l.length da]) := by
  intro i hi
  by_cases hl : i < l.length
  · obtain ⟨d, h1, h2⟩ := h i hl
    exact ⟨d, h1, by rw [List.getElem_append_left hl]; exact h2⟩
  · have : i = l.length := by simp at hi; omega
    subst this
    exact ⟨da, hd, by simp⟩
theorem MkL.sq {zs : List Int} {l : List Bn} (h : MkL zs l) (i : Nat) (hi : i < l.length) : l[i].sq = i := by
  obtain ⟨da, _, h2⟩ := h i hi
  rw [h2]; rfl
theorem MkL.inj {zs : List Int} {l : List Bn} (h : MkL zs l) : l.Pairwise (fun a b => a ≠ b) := by
  rw [List.pairwise_iff_getElem]
  intro i j hi hj hij e
  have h1 := h.sq i hi
  have h2 := h.sq j hj
  rw [e, h2] at h1
  omega
end Go.Proofs.YtkaehoihpgelnaaDoor
namespace Go.Proofs.YtkaehoihpgelnaaDoor
open Go.RowKit
theorem infoU8K : (Tryd.prog.info? 5).map (fun i => (i.zero, i.size, i.bytes)) = some (some (.int .u8 0), 1, 1) := by kernel_rfl
def bytL (zs : List Int) (most : Nat) : List UInt8 := (zs.take most).map fun z => UInt8.ofNat (z % 256).toNat
theorem bytL_succ (zs : List Int) (k : Nat) (h : k < zs.length) : bytL zs (k + 1) = bytL zs k ++ [UInt8.ofNat (zs[k] % 256).toNat] := by
  unfold bytL; rw [List.take_succ_eq_append_getElem h, List.map_append]; rfl
theorem bytL_len (zs : List Int) (k : Nat) (h : k ≤ zs.length) : (bytL zs k).length = k := by
  unfold bytL; simp; omega
set_option maxRecDepth 100000 in
set_option maxHeartbeats 1600000 in
theorem bytes_any (a : Option Addr) (cap : Nat) (zs : List Int) (most : Nat) (hm : most ≤ 1000) (w : World) (h : Row .i64 w a cap zs) :
    Calls Tryd.prog 37 #[.slice a zs.length cap, .int .i64 (most : Int)] w fun e w' => e = .returned (bstr (bytL zs (min most zs.length))) ∧ Below w.heap.size w w' := by
  obtain ⟨i0, hi, hz0, hz1, hz2⟩ := info_parts infoU8K
  have Hi := Lib.hid hi; clear hi
  have Hz0 := Lib.hid hz0; clear hz0
  have Hz1 := Lib.hid hz1; clear hz1
  have Hz2 := Lib.hid hz2; clear hz2
  have HR := Lib.hid h
  have h1 := h.1; have h2 := h.2.1
  unfold maxLen at h2
  obtain ⟨N, hN⟩ : ∃ N, min most zs.length = N := ⟨_, rfl⟩
  have hN1 : N ≤ most := by omega
  have hN2 : N ≤ zs.length := by omega
  have hN3 : ∀ k, k ≤ N → ¬ k < N → (most ≤ k ∨ zs.length ≤ k) := fun k _ _ => by omega
  rw [hN]
  have HN := Lib.hid hN3
  clear h hN hN3
  go_enter Tryd.func37, Tryd.ntmps37
  go_wp2
  go_loopw [5, 6] (fun v ii wr => ∃ j : Nat, ii = .int .i64 (j : Int) ∧ j ≤ N ∧ wr.ownsRow w.heap.size 5 1 v j ((bytL zs j).map fun b => Value.int .u8 (b.toNat : Int)) ∧ Below w.heap.size w wr) (fun _ ii _ => N - (intOf ii).toNat)
  case atStart => exact ⟨0, rfl, by omega, World.ownsRow_nil _ _ _ _, Below.refl _ _⟩
  case round =>
    obtain ⟨j, rfl, hj, hown, hb⟩ := hrel
    have Hown := Lib.hid hown; clear hown
    have hbs := hb.size
    by_cases hlt : j < N
    · have hjl : j < zs.length := by omega
      have c1 : (j : Int) < (zs.length : Int) := by omega
      have c2 : (j : Int) < (most : Int) := by omega
      obtain ⟨b, off, ha, hblt, hcell⟩ := (HR.out.below hb).2.2.2.2 (by omega)
      have hx := hcell j hjl
      clear hcell
      have hs := bytL_succ zs j hjl
      obtain ⟨z, hz⟩ : ∃ z, zs[j] = z := ⟨_, rfl⟩
      rw [hz] at hx hs
      have z1 := Int.emod_nonneg z (show (256 : Int) ≠ 0 by omega)
      have z2 := Int.emod_lt_of_pos z (show (0 : Int) < 256 by omega)
      obtain ⟨y, hy⟩ : ∃ y : Int, z % 256 = y := ⟨_, rfl⟩
      have gm := fun w => mod_any z 256 w (by omega) (by omega)
      rw [hy] at z1 z2 hs gm
      have q1 : IntKind.u8.wrap y = ((UInt8.ofNat y.toNat).toNat : Int) := by rw [IntKind.wrap_u8', UInt8.toNat_ofNat']; omega
      obtain ⟨bb, hbb⟩ : ∃ bb, UInt8.ofNat y.toNat = bb := ⟨_, rfl⟩
      rw [hbb] at q1 hs
      replace gm := Lib.hid gm
      have Hs := Lib.hid hs
      subst ha
      clear hs hz hy hbb z1 z2
      go_wp2_with (first | (go_at_call 15; (with_reducible refine (gm.out _).mono ?_); rintro e wx ⟨rfl, rfl⟩) | (at_builtin; refine wpList_append_own _ rfl _ _ 96 rfl w.heap.size 5 i0 (.int .u8 0) 1 1 Tryd.underlying96 Hi.out Hz0.out Hz1.out Hz2.out rfl (by decide) _ j _ rfl (Hown.out.alloc _) ⟨wr.heap.size, 0, none⟩ 1 1 [.int .u8 (bb.toNat : Int)] rfl rfl (cell_one_new _ _ _) (by simp [Value.oneCell']) (by unfold maxLen; omega) (by omega) (by simp; omega) ?_; intro v' w2 hown2 hgrow2 _))
      go_roundw
      case rel => exact ⟨j + 1, by go_num, by omega, by rw [Hs.out, List.map_append]; exact hown2, (hb.alloc hb.size _).grown hgrow2 (by simp; omega) (fun k e => (Hown.out.lt k e).1)⟩
      case measure => simp [intOf]; omega
    · obtain rfl : j = N := by omega
      have hbl := bytL_len zs j hN2
      have hend : (convert 96 9 u5).run Tryd.prog wr = .ok (bstr (bytL zs j)) wr := by
        rcases Hown.out.2 with ⟨h, hnil⟩ | ⟨g, cap', cur, h, hg⟩
        · have hj0 : j = 0 := by simpa using hnil
          have h0 : bytL zs j = [] := by rw [hj0]; rfl
          rw [h0, h]
          first | kernel_rfl | rfl | (rw [run_convert_bytes_string _ _ _ _ _ _ _ Tryd.underlying96 Tryd.underlying5 Tryd.underlying9]; rfl)
        · rw [h]
          have := run_convert_bytes_back (P := Tryd.prog) wr 96 9 5 ⟨g, 0, none⟩ cap' (bytL zs j) Tryd.underlying96 Tryd.underlying5 Tryd.underlying9 (fun i hi => by
            rw [Addr.add_lit, Nat.zero_add]
            have hc := World.ownsRow.cellAt (h ▸ Hown.out) i (by omega)
            rw [hc]
            simp [hi])
          rw [hbl] at this
          exact this
      rcases HN.out j (Nat.le_refl _) (by omega) with hc | hc
      · have c2 : (most : Int) ≤ (j : Int) := by omega
        by_cases c1 : (j : Int) < (zs.length : Int)
        · go_wp2
          go_ret
          exact ⟨rfl, hb⟩
        · go_wp2
          go_ret
          exact ⟨rfl, hb⟩
      · have c1 : (zs.length : Int) ≤ (j : Int) := by omega
        go_wp2
        go_ret
        exact ⟨rfl, hb⟩
end Go.Proofs.YtkaehoihpgelnaaDoor
namespace Go.Proofs.YtkaehoihpgelnaaDoor
open Go.RowKit
theorem MadeE.nil : MadeE [] := ⟨by simp, fun i h => absurd h (by simp), fun i h => absurd h (by simp), fun i h => absurd h (by simp), fun i h => absurd h (by simp)⟩
theorem MadeE.snoc {l : List Bn} (h : MadeE l) (hl : l.length < 12) (x : Bn) (h1 : bcode x = 0) (h2 : x.no = 1) (h3 : x.sq = l.length) (h4 : 0 ≤ x.pr ∧ x.pr ≤ 2) : MadeE (l ++ [x]) := by
  have H : ∀ {P : Nat → Bn → Prop}, (∀ i (h : i < l.length), P i l[i]) → P l.length x → ∀ i (h : i < (l ++ [x]).length), P i (l ++ [x])[i] := by
    intro P ha hb i hi
    by_cases e : i < l.length
    · rw [List.getElem_append_left e]; exact ha i e
    · have e2 : i = l.length := by simp at hi; omega
      subst e2
      rw [List.getElem_append_right (Nat.le_refl _)]
      simpa using hb
  exact ⟨by simp; omega, H (P := fun _ b => bcode b = 0) h.ok h1, H (P := fun _ b => b.no = 1) h.no h2, H (P := fun i b => b.sq = i) h.sq h3, H (P := fun _ b => 0 ≤ b.pr ∧ b.pr ≤ 2) h.pr h4⟩
def sizeV : Value → Nat
  | .string s => s.size
  | _ => 0
theorem row3 {w : World} {g : Nat} {x y z : Int} (hx : 0 ≤ x ∧ x ≤ 1048576) (hy : 0 ≤ y ∧ y ≤ 1048576) (hz : 0 ≤ z ∧ z ≤ 1048576) (hb : blk w g = some #[.int .i64 x, .int .i64 y, .int .i64 z]) : Row .i64 w (some ⟨g, 0, none⟩) 3 [x, y, z] := by
  refine ⟨Nat.le_refl 3, by unfold maxLen; omega, fun v hv => by simp at hv; rcases hv with rfl | rfl | rfl <;> exact WalkArith.wf_i64 (by omega), by simp, fun _ => ⟨g, 0, rfl, blk_lt hb, fun i hi => ?_⟩⟩
  rw [blk_cell hb]
  match i, hi with
  | 0, _ => rfl
  | 1, _ => rfl
  | 2, _ => rfl
set_option maxRecDepth 100000 in
set_option maxHeartbeats 3200000 in
theorem madeE_any (a : Option Addr) (cap : Nat) (zs : List Int) (w : World) (hrow : Row .i64 w a cap zs) :
    Calls Tryd.prog 10 #[.slice a zs.length cap] w fun e w' => ∃ v l, e = .returned v ∧ MadeE l ∧ w'.ownsRow w.heap.size 38 9 v l.length (rowC bn l) ∧ Below w.heap.size w w' := by
  obtain ⟨i2, hi', hz0', hz1', hz2'⟩ := info_parts infoBu
  have Hj := Lib.hid hi'; have Hy0 := Lib.hid hz0'; have Hy1 := Lib.hid hz1'; have Hy2 := Lib.hid hz2'
  clear hi' hz0' hz1' hz2'
  have HR := Lib.hid hrow
  have hz2 := hrow.2.1
  have hz1 := hrow.1
  unfold maxLen at hz2
  clear hrow
  go_enter Tryd.func10, Tryd.ntmps10
  go_wp2
  go_loopw [3, 4] (fun o i wr => ∃ l : List Bn, i = .int .i64 l.length ∧ l.length ≤ 12 ∧ l.length ≤ zs.length ∧ Below w.heap.size w wr ∧ Hid (MadeE l ∧ wr.ownsRow w.heap.size 38 9 o l.length (rowC bn l))) (fun _ i _ => 12 - (intOf i).toNat)
  case atStart => exact ⟨[], rfl, by simp, by simp, Below.refl _ _, Lib.hid ⟨MadeE.nil, by simpa [rowC] using World.ownsRow_nil w _ _ _⟩⟩
  case round =>
    obtain ⟨l, rfl, h20, hlz, hB, hq⟩ := hrel
    obtain ⟨n, hn⟩ : ∃ n, n = l.length := ⟨_, rfl⟩
    rw [← hn] at h20 hlz ⊢
    have HN := Lib.hid hn
    clear hn
    by_cases hz : n < zs.length
    · have t1 : decide ((n : Int) < (zs.length : Int)) = true := decide_eq_true (by omega)
      by_cases ht : n < 12
      · have t2 : decide ((n : Int) < 12) = true := decide_eq_true (by omega)
        have l1 : (n : Int) < (zs.length : Int) := by omega
        obtain ⟨b, off, rfl, hbl, hc⟩ := (HR.out.below hB).2.2.2.2 (by omega)
        have h1 := hc n hz
        clear hc
        obtain ⟨z, hzz⟩ : ∃ z, z = zs[n] := ⟨_, rfl⟩
        rw [← hzz] at h1
        clear hzz
        have hb := Lib.hid (fun w => mod_any z 1048576 w (by decide) (by decide))
        have k0 := Int.emod_nonneg z (show (1048576 : Int) ≠ 0 by decide)
        have k1 := Int.emod_lt_of_pos z (show (0 : Int) < 1048576 by decide)
        have m1 : IntKind.u64.wrap (n : Int) = n := IntWalk.u64_in _ (by omega)
        obtain ⟨k, hk⟩ : ∃ k, z % 1048576 = k := ⟨_, rfl⟩
        rw [hk] at hb k0 k1
        clear hk
        have szr := hB.size
        have gb : ∀ W a, Row .i64 W a 3 [k, k / 7, k / 11] → Calls Tryd.prog 37 #[.slice a 3 3, .int .i64 3] W fun e w' => ∃ da : ByteArray, e = .returned (.string da) ∧ da.size = 3 ∧ Below W.heap.size W w' := fun W a h => by
          refine (bytes_any a 3 [k, k / 7, k / 11] 3 (by decide) W h).mono ?_
          rintro e w' ⟨h1, h2⟩
          exact ⟨_, h1, by show (bytL [k, k / 7, k / 11] 3).toArray.size = 3; simp [bytL], h2⟩
        replace gb := Lib.hid gb
        go_wp2_with (first | (go_at_call 15; (with_reducible refine (hb.out _).mono ?_); rintro e wx ⟨rfl, rfl⟩) | (go_at_call 37; (with_reducible refine (gb.out _ _ (row3 (by omega) (by omega) (by omega) (blk_alloc_new _ _ _ rfl))).mono ?_); rintro e u1 ⟨da, rfl, hda, h1⟩))
        have HO := Lib.hid (owns_belowS (hq.out.2.alloc (.cells #[.int .i64 k, .int .i64 (k / 7), .int .i64 (k / 11)] 3)) h1)
        have B1 := bt (hB.alloc hB.size _) h1
        have HM := Lib.hid hq.out.1
        clear h1 hq hb gb
        go_loopw [6] (fun d wr2 => ∃ da : ByteArray, d = .string da ∧ 1 ≤ da.size ∧ da.size ≤ 62 ∧ Below w.heap.size w wr2 ∧ Hid (wr2.ownsRow w.heap.size 38 9 u3 l.length (rowC bn l))) (fun d _ => 70 - sizeV d)
        case atStart => exact ⟨da, rfl, by omega, by omega, B1, HO⟩
        case round =>
          clear HO B1 hB szr
          obtain ⟨dd, rfl, d1, d2, hB2, HO2⟩ := hrel
          by_cases hlt : (dd.size : Int) < 1 + k / 12 % 60
          · have t3 : decide ((dd.size : Int) < 1 + k / 12 % 60) = true := decide_eq_true (by omega)
            have t4 : (dd.size : Int) < 1 + k / 12 % 60 := by omega
            have d3 : ¬ 2 ^ 63 - 1 < dd.size + 2 := by omega
            go_wp2
            go_roundw
            case rel => exact ⟨dd ++ ⟨#[97, 98]⟩, rfl, by rw [ByteArray.size_append]; omega, by rw [ByteArray.size_append]; have : (⟨#[97, 98]⟩ : ByteArray).size = 2 := rfl; omega, hB2, HO2⟩
            case measure => simp [sizeV, ByteArray.size_append]; have : (⟨#[97, 98]⟩ : ByteArray).size = 2 := rfl; omega
          · have t3 : decide ((dd.size : Int) < 1 + k / 12 % 60) = false := decide_eq_false (by omega)
            have t4 : ¬ (dd.size : Int) < 1 + k / 12 % 60 := by omega
            have szr2 := hB2.size
            have hbc : bcode ⟨1, n, 0, 2, k % 3, k / 3 % 4, 10, dd.size, dd⟩ = 0 := by
              show buC 1 n 0 2 (k % 3) (k / 3 % 4) 10 dd.size dd.size = 0
              unfold buC
              rw [if_neg (not_not_intro (by unfold okI; omega)), if_neg (not_not_intro (by unfold okN; omega)), if_neg (by omega), if_neg (by omega), if_neg (by omega)]
            have HML := Lib.hid (MadeE.snoc HM.out (by have := HN.out; omega) ⟨1, n, 0, 2, k % 3, k / 3 % 4, 10, dd.size, dd⟩ hbc rfl (by show (n : Int) = l.length; rw [HN.out]) (by show 0 ≤ k % 3 ∧ k % 3 ≤ 2; omega))
            clear hbc
            go_wp2_with (at_builtin; go_loud ((refine wpList_append_struct (enc := bn) rfl _ _ 23 rfl w.heap.size 38 i2 (.agg #[.int .i64 0, .int .u64 0, .int .i64 0, .int .i64 0, .int .i64 0, .int .i64 0, .int .i64 0, .int .i64 0, .string ⟨#[]⟩]) 9 80 Tryd.underlying23 Hj.out Hy0.out Hy1.out Hy2.out rfl (by decide) bn_len bn_one _ l rfl (HO2.out.alloc _) wr.heap.size 1 ⟨1, n, 0, 2, k % 3, k / 3 % 4, 10, dd.size, dd⟩ rfl (blk_alloc_new _ _ _ rfl) (by rw [← HN.out]; unfold maxLen; omega) (by rw [← HN.out]; omega) (by simp; omega) ?_); (intro v' wb hown2 hgrow2)))
            have hB3 : Below w.heap.size w wb := (hB2.alloc hB2.size _).grown hgrow2 (by simp; omega) (fun k e => (HO2.out.lt k e).1)
            have ln : (l ++ [(⟨1, n, 0, 2, k % 3, k / 3 % 4, 10, dd.size, dd⟩ : Bn)]).length = n + 1 := (by rw [List.length_append, ← HN.out]; rfl)
            have LN := Lib.hid ln
            clear ln
            replace hown2 := Lib.hid hown2
            go_wp2
            go_roundw
            case rel => exact ⟨l ++ [⟨1, n, 0, 2, k % 3, k / 3 % 4, 10, dd.size, dd⟩], by rw [LN.out]; go_num, by rw [LN.out]; omega, by rw [LN.out]; omega, hB3, Lib.hid ⟨HML.out, hown2.out⟩⟩
            case measure => simp [intOf]; omega
      · have t2 : decide ((n : Int) < 12) = false := decide_eq_false (by omega)
        go_wp2
        go_ret
        exact ⟨_, l, rfl, hq.out.1, hq.out.2, hB⟩
    · have t1 : decide ((n : Int) < (zs.length : Int)) = false := decide_eq_false (by omega)
      go_wp2
      go_ret
      exact ⟨_, l, rfl, hq.out.1, hq.out.2, hB⟩
end Go.Proofs.YtkaehoihpgelnaaDoor
namespace Go.Proofs.YtkaehoihpgelnaaDoor
open Go.RowKit
theorem made_opn {l : List Bn} (h : MadeE l) {us bu by' : Int} (h1 : 0 ≤ us ∧ us ≤ 18446744073709551615) (h2 : 0 ≤ bu ∧ bu ≤ 9223372036854775807) (h3 : 0 ≤ by' ∧ by' ≤ 100) : OpnG fstR [0, 0, 0] l us bu by' := by
  have hl := h.len
  refine ⟨by omega, by decide, lstE_zero (by omega) h.ok h.nodup, fun x hx => ?_, h1, h2, h3⟩
  obtain ⟨i, hi, rfl⟩ := List.getElem_of_mem hx
  rw [h.sq i hi]; omega
end Go.Proofs.YtkaehoihpgelnaaDoor
