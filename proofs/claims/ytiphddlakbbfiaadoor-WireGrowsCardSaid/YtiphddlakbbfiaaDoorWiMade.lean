/- The bundle that is made of numbers. -/
import Derived.Test.YtiphddlakbbfiaaDoorWiLaw2
import Derived.Test.YtiphddlakbbfiaaDoorKitAt
namespace Go.Proofs.YtiphddlakbbfiaaDoor
set_option linter.unusedVariables false
open Go.RowKit

/-- The bytes made of numbers. -/
def bytL (zs : List Int) (most : Nat) : List UInt8 := (zs.take most).map fun z => UInt8.ofNat (z % 256).toNat
theorem bytL_succ (zs : List Int) (k : Nat) (h : k < zs.length) : bytL zs (k + 1) = bytL zs k ++ [UInt8.ofNat (zs[k] % 256).toNat] := by
  unfold bytL; rw [List.take_succ_eq_append_getElem h, List.map_append]; rfl
theorem bytL_len (zs : List Int) (k : Nat) (h : k ≤ zs.length) : (bytL zs k).length = k := by
  unfold bytL; simp; omega
set_option maxRecDepth 100000 in
set_option maxHeartbeats 1600000 in
theorem bytes_any (a : Option Addr) (cap : Nat) (zs : List Int) (most : Nat) (hm : most ≤ 1000) (w : World) (h : Row .i64 w a cap zs) :
    Calls Tryd.prog 48 #[.slice a zs.length cap, .int .i64 (most : Int)] w fun e w' => e = .returned (bstr (bytL zs (min most zs.length))) ∧ Below w.heap.size w w' := by
  obtain ⟨i0, hi, hz0, hz1, hz2⟩ := info_parts Tryd.infoU8
  have Hi := Lib.hid hi; clear hi
  have Hz0 := Lib.hid hz0; clear hz0
  have Hz1 := Lib.hid hz1; clear hz1
  have Hz2 := Lib.hid hz2; clear hz2
  have HR := Lib.hid h
  have h1 := h.1; have h2 := h.2.1
  unfold maxLen at h2
  obtain ⟨N, hN⟩ : ∃ N, min most zs.length = N := ⟨_, rfl⟩
  have hN1 : N ≤ most := by omega
  have hN2 : N ≤ zs.length := by omega
  have hN3 : ∀ k, k ≤ N → ¬ k < N → (most ≤ k ∨ zs.length ≤ k) := fun k _ _ => by omega
  rw [hN]
  have HN := Lib.hid hN3
  clear h hN hN3
  go_enter Tryd.func48, Tryd.ntmps48
  go_wp2
  go_loopw [5, 6] (fun v ii wr => ∃ j : Nat, ii = .int .i64 (j : Int) ∧ j ≤ N ∧ wr.ownsRow w.heap.size 5 1 v j ((bytL zs j).map fun b => Value.int .u8 (b.toNat : Int)) ∧ Below w.heap.size w wr) (fun _ ii _ => N - (intOf ii).toNat)
  case atStart => exact ⟨0, rfl, by omega, World.ownsRow_nil _ _ _ _, Below.refl _ _⟩
  case round =>
    obtain ⟨j, rfl, hj, hown, hb⟩ := hrel
    have Hown := Lib.hid hown; clear hown
    have hbs := hb.size
    by_cases hlt : j < N
    · have hjl : j < zs.length := by omega
      have c1 : (j : Int) < (zs.length : Int) := by omega
      have c2 : (j : Int) < (most : Int) := by omega
      obtain ⟨b, off, ha, hblt, hcell⟩ := (HR.out.below hb).2.2.2.2 (by omega)
      have hx := hcell j hjl
      clear hcell
      have hs := bytL_succ zs j hjl
      obtain ⟨z, hz⟩ : ∃ z, zs[j] = z := ⟨_, rfl⟩
      rw [hz] at hx hs
      have z1 := Int.emod_nonneg z (show (256 : Int) ≠ 0 by omega)
      have z2 := Int.emod_lt_of_pos z (show (0 : Int) < 256 by omega)
      obtain ⟨y, hy⟩ : ∃ y : Int, z % 256 = y := ⟨_, rfl⟩
      have gm := fun w => mod_any z 256 w (by omega) (by omega)
      rw [hy] at z1 z2 hs gm
      have q1 : IntKind.u8.wrap y = ((UInt8.ofNat y.toNat).toNat : Int) := by rw [IntKind.wrap_u8', UInt8.toNat_ofNat']; omega
      obtain ⟨bb, hbb⟩ : ∃ bb, UInt8.ofNat y.toNat = bb := ⟨_, rfl⟩
      rw [hbb] at q1 hs
      replace gm := Lib.hid gm
      have Hs := Lib.hid hs
      subst ha
      clear hs hz hy hbb z1 z2
      go_wp2_with (first | (go_at_call 25; (with_reducible refine (gm.out _).mono ?_); rintro e wx ⟨rfl, rfl⟩) | (at_builtin; refine wpList_append_own _ rfl _ _ 43 rfl w.heap.size 5 i0 (.int .u8 0) 1 1 Tryd.underlying43 Hi.out Hz0.out Hz1.out Hz2.out rfl (by decide) _ j _ rfl (Hown.out.alloc _) ⟨wr.heap.size, 0, none⟩ 1 1 [.int .u8 (bb.toNat : Int)] rfl rfl (cell_one_new _ _ _) (by simp [Value.oneCell']) (by unfold maxLen; omega) (by omega) (by simp; omega) ?_; intro v' w2 hown2 hgrow2 _))
      go_roundw
      case rel => exact ⟨j + 1, by go_num, by omega, by rw [Hs.out, List.map_append]; exact hown2, (hb.alloc hb.size _).grown hgrow2 (by simp; omega) (fun k e => (Hown.out.lt k e).1)⟩
      case measure => simp [intOf]; omega
    · obtain rfl : j = N := by omega
      have hbl := bytL_len zs j hN2
      have hend : (convert 43 9 u5).run Tryd.prog wr = .ok (bstr (bytL zs j)) wr := by
        rcases Hown.out.2 with ⟨h, hnil⟩ | ⟨g, cap', cur, h, hg⟩
        · have hj0 : j = 0 := by simpa using hnil
          have h0 : bytL zs j = [] := by rw [hj0]; rfl
          rw [h0, h]
          first | kernel_rfl | rfl | (rw [run_convert_bytes_string _ _ _ _ _ _ _ Tryd.underlying43 Tryd.underlying5 Tryd.underlying9]; rfl)
        · rw [h]
          have := run_convert_bytes_back (P := Tryd.prog) wr 43 9 5 ⟨g, 0, none⟩ cap' (bytL zs j) Tryd.underlying43 Tryd.underlying5 Tryd.underlying9 (fun i hi => by
            rw [Addr.add_lit, Nat.zero_add]
            have hc := World.ownsRow.cellAt (h ▸ Hown.out) i (by omega)
            rw [hc]
            simp [hi])
          rw [hbl] at this
          exact this
      rcases HN.out j (Nat.le_refl _) (by omega) with hc | hc
      · have c2 : (most : Int) ≤ (j : Int) := by omega
        by_cases c1 : (j : Int) < (zs.length : Int)
        · go_wp2
          go_ret
          exact ⟨rfl, hb⟩
        · go_wp2
          go_ret
          exact ⟨rfl, hb⟩
      · have c1 : (zs.length : Int) ≤ (j : Int) := by omega
        go_wp2
        go_ret
        exact ⟨rfl, hb⟩
end Go.Proofs.YtiphddlakbbfiaaDoor
