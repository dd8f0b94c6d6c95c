/- The head of a form: start. -/
import Derived.Test.YtiphddlakbbfiaaDoorWiFields
namespace Go.Proofs.YtiphddlakbbfiaaDoor
set_option linter.unusedVariables false
open Go.RowKit

theorem found_yes (h : Int) (j : Nat) (v : Int) (hv : headsTab.getD j 0 = v) (hq : (v == h) = true) : Value.int .i64 (j : Int) = Value.int .i64 (found h (j + 1)) := by
  have : v = h := by simpa using hq
  rw [show found h (j + 1) = j by unfold found; rw [if_pos (by rw [hv, this])]]
theorem found_no (h : Int) (j : Nat) (v : Int) (hv : headsTab.getD j 0 = v) (hq : (v == h) = false) : Value.int .i64 (found h j) = Value.int .i64 (found h (j + 1)) := by
  have : v ≠ h := by simpa using hq
  rw [show found h (j + 1) = found h j by conv => lhs; unfold found; rw [if_neg (by rw [hv]; exact this)]]
set_option maxRecDepth 100000 in
set_option maxHeartbeats 3200000 in
theorem start_none (b : Nat) (s : ByteArray) (no sq of de pr bo li to : Int) (da : ByteArray) (fu : Bool) (hs : s.size = 0) (w : World) (hb : blk w b = some (formC s 0 0 0 no sq of de pr bo li to da fu)) :
    Calls Tryd.prog 38 #[.pointer (some ⟨b, 0, none⟩)] w fun q w' => q = .returned (.tuple #[]) ∧ blk w' b = some (formC s 0 11 0 no sq of de pr bo li to da fu) ∧ Below b w w' := by
  obtain rfl : s = ⟨#[]⟩ := by
    obtain ⟨⟨l⟩⟩ := s
    have : l = [] := by rw [← List.length_eq_zero_iff]; exact hs
    rw [this]
  have knb := kn hb
  have gf := Lib.hid fun w h => fail_any b ⟨#[]⟩ 0 0 0 no sq of de pr bo li to da fu 11 0 w h
  rw [show failC 0 0 11 0 = (11, 0) by decide] at gf
  clear hs
  go_enter Tryd.func38, Tryd.ntmps38
  go_wp2_with (go_at_call 41; (with_reducible refine (gf.out _ hb).mono ?_); rintro q wf ⟨rfl, hbf, hf⟩)
  exact bodyPost_ret (v := .tuple #[]) (by simp [results, Tryd.results38, go_sem]) rfl ⟨rfl, hbf, hf⟩
set_option maxRecDepth 100000 in
set_option maxHeartbeats 3200000 in
theorem start_some (b : Nat) (s : ByteArray) (no sq of de pr bo li to : Int) (da : ByteArray) (fu : Bool) (hs : 0 < s.size) (hs2 : s.size ≤ maxLen) (w : World) (hH : HTab w) (hb : blk w b = some (formC s 0 0 0 no sq of de pr bo li to da fu)) :
    Calls Tryd.prog 38 #[.pointer (some ⟨b, 0, none⟩)] w fun q w' => q = .returned (.tuple #[]) ∧
      blk w' b = some (if hdB s[0].toNat then formC s 1 0 0 no sq of de ((s[0].toNat - 176) % 4 : Nat) bo li to da (decide (180 ≤ s[0].toNat)) else formC s 0 3 0 no sq of de pr bo li to da fu) ∧ Below b w w' := by
  obtain ⟨F, hFF⟩ : ∃ F, (if hdB s[0].toNat then formC s 1 0 0 no sq of de ((s[0].toNat - 176) % 4 : Nat) bo li to da (decide (180 ≤ s[0].toNat)) else formC s 0 3 0 no sq of de pr bo li to da fu) = F := ⟨_, rfl⟩
  rw [hFF]
  have HFF := Lib.hid hFF; clear hFF
  have knb := kn hb
  have z1 : s.toList.isEmpty = false := by
    have h1 : s.data.toList ≠ [] := by rw [← List.length_pos_iff]; simpa using hs
    rw [ByteArray.toList_eq]; simpa using h1
  have gf := Lib.hid fun w h => fail_any b s 0 0 0 no sq of de pr bo li to da fu 3 0 w h
  rw [show failC 0 0 3 0 = (3, 0) by decide] at gf
  have r0 : w.cell? ⟨0, 0, none⟩ = some (.int .u8 176) := hH.cell 0 (by decide)
  have r1 : w.cell? ⟨0, 1, none⟩ = some (.int .u8 177) := hH.cell 1 (by decide)
  have r2 : w.cell? ⟨0, 2, none⟩ = some (.int .u8 178) := hH.cell 2 (by decide)
  have r3 : w.cell? ⟨0, 3, none⟩ = some (.int .u8 180) := hH.cell 3 (by decide)
  have r4 : w.cell? ⟨0, 4, none⟩ = some (.int .u8 181) := hH.cell 4 (by decide)
  have r5 : w.cell? ⟨0, 5, none⟩ = some (.int .u8 182) := hH.cell 5 (by decide)
  have hfb := found_bd s[0].toNat s[0].toNat_lt
  have HF := Lib.hid hfb; clear hfb
  have i0 : ∀ w, (Instr.index 82 (.agg #[.int .u8 176, .int .u8 177, .int .u8 178, .int .u8 180, .int .u8 181, .int .u8 182]) (.int .i64 0)).run Tryd.prog w = .ok (.int .u8 176) w := fun _ => by kernel_rfl
  have i1 : ∀ w, (Instr.index 82 (.agg #[.int .u8 176, .int .u8 177, .int .u8 178, .int .u8 180, .int .u8 181, .int .u8 182]) (.int .i64 1)).run Tryd.prog w = .ok (.int .u8 177) w := fun _ => by kernel_rfl
  have i2 : ∀ w, (Instr.index 82 (.agg #[.int .u8 176, .int .u8 177, .int .u8 178, .int .u8 180, .int .u8 181, .int .u8 182]) (.int .i64 2)).run Tryd.prog w = .ok (.int .u8 178) w := fun _ => by kernel_rfl
  have i3 : ∀ w, (Instr.index 82 (.agg #[.int .u8 176, .int .u8 177, .int .u8 178, .int .u8 180, .int .u8 181, .int .u8 182]) (.int .i64 3)).run Tryd.prog w = .ok (.int .u8 180) w := fun _ => by kernel_rfl
  have i4 : ∀ w, (Instr.index 82 (.agg #[.int .u8 176, .int .u8 177, .int .u8 178, .int .u8 180, .int .u8 181, .int .u8 182]) (.int .i64 4)).run Tryd.prog w = .ok (.int .u8 181) w := fun _ => by kernel_rfl
  have i5 : ∀ w, (Instr.index 82 (.agg #[.int .u8 176, .int .u8 177, .int .u8 178, .int .u8 180, .int .u8 181, .int .u8 182]) (.int .i64 5)).run Tryd.prog w = .ok (.int .u8 182) w := fun _ => by kernel_rfl
  unfold maxLen at hs2
  clear hH
  go_enter Tryd.func38, Tryd.ntmps38
  go_wp2
  go_loop [2, 16] (fun kk ii => ∃ j : Nat, ii = .int .i64 j ∧ j ≤ 6 ∧ kk = .int .i64 (found (s[0].toNat : Int) j)) (fun _ ii => 6 - (intOf ii).toNat)
  case atStart => exact ⟨0, rfl, by omega, rfl⟩
  case round =>
    obtain ⟨j, rfl, hj, rfl⟩ := hrel
    match j, hj with
    | 0, _ =>
      go_wp2
      · go_round
        case rel => exact ⟨1, rfl, by omega, found_yes _ 0 _ rfl (by assumption)⟩
        case measure => simp [intOf]
      · go_round
        case rel => exact ⟨1, rfl, by omega, found_no _ 0 _ rfl (by assumption)⟩
        case measure => simp [intOf]
    | 1, _ =>
      go_wp2
      · go_round
        case rel => exact ⟨2, rfl, by omega, found_yes _ 1 _ rfl (by assumption)⟩
        case measure => simp [intOf]
      · go_round
        case rel => exact ⟨2, rfl, by omega, found_no _ 1 _ rfl (by assumption)⟩
        case measure => simp [intOf]
    | 2, _ =>
      go_wp2
      · go_round
        case rel => exact ⟨3, rfl, by omega, found_yes _ 2 _ rfl (by assumption)⟩
        case measure => simp [intOf]
      · go_round
        case rel => exact ⟨3, rfl, by omega, found_no _ 2 _ rfl (by assumption)⟩
        case measure => simp [intOf]
    | 3, _ =>
      go_wp2
      · go_round
        case rel => exact ⟨4, rfl, by omega, found_yes _ 3 _ rfl (by assumption)⟩
        case measure => simp [intOf]
      · go_round
        case rel => exact ⟨4, rfl, by omega, found_no _ 3 _ rfl (by assumption)⟩
        case measure => simp [intOf]
    | 4, _ =>
      go_wp2
      · go_round
        case rel => exact ⟨5, rfl, by omega, found_yes _ 4 _ rfl (by assumption)⟩
        case measure => simp [intOf]
      · go_round
        case rel => exact ⟨5, rfl, by omega, found_no _ 4 _ rfl (by assumption)⟩
        case measure => simp [intOf]
    | 5, _ =>
      go_wp2
      · go_round
        case rel => exact ⟨6, rfl, by omega, found_yes _ 5 _ rfl (by assumption)⟩
        case measure => simp [intOf]
      · go_round
        case rel => exact ⟨6, rfl, by omega, found_no _ 5 _ rfl (by assumption)⟩
        case measure => simp [intOf]
    | 6, _ => 
      have hfl := found_le (s[0].toNat : Int) 6
      obtain ⟨g, hg⟩ : ∃ g, found (s[0].toNat : Int) 6 = g := ⟨_, rfl⟩
      rw [hg] at hfl HF ⊢
      clear hg
      by_cases hh : hdB s[0].toNat = true
      · obtain ⟨a1, a2, a3, a4⟩ := HF.out.1 hh
        have hF : F = _ := HFF.out.symm.trans (if_pos hh)
        obtain ⟨rm, hrm⟩ : ∃ rm : Int, (((s[0].toNat - 176) % 4 : Nat) : Int) = rm := ⟨_, rfl⟩
        obtain ⟨bg, hbg⟩ : ∃ bg : Bool, decide (180 ≤ s[0].toNat) = bg := ⟨_, rfl⟩
        rw [hrm] at a3 hF
        rw [hbg] at a4 hF
        have HF2 := Lib.hid hF
        obtain ⟨n, rfl⟩ := Int.eq_ofNat_of_zero_le a1
        have a5 : n ≤ 5 := by omega
        clear hF HF HFF hh hrm hbg hfl i0 i1 i2 i3 i4 i5 a1 a2 r0 r1 r2 r3 r4 r5 gf
        rcases (show n = 0 ∨ n = 1 ∨ n = 2 ∨ n = 3 ∨ n = 4 ∨ n = 5 by omega) with rfl | rfl | rfl | rfl | rfl | rfl
        all_goals
          replace a3 : rm = _ := a3.symm
          replace a4 : bg = _ := a4.symm
          simp at a3 a4
          subst a3 a4
          go_wp2
          go_end0
          exact ⟨rfl, blk_to (blk_set (blk_set (blk_set hb))) (by rw [HF2.out]; rfl), (((Below.at (Nat.le_refl b)).setCell (p := ⟨b, 13, none⟩) (Nat.le_refl _) _).setCell (p := ⟨b, 1, none⟩) (Nat.le_refl _) _)⟩
      · have hF : F = _ := HFF.out.symm.trans (if_neg hh)
        have HF2 := Lib.hid hF; clear hF
        have a1 := HF.out.2 (by simpa using hh)
        clear hh HF HFF hfl i0 i1 i2 i3 i4 i5
        go_wp2_with (go_at_call 41; (with_reducible refine (gf.out _ hb).mono ?_); rintro q wf ⟨rfl, hbf, hf⟩)
        exact bodyPost_ret (v := .tuple #[]) (by simp [results, Tryd.results38, go_sem]) rfl ⟨rfl, blk_to hbf HF2.out.symm, hf⟩
end Go.Proofs.YtiphddlakbbfiaaDoor
