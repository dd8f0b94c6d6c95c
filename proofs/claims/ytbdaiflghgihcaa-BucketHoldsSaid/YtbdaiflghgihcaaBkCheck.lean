/- The walks of Check of the token bucket, of the program and of the reference. -/
import Derived.Test.YtbdaiflghgihcaaBlk
namespace Go.Proofs.Ytbdaiflghgihcaa
set_option linter.unusedVariables false
open Go.RowKit

/-- A bucket is valid. -/
abbrev okB (rn rd bu lv t : Int) : Prop := 0 ≤ rn ∧ rn ≤ 1048576 ∧ 1 ≤ rd ∧ rd ≤ 1048576 ∧ 1 ≤ bu ∧ bu ≤ 1099511627776 ∧ 0 ≤ lv ∧ lv ≤ bu * rd ∧ 0 ≤ t ∧ t ≤ 1099511627776
def checkB (rn rd bu lv t : Int) : Int := if okB rn rd bu lv t then 0 else 2
/-- The value of a bucket. -/
abbrev bkv (rn rd bu lv t : Int) : Value := .agg #[.int .i64 rn, .int .i64 rd, .int .i64 bu, .int .i64 lv, .int .i64 t]

theorem mul_bd {x y A B : Int} (h1 : 0 ≤ x) (h2 : x ≤ A) (h3 : 0 ≤ y) (h4 : y ≤ B) : 0 ≤ x * y ∧ x * y ≤ A * B :=
  ⟨Int.mul_nonneg h1 h3, Int.mul_le_mul h2 h4 h3 (by omega)⟩
theorem full_bd {rd bu : Int} (h1 : 1 ≤ rd) (h2 : rd ≤ 1048576) (h3 : 1 ≤ bu) (h4 : bu ≤ 1099511627776) : 0 ≤ bu * rd ∧ bu * rd ≤ 1152921504606846976 := by
  have := mul_bd (x := bu) (y := rd) (by omega) h4 (by omega) h2; omega

set_option maxRecDepth 100000 in
theorem refCheck_ok (rn rd bu lv t : Int) (w : World) (h : okB rn rd bu lv t) :
    Calls Try.prog 48 #[bkv rn rd bu lv t] w fun e w' => e = .returned (.int .i64 0) ∧ Below w.heap.size w w' := by
  obtain ⟨h1, h2, h3, h4, h5, h6, h7, h8, h9, h10⟩ := h
  have hf := full_bd h3 h4 h5 h6
  have e1 : IntKind.i64.wrap (bu * rd) = bu * rd := IntWalk.i64_in _ (by omega)
  go_enter Try.func48, Try.ntmps48
  go_wp2
  go_ret
  exact ⟨rfl, (Below.refl _ _).alloc (Nat.le_refl _) _⟩

set_option maxRecDepth 100000 in
set_option maxHeartbeats 1600000 in
theorem refCheck_bad (rn rd bu lv t : Int) (w : World) (h : ¬ okB rn rd bu lv t) :
    Calls Try.prog 48 #[bkv rn rd bu lv t] w fun e w' => e = .returned (.int .i64 2) ∧ Below w.heap.size w w' := by
  have H := Lib.hid h; clear h
  have fin : Below w.heap.size w (w.alloc (.cells #[.int .i64 rn, .int .i64 rd, .int .i64 bu, .int .i64 lv, .int .i64 t] 37)) := (Below.refl _ _).alloc (Nat.le_refl _) _
  by_cases hp : 1 ≤ rd ∧ rd ≤ 1048576 ∧ 1 ≤ bu ∧ bu ≤ 1099511627776
  · obtain ⟨p1, p2, p3, p4⟩ := hp
    have hf := full_bd p1 p2 p3 p4
    have e1 : IntKind.i64.wrap (bu * rd) = bu * rd := IntWalk.i64_in _ (by omega)
    go_enter Try.func48, Try.ntmps48
    go_wp2
    all_goals first
      | (go_ret; exact ⟨rfl, fin⟩)
      | (exfalso; have := H.out; unfold okB at this; omega)
  · go_enter Try.func48, Try.ntmps48
    go_wp2
    all_goals first
      | (go_ret; exact ⟨rfl, fin⟩)
      | (exfalso; have := H.out; unfold okB at this; omega)

theorem refCheck_any (rn rd bu lv t : Int) (w : World) :
    Calls Try.prog 48 #[bkv rn rd bu lv t] w fun e w' => e = .returned (.int .i64 (checkB rn rd bu lv t)) ∧ Below w.heap.size w w' := by
  unfold checkB
  by_cases h : okB rn rd bu lv t
  · rw [if_pos h]; exact refCheck_ok rn rd bu lv t w h
  · rw [if_neg h]; exact refCheck_bad rn rd bu lv t w h

set_option maxRecDepth 100000 in
theorem full_any (rn rd bu lv t : Int) (w : World) (h1 : 1 ≤ rd) (h2 : rd ≤ 1048576) (h3 : 1 ≤ bu) (h4 : bu ≤ 1099511627776) :
    Calls Try.prog 58 #[bkv rn rd bu lv t] w fun e w' => e = .returned (.int .i64 (bu * rd)) ∧ Below w.heap.size w w' := by
  have hf := full_bd h1 h2 h3 h4
  have e1 : IntKind.i64.wrap (bu * rd) = bu * rd := IntWalk.i64_in _ (by omega)
  go_enter Try.func58, Try.ntmps58
  go_wp2
  go_ret
  exact ⟨rfl, (Below.refl _ _).alloc (Nat.le_refl _) _⟩

/-- The limits that Check goes through. -/
def limV (rn rd bu lv t : Int) : Nat → Int
  | 0 => rn
  | 1 => rd
  | 2 => bu
  | 3 => lv
  | _ => t
def limL : Nat → Int
  | 1 => 1
  | 2 => 1
  | _ => 0
def limG : Nat → Int
  | 0 => 1048576
  | 1 => 1048576
  | 2 => 1099511627776
  | 3 => 1152921504606846976
  | _ => 1099511627776

theorem lim_bad (rn rd bu lv t : Int) (k : Nat) (hk : k < 5) (h : limV rn rd bu lv t k < limL k ∨ limG k < limV rn rd bu lv t k) : checkB rn rd bu lv t = 2 := by
  unfold checkB
  rw [if_neg]
  intro ⟨h1, h2, h3, h4, h5, h6, h7, h8, h9, h10⟩
  have hf := full_bd h3 h4 h5 h6
  have : k = 0 ∨ k = 1 ∨ k = 2 ∨ k = 3 ∨ k = 4 := by omega
  rcases this with rfl | rfl | rfl | rfl | rfl <;> simp [limV, limL, limG] at h <;> omega

theorem bidx0 (rn rd bu lv t : Int) (W : World) : (Instr.index 77 (.agg #[.int .i64 rn, .int .i64 0, .int .i64 1048576, .int .i64 rd, .int .i64 1, .int .i64 1048576, .int .i64 bu, .int .i64 1, .int .i64 1099511627776, .int .i64 lv, .int .i64 0, .int .i64 1152921504606846976, .int .i64 t, .int .i64 0, .int .i64 1099511627776]) (.int .i64 0)).run Try.prog W = .ok (.agg #[.int .i64 rn, .int .i64 0, .int .i64 1048576]) W := by kernel_rfl
theorem bidx1 (rn rd bu lv t : Int) (W : World) : (Instr.index 77 (.agg #[.int .i64 rn, .int .i64 0, .int .i64 1048576, .int .i64 rd, .int .i64 1, .int .i64 1048576, .int .i64 bu, .int .i64 1, .int .i64 1099511627776, .int .i64 lv, .int .i64 0, .int .i64 1152921504606846976, .int .i64 t, .int .i64 0, .int .i64 1099511627776]) (.int .i64 1)).run Try.prog W = .ok (.agg #[.int .i64 rd, .int .i64 1, .int .i64 1048576]) W := by kernel_rfl
theorem bidx2 (rn rd bu lv t : Int) (W : World) : (Instr.index 77 (.agg #[.int .i64 rn, .int .i64 0, .int .i64 1048576, .int .i64 rd, .int .i64 1, .int .i64 1048576, .int .i64 bu, .int .i64 1, .int .i64 1099511627776, .int .i64 lv, .int .i64 0, .int .i64 1152921504606846976, .int .i64 t, .int .i64 0, .int .i64 1099511627776]) (.int .i64 2)).run Try.prog W = .ok (.agg #[.int .i64 bu, .int .i64 1, .int .i64 1099511627776]) W := by kernel_rfl
theorem bidx3 (rn rd bu lv t : Int) (W : World) : (Instr.index 77 (.agg #[.int .i64 rn, .int .i64 0, .int .i64 1048576, .int .i64 rd, .int .i64 1, .int .i64 1048576, .int .i64 bu, .int .i64 1, .int .i64 1099511627776, .int .i64 lv, .int .i64 0, .int .i64 1152921504606846976, .int .i64 t, .int .i64 0, .int .i64 1099511627776]) (.int .i64 3)).run Try.prog W = .ok (.agg #[.int .i64 lv, .int .i64 0, .int .i64 1152921504606846976]) W := by kernel_rfl
theorem bidx4 (rn rd bu lv t : Int) (W : World) : (Instr.index 77 (.agg #[.int .i64 rn, .int .i64 0, .int .i64 1048576, .int .i64 rd, .int .i64 1, .int .i64 1048576, .int .i64 bu, .int .i64 1, .int .i64 1099511627776, .int .i64 lv, .int .i64 0, .int .i64 1152921504606846976, .int .i64 t, .int .i64 0, .int .i64 1099511627776]) (.int .i64 4)).run Try.prog W = .ok (.agg #[.int .i64 t, .int .i64 0, .int .i64 1099511627776]) W := by kernel_rfl

set_option maxRecDepth 100000 in
set_option maxHeartbeats 1600000 in
theorem check_any (rn rd bu lv t : Int) (w : World) :
    Calls Try.prog 47 #[bkv rn rd bu lv t] w fun e w' => e = .returned (.int .i64 (checkB rn rd bu lv t)) ∧ Below w.heap.size w w' := by
  have hidx : ∀ k : Nat, k < 5 → ∀ W, (Instr.index 77 (.agg #[.int .i64 rn, .int .i64 0, .int .i64 1048576, .int .i64 rd, .int .i64 1, .int .i64 1048576, .int .i64 bu, .int .i64 1, .int .i64 1099511627776, .int .i64 lv, .int .i64 0, .int .i64 1152921504606846976, .int .i64 t, .int .i64 0, .int .i64 1099511627776]) (.int .i64 (k : Int))).run Try.prog W = .ok (.agg #[.int .i64 (limV rn rd bu lv t k), .int .i64 (limL k), .int .i64 (limG k)]) W := by
    intro k hk W
    have : k = 0 ∨ k = 1 ∨ k = 2 ∨ k = 3 ∨ k = 4 := by omega
    rcases this with rfl | rfl | rfl | rfl | rfl
    · exact bidx0 rn rd bu lv t W
    · exact bidx1 rn rd bu lv t W
    · exact bidx2 rn rd bu lv t W
    · exact bidx3 rn rd bu lv t W
    · exact bidx4 rn rd bu lv t W
  have bad := lim_bad rn rd bu lv t
  obtain ⟨R, hR⟩ : ∃ R, checkB rn rd bu lv t = R := ⟨_, rfl⟩
  rw [hR] at bad ⊢
  have Bad := Lib.hid bad; clear bad
  have HR := Lib.hid hR; clear hR
  have Hidx := Lib.hid hidx; clear hidx
  go_enter Try.func47, Try.ntmps47
  go_wp2
  go_loopw [21] (fun i wr => ∃ k : Nat, i = .int .i64 k ∧ k ≤ 5 ∧ (∀ j, j < k → limL j ≤ limV rn rd bu lv t j ∧ limV rn rd bu lv t j ≤ limG j) ∧ Below w.heap.size w wr ∧ wr.heap[w.heap.size]? = some (.cells #[.int .i64 rn, .int .i64 rd, .int .i64 bu, .int .i64 lv, .int .i64 t] 37 (0, 0))) (fun i _ => 5 - (intOf i).toNat)
  case atStart => exact ⟨0, rfl, by omega, fun j hj => absurd hj (by omega), (Below.refl _ _).alloc (Nat.le_refl _) _, heap_alloc_new w _⟩
  case round =>
    obtain ⟨k, rfl, hk, hlim, hb, hbx⟩ := hrel
    have Hlim := Lib.hid hlim; clear hlim
    have hsz : w.heap.size < wr.heap.size := (Array.getElem?_eq_some_iff.1 hbx).1
    by_cases hlt : k < 5
    · have hidx := Hidx.out k hlt
      have Hbx := Lib.hid hbx; clear hbx
      obtain ⟨V, hV⟩ : ∃ V, limV rn rd bu lv t k = V := ⟨_, rfl⟩
      obtain ⟨L, hL⟩ : ∃ L, limL k = L := ⟨_, rfl⟩
      obtain ⟨G, hG⟩ : ∃ G, limG k = G := ⟨_, rfl⟩
      rw [hV, hL, hG] at hidx
      have HV := Lib.hid hV; clear hV
      have HL := Lib.hid hL; clear hL
      have HG := Lib.hid hG; clear hG
      by_cases c1 : V < L
      · go_wp2
        go_ret
        exact ⟨ret_int (Bad.out k hlt (.inl (by rw [HV.out, HL.out]; exact c1))).symm, hb.alloc (by omega) _⟩
      · by_cases c2 : G < V
        · go_wp2
          go_ret
          exact ⟨ret_int (Bad.out k hlt (.inr (by rw [HV.out, HG.out]; exact c2))).symm, hb.alloc (by omega) _⟩
        · go_wp2
          go_roundw
          case rel =>
            refine ⟨k + 1, by go_num, by omega, fun j hj => ?_, hb.alloc (by omega) _, (Below.heap_alloc _ _ _ hsz).trans Hbx.out⟩
            by_cases e : j = k
            · subst e; rw [HV.out, HL.out, HG.out]; omega
            · exact Hlim.out j (by omega)
          case measure => simp [intOf]; omega
    · obtain rfl : k = 5 := by omega
      have l0 := Hlim.out 0 (by omega)
      have l1 := Hlim.out 1 (by omega)
      have l2 := Hlim.out 2 (by omega)
      have l3 := Hlim.out 3 (by omega)
      have l4 := Hlim.out 4 (by omega)
      simp only [limV, limL, limG] at l0 l1 l2 l3 l4
      have x0 : wr.cell? ⟨w.heap.size, 0, none⟩ = some (.int .i64 rn) := by simp [World.cell?, hbx]
      have x1 : wr.cell? ⟨w.heap.size, 1, none⟩ = some (.int .i64 rd) := by simp [World.cell?, hbx]
      have x2 : wr.cell? ⟨w.heap.size, 2, none⟩ = some (.int .i64 bu) := by simp [World.cell?, hbx]
      have x3 : wr.cell? ⟨w.heap.size, 3, none⟩ = some (.int .i64 lv) := by simp [World.cell?, hbx]
      have x4 : wr.cell? ⟨w.heap.size, 4, none⟩ = some (.int .i64 t) := by simp [World.cell?, hbx]
      clear hbx
      have hR : (bu * rd < lv → R = 2) ∧ (¬ bu * rd < lv → R = 0) := by
        rw [← HR.out]; unfold checkB okB
        constructor
        · intro h; rw [if_neg]; omega
        · intro h; rw [if_pos]; omega
      have HRR := Lib.hid hR; clear hR
      clear Hidx Bad Hlim
      go_wp2
      by_cases hc : bu * rd < lv
      · have hR := HRR.out.1 hc
        go_region_with (go_at_call 58; refine (full_any _ _ _ _ _ _ (by omega) (by omega) (by omega) (by omega)).mono ?_; rintro e w2 ⟨rfl, hb2⟩; have y3 : w2.cell? ⟨w.heap.size, 3, none⟩ = some (.int .i64 lv) := (hb2.cell (p := ⟨w.heap.size, 3, none⟩) (by simpa using hsz)).trans (by simpa using x3))
        all_goals go_wp2
        all_goals (go_ret; exact ⟨ret_int hR.symm, hb.drew.trans ((hb2.mono (by simpa using hb.size)))⟩)
      · have hR := HRR.out.2 (by omega)
        have HR2 := Lib.hid hR; clear hR
        go_region_with (go_at_call 58; refine (full_any _ _ _ _ _ _ (by omega) (by omega) (by omega) (by omega)).mono ?_; rintro e w2 ⟨rfl, hb2⟩; have y3 : w2.cell? ⟨w.heap.size, 3, none⟩ = some (.int .i64 lv) := (hb2.cell (p := ⟨w.heap.size, 3, none⟩) (by simpa using hsz)).trans (by simpa using x3))
        all_goals go_wp2
        all_goals (go_ret; exact ⟨ret_int HR2.out.symm, hb.drew.trans ((hb2.mono (by simpa using hb.size)))⟩)
end Go.Proofs.Ytbdaiflghgihcaa
