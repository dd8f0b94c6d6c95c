/- The walks of the reference of the token bucket: Fill, Take, Wait, Most. Written by gen_bkref2.py. -/
import Derived.Test.YtbdaiflghgihcaaBkRef
namespace Go.Proofs.Ytbdaiflghgihcaa
set_option linter.unusedVariables false
open Go.RowKit

theorem prod_bd {x y A B : Int} (h1 : 0 ≤ x) (h2 : x ≤ A) (h3 : 0 ≤ y) (h4 : y ≤ B) (P : Int) (hP : A * B = P) : 0 ≤ x * y ∧ x * y ≤ P := by
  have := mul_bd h1 h2 h3 h4; rw [hP] at this; exact this
theorem min_lt {a b : Int} (h : a < b) : min a b = a := by omega
theorem min_ge {a b : Int} (h : ¬ a < b) : min a b = b := by omega

set_option maxRecDepth 100000 in
set_option maxHeartbeats 1600000 in
theorem refFill_any (rn rd bu lv t now : Int) (w : World) :
    Calls Try.prog 49 #[bkv rn rd bu lv t, .int .i64 now] w fun e w' => e = .returned (gotB (fillB rn rd bu lv t now)) ∧ Below w.heap.size w w' := by
  obtain ⟨c, hc, hcc⟩ := refCheck_int rn rd bu lv t
  have Hc := Lib.hid hc; clear hc
  rcases hcc with ⟨rfl, h⟩ | ⟨rfl, h⟩
  · have h' := h
    obtain ⟨h1, h2, h3, h4, h5, h6, h7, h8, h9, h10⟩ := h'
    have hf := full_bd h3 h4 h5 h6
    by_cases c1 : now < 0
    · have hr : fillB rn rd bu lv t now = (noB, 2) := by unfold fillB; rw [if_neg (not_not_intro h), if_pos (.inl c1)]
      rw [hr]; clear hr h
      go_enter Try.func49, Try.ntmps49
      go_wp2_with (go_at_call 48; (with_reducible refine (Hc.out _).mono ?_); rintro e wb ⟨rfl, hb⟩; obtain ⟨hcb, hfb⟩ := bcell hb)
      have kb : blk wb (w.heap.size + 1) = some #[.int .i64 0, .int .i64 0, .int .i64 0, .int .i64 0, .int .i64 0] := blk_below hb (blk_alloc_new _ _ _ (by simp))
      refine ret_blk (b := w.heap.size + 1) (c := #[.int .i64 0, .int .i64 0, .int .i64 0, .int .i64 0, .int .i64 0]) (v := gotB (noB, 2)) ?_ (fun W' hc => by simp [results, Try.results49, go_sem, hc, gotB, noB]) rfl ⟨rfl, by (repeat (refine Below.setCell ?_ (by simp) _)); exact bta (bta hb)⟩
      exact blk_set (blk_set (blk_set (blk_set (blk_set kb))))
    · by_cases c2 : 1099511627776 < now
      · have hr : fillB rn rd bu lv t now = (noB, 2) := by unfold fillB; rw [if_neg (not_not_intro h), if_pos (.inr c2)]
        rw [hr]; clear hr h
        go_enter Try.func49, Try.ntmps49
        go_wp2_with (go_at_call 48; (with_reducible refine (Hc.out _).mono ?_); rintro e wb ⟨rfl, hb⟩; obtain ⟨hcb, hfb⟩ := bcell hb)
        have kb : blk wb (w.heap.size + 1) = some #[.int .i64 0, .int .i64 0, .int .i64 0, .int .i64 0, .int .i64 0] := blk_below hb (blk_alloc_new _ _ _ (by simp))
        refine ret_blk (b := w.heap.size + 1) (c := #[.int .i64 0, .int .i64 0, .int .i64 0, .int .i64 0, .int .i64 0]) (v := gotB (noB, 2)) ?_ (fun W' hc => by simp [results, Try.results49, go_sem, hc, gotB, noB]) rfl ⟨rfl, by (repeat (refine Below.setCell ?_ (by simp) _)); exact bta (bta hb)⟩
        exact blk_set (blk_set (blk_set (blk_set (blk_set kb))))
      · by_cases c3 : now < t
        · have hr : fillB rn rd bu lv t now = (noB, 19) := by unfold fillB; rw [if_neg (not_not_intro h), if_neg (by omega), if_pos c3]
          rw [hr]; clear hr h
          go_enter Try.func49, Try.ntmps49
          go_wp2_with (go_at_call 48; (with_reducible refine (Hc.out _).mono ?_); rintro e wb ⟨rfl, hb⟩; obtain ⟨hcb, hfb⟩ := bcell hb)
          have kb : blk wb (w.heap.size + 1) = some #[.int .i64 0, .int .i64 0, .int .i64 0, .int .i64 0, .int .i64 0] := blk_below hb (blk_alloc_new _ _ _ (by simp))
          refine ret_blk (b := w.heap.size + 1) (c := #[.int .i64 0, .int .i64 0, .int .i64 0, .int .i64 0, .int .i64 0]) (v := gotB (noB, 19)) ?_ (fun W' hc => by simp [results, Try.results49, go_sem, hc, gotB, noB]) rfl ⟨rfl, by (repeat (refine Below.setCell ?_ (by simp) _)); exact bta (bta hb)⟩
          exact blk_set (blk_set (blk_set (blk_set (blk_set kb))))
        · have hr : fillB rn rd bu lv t now = ((rn, rd, bu, min (bu * rd) (lv + rn * (now - t)), now), 0) := by unfold fillB; rw [if_neg (not_not_intro h), if_neg (by omega), if_neg c3]
          have hp := prod_bd h1 h2 (show 0 ≤ now - t by omega) (show now - t ≤ 1099511627776 by omega) 1152921504606846976 (by omega)
          rw [hr]; clear hr h
          have e1 : IntKind.i64.wrap (bu * rd) = bu * rd := IntWalk.i64_in _ (by omega)
          have e2 : IntKind.i64.wrap (rn * (now - t)) = rn * (now - t) := IntWalk.i64_in _ (by omega)
          have e3 : IntKind.i64.wrap (lv + rn * (now - t)) = lv + rn * (now - t) := IntWalk.i64_in _ (by omega)
          by_cases c4 : lv + rn * (now - t) < bu * rd
          · rw [show min (bu * rd) (lv + rn * (now - t)) = lv + rn * (now - t) by omega]
            go_enter Try.func49, Try.ntmps49
            go_wp2_with (go_at_call 48; (with_reducible refine (Hc.out _).mono ?_); rintro e wb ⟨rfl, hb⟩; obtain ⟨hcb, hfb⟩ := bcell hb; have x3 : wb.cell? ⟨w.heap.size, 3, none⟩ = some (.int .i64 lv) := blk_cell (blk_below hb (blk_alloc (blk_alloc_new _ _ _ rfl) _)) 3; have x4 : wb.cell? ⟨w.heap.size, 4, none⟩ = some (.int .i64 t) := blk_cell (blk_below hb (blk_alloc (blk_alloc_new _ _ _ rfl) _)) 4)
            have kb : blk wb (w.heap.size + 1) = some #[.int .i64 0, .int .i64 0, .int .i64 0, .int .i64 0, .int .i64 0] := blk_below hb (blk_alloc_new _ _ _ (by simp))
            refine ret_blk (b := w.heap.size + 1) (c := #[.int .i64 (rn), .int .i64 (rd), .int .i64 (bu), .int .i64 (lv + rn * (now - t)), .int .i64 (now)]) (v := gotB ((rn, rd, bu, lv + rn * (now - t), now), 0)) ?_ (fun W' hc => by simp [results, Try.results49, go_sem, hc, gotB, noB]) rfl ⟨rfl, by (repeat (refine Below.setCell ?_ (by simp) _)); exact bta (bta hb)⟩
            exact blk_set (blk_set (blk_set (blk_set (blk_set (blk_other (blk_other kb (by simp)) (by simp))))))
          · rw [show min (bu * rd) (lv + rn * (now - t)) = bu * rd by omega]
            go_enter Try.func49, Try.ntmps49
            go_wp2_with (go_at_call 48; (with_reducible refine (Hc.out _).mono ?_); rintro e wb ⟨rfl, hb⟩; obtain ⟨hcb, hfb⟩ := bcell hb; have x3 : wb.cell? ⟨w.heap.size, 3, none⟩ = some (.int .i64 lv) := blk_cell (blk_below hb (blk_alloc (blk_alloc_new _ _ _ rfl) _)) 3; have x4 : wb.cell? ⟨w.heap.size, 4, none⟩ = some (.int .i64 t) := blk_cell (blk_below hb (blk_alloc (blk_alloc_new _ _ _ rfl) _)) 4)
            have kb : blk wb (w.heap.size + 1) = some #[.int .i64 0, .int .i64 0, .int .i64 0, .int .i64 0, .int .i64 0] := blk_below hb (blk_alloc_new _ _ _ (by simp))
            refine ret_blk (b := w.heap.size + 1) (c := #[.int .i64 (rn), .int .i64 (rd), .int .i64 (bu), .int .i64 (bu * rd), .int .i64 (now)]) (v := gotB ((rn, rd, bu, bu * rd, now), 0)) ?_ (fun W' hc => by simp [results, Try.results49, go_sem, hc, gotB, noB]) rfl ⟨rfl, by (repeat (refine Below.setCell ?_ (by simp) _)); exact bta (bta hb)⟩
            exact blk_set (blk_set (blk_set (blk_set (blk_set (blk_other (blk_other kb (by simp)) (by simp))))))
  · have hr : fillB rn rd bu lv t now = (noB, 2) := by unfold fillB; rw [if_pos h]
    rw [hr]; clear hr h
    go_enter Try.func49, Try.ntmps49
    go_wp2_with (go_at_call 48; (with_reducible refine (Hc.out _).mono ?_); rintro e wb ⟨rfl, hb⟩; obtain ⟨hcb, hfb⟩ := bcell hb)
    have kb : blk wb (w.heap.size + 1) = some #[.int .i64 0, .int .i64 0, .int .i64 0, .int .i64 0, .int .i64 0] := blk_below hb (blk_alloc_new _ _ _ (by simp))
    refine ret_blk (b := w.heap.size + 1) (c := #[.int .i64 0, .int .i64 0, .int .i64 0, .int .i64 0, .int .i64 0]) (v := gotB (noB, 2)) ?_ (fun W' hc => by simp [results, Try.results49, go_sem, hc, gotB, noB]) rfl ⟨rfl, by (repeat (refine Below.setCell ?_ (by simp) _)); exact bta (bta hb)⟩
    exact blk_set (blk_set (blk_set (blk_set (blk_set kb))))


theorem refAsks_int (rn rd bu lv t n : Int) : ∃ c : Int, (∀ w, Calls Try.prog 64 #[bkv rn rd bu lv t, .int .i64 n] w fun e w' => e = .returned (.int .i64 c) ∧ Below w.heap.size w w') ∧ asksB rn rd bu lv t n = c :=
  ⟨_, fun w => refAsks_any rn rd bu lv t n w, rfl⟩
theorem asks_ok {rn rd bu lv t n : Int} (h : asksB rn rd bu lv t n = 0) : okB rn rd bu lv t ∧ 0 ≤ n ∧ n ≤ bu := by
  unfold asksB at h
  split at h
  · omega
  · rename_i h1
    split at h
    · omega
    · split at h
      · omega
      · exact ⟨Decidable.not_not.1 h1, by omega, by omega⟩

set_option maxRecDepth 100000 in
set_option maxHeartbeats 1600000 in
theorem refTake_any (rn rd bu lv t n : Int) (w : World) :
    Calls Try.prog 50 #[bkv rn rd bu lv t, .int .i64 n] w fun e w' => e = .returned (gotB (takeB rn rd bu lv t n)) ∧ Below w.heap.size w w' := by
  obtain ⟨c, hc, hcc⟩ := refAsks_int rn rd bu lv t n
  have Hc := Lib.hid hc; clear hc
  unfold takeB
  rw [hcc]
  by_cases hc0 : c = 0
  · subst hc0
    obtain ⟨⟨h1, h2, h3, h4, h5, h6, h7, h8, h9, h10⟩, hn0, hn1⟩ := asks_ok hcc
    have hf := full_bd h3 h4 h5 h6
    have hp := prod_bd hn0 (show n ≤ 1099511627776 by omega) (show 0 ≤ rd by omega) h4 1152921504606846976 (by omega)
    have e1 : IntKind.i64.wrap (n * rd) = n * rd := IntWalk.i64_in _ (by omega)
    have e2 : IntKind.i64.wrap (lv - n * rd) = lv - n * rd := IntWalk.i64_in _ (by omega)
    rw [if_neg (by simp)]
    clear hcc
    by_cases c1 : lv < n * rd
    · rw [if_pos c1]
      go_enter Try.func50, Try.ntmps50
      go_wp2_with (go_at_call 64; (with_reducible refine (Hc.out _).mono ?_); rintro e wb ⟨rfl, hb⟩; obtain ⟨hcb, hfb⟩ := bcell hb)
      have kb : blk wb (w.heap.size + 1) = some #[.int .i64 0, .int .i64 0, .int .i64 0, .int .i64 0, .int .i64 0] := blk_below hb (blk_alloc_new _ _ _ (by simp))
      refine ret_blk (b := w.heap.size + 1) (c := #[.int .i64 0, .int .i64 0, .int .i64 0, .int .i64 0, .int .i64 0]) (v := gotB (noB, 17)) ?_ (fun W' hc => by simp [results, Try.results50, go_sem, hc, gotB, noB]) rfl ⟨rfl, by (repeat (refine Below.setCell ?_ (by simp) _)); exact bta (bta hb)⟩
      exact blk_set (blk_set (blk_set (blk_set (blk_set kb))))
    · rw [if_neg c1]
      go_enter Try.func50, Try.ntmps50
      go_wp2_with (go_at_call 64; (with_reducible refine (Hc.out _).mono ?_); rintro e wb ⟨rfl, hb⟩; obtain ⟨hcb, hfb⟩ := bcell hb; have x3 : wb.cell? ⟨w.heap.size, 3, none⟩ = some (.int .i64 lv) := blk_cell (blk_below hb (blk_alloc (blk_alloc_new _ _ _ rfl) _)) 3; have x4 : wb.cell? ⟨w.heap.size, 4, none⟩ = some (.int .i64 t) := blk_cell (blk_below hb (blk_alloc (blk_alloc_new _ _ _ rfl) _)) 4)
      have kb : blk wb (w.heap.size + 1) = some #[.int .i64 0, .int .i64 0, .int .i64 0, .int .i64 0, .int .i64 0] := blk_below hb (blk_alloc_new _ _ _ (by simp))
      refine ret_blk (b := w.heap.size + 1) (c := #[.int .i64 (rn), .int .i64 (rd), .int .i64 (bu), .int .i64 (lv - n * rd), .int .i64 (t)]) (v := gotB ((rn, rd, bu, lv - n * rd, t), 0)) ?_ (fun W' hc => by simp [results, Try.results50, go_sem, hc, gotB, noB]) rfl ⟨rfl, by (repeat (refine Below.setCell ?_ (by simp) _)); exact bta (bta hb)⟩
      exact blk_set (blk_set (blk_set (blk_set (blk_set (blk_other kb (by simp))))))
  · rw [if_pos hc0]
    have hb0 : (c != 0) = true := by simp [hc0]
    have H0 := Lib.hid hc0; clear hc0 hcc
    go_enter Try.func50, Try.ntmps50
    go_wp2_with (go_at_call 64; (with_reducible refine (Hc.out _).mono ?_); rintro e wb ⟨rfl, hb⟩; obtain ⟨hcb, hfb⟩ := bcell hb)
    have kb : blk wb (w.heap.size + 1) = some #[.int .i64 0, .int .i64 0, .int .i64 0, .int .i64 0, .int .i64 0] := blk_below hb (blk_alloc_new _ _ _ (by simp))
    refine ret_blk (b := w.heap.size + 1) (c := #[.int .i64 0, .int .i64 0, .int .i64 0, .int .i64 0, .int .i64 0]) (v := gotB (noB, c)) ?_ (fun W' hc => by simp [results, Try.results50, go_sem, hc, gotB, noB]) rfl ⟨rfl, by (repeat (refine Below.setCell ?_ (by simp) _)); exact bta (bta hb)⟩
    exact blk_set (blk_set (blk_set (blk_set (blk_set kb))))

set_option maxRecDepth 100000 in
set_option maxHeartbeats 1600000 in
theorem refWait_any (rn rd bu lv t n : Int) (w : World) :
    Calls Try.prog 52 #[bkv rn rd bu lv t, .int .i64 n] w fun e w' => e = .returned (got2 (waitB rn rd bu lv t n)) ∧ Below w.heap.size w w' := by
  obtain ⟨c, hc, hcc⟩ := refAsks_int rn rd bu lv t n
  have Hc := Lib.hid hc; clear hc
  unfold waitB
  rw [hcc]
  by_cases hc0 : c = 0
  · subst hc0
    obtain ⟨⟨h1, h2, h3, h4, h5, h6, h7, h8, h9, h10⟩, hn0, hn1⟩ := asks_ok hcc
    have hf := full_bd h3 h4 h5 h6
    have hp := prod_bd hn0 (show n ≤ 1099511627776 by omega) (show 0 ≤ rd by omega) h4 1152921504606846976 (by omega)
    have e1 : IntKind.i64.wrap (n * rd) = n * rd := IntWalk.i64_in _ (by omega)
    rw [if_neg (by simp)]
    clear hcc
    by_cases c1 : n * rd - lv ≤ 0
    · rw [if_pos c1]
      go_enter Try.func52, Try.ntmps52
      go_wp2_with (go_at_call 64; (with_reducible refine (Hc.out _).mono ?_); rintro e wb ⟨rfl, hb⟩; obtain ⟨hcb, hfb⟩ := bcell hb)
      go_ret2
      exact ⟨rfl, bta hb⟩
    · rw [if_neg c1]
      by_cases c2 : rn = 0
      · rw [if_pos c2]
        have hz : (rn == 0) = true := by simp [c2]
        have H2 := Lib.hid c2; clear c2
        go_enter Try.func52, Try.ntmps52
        go_wp2_with (go_at_call 64; (with_reducible refine (Hc.out _).mono ?_); rintro e wb ⟨rfl, hb⟩; obtain ⟨hcb, hfb⟩ := bcell hb)
        go_ret2
        exact ⟨rfl, bta hb⟩
      · rw [if_neg c2]
        have hz : (rn == 0) = false := by simp [c2]
        have hrn : 1 ≤ rn := by omega
        have H2 := Lib.hid c2; clear c2
        go_enter Try.func52, Try.ntmps52
        go_wp2_with (go_at_call 64; (with_reducible refine (Hc.out _).mono ?_); rintro e wb ⟨rfl, hb⟩; obtain ⟨hcb, hfb⟩ := bcell hb)
        go_ret2
        exact ⟨rfl, bta hb⟩
  · rw [if_pos hc0]
    have hb0 : (c != 0) = true := by simp [hc0]
    have H0 := Lib.hid hc0; clear hc0 hcc
    go_enter Try.func52, Try.ntmps52
    go_wp2_with (go_at_call 64; (with_reducible refine (Hc.out _).mono ?_); rintro e wb ⟨rfl, hb⟩; obtain ⟨hcb, hfb⟩ := bcell hb)
    go_ret2
    exact ⟨rfl, bta hb⟩

set_option maxRecDepth 100000 in
set_option maxHeartbeats 1600000 in
theorem refMost_any (rn rd bu lv t k : Int) (w : World) :
    Calls Try.prog 53 #[bkv rn rd bu lv t, .int .i64 k] w fun e w' => e = .returned (got2 (mostB rn rd bu lv t k)) ∧ Below w.heap.size w w' := by
  obtain ⟨c, hc, hcc⟩ := refCheck_int rn rd bu lv t
  have Hc := Lib.hid hc; clear hc
  unfold mostB
  rcases hcc with ⟨rfl, h⟩ | ⟨rfl, h⟩
  · rw [if_neg (not_not_intro h)]
    obtain ⟨h1, h2, h3, h4, h5, h6, h7, h8, h9, h10⟩ := h
    have hf := full_bd h3 h4 h5 h6
    by_cases c1 : k < 0
    · rw [if_pos (.inl c1)]
      go_enter Try.func53, Try.ntmps53
      go_wp2_with (go_at_call 48; (with_reducible refine (Hc.out _).mono ?_); rintro e wb ⟨rfl, hb⟩; obtain ⟨hcb, hfb⟩ := bcell hb)
      go_ret2
      exact ⟨rfl, bta hb⟩
    · by_cases c2 : 1099511627776 < k
      · rw [if_pos (.inr c2)]
        go_enter Try.func53, Try.ntmps53
        go_wp2_with (go_at_call 48; (with_reducible refine (Hc.out _).mono ?_); rintro e wb ⟨rfl, hb⟩; obtain ⟨hcb, hfb⟩ := bcell hb)
        go_ret2
        exact ⟨rfl, bta hb⟩
      · rw [if_neg (by omega)]
        have hp := prod_bd h1 h2 (show 0 ≤ k by omega) (show k ≤ 1099511627776 by omega) 1152921504606846976 (by omega)
        have e2 : IntKind.i64.wrap (rn * k) = rn * k := IntWalk.i64_in _ (by omega)
        have e3 : IntKind.i64.wrap (lv + rn * k) = lv + rn * k := IntWalk.i64_in _ (by omega)
        go_enter Try.func53, Try.ntmps53
        go_wp2_with (go_at_call 48; (with_reducible refine (Hc.out _).mono ?_); rintro e wb ⟨rfl, hb⟩; obtain ⟨hcb, hfb⟩ := bcell hb)
        go_ret2
        exact ⟨rfl, bta hb⟩
  · rw [if_pos h]
    clear h
    go_enter Try.func53, Try.ntmps53
    go_wp2_with (go_at_call 48; (with_reducible refine (Hc.out _).mono ?_); rintro e wb ⟨rfl, hb⟩; obtain ⟨hcb, hfb⟩ := bcell hb)
    go_ret2
    exact ⟨rfl, bta hb⟩

end Go.Proofs.Ytbdaiflghgihcaa
