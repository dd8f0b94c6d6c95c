/- Parts of a proof, printed by a program of mine out of my texts: BuCheck, BuCheck2, BuCheck3. -/
import Derived.Test.YthfmkkkdjgkaoaaGreatDoorMA
set_option linter.unusedSimpArgs false
set_option linter.unusedVariables false
namespace Go.Proofs.YthfmkkkdjgkaoaaGreatDoor
open Go.RowKit
abbrev idv (no sq of : Int) : Value := .agg #[.int .i64 no, .int .u64 sq, .int .i64 of]
abbrev buv (no sq of de pr bo li to : Int) (da : ByteArray) : Value := .agg #[.int .i64 no, .int .u64 sq, .int .i64 of, .int .i64 de, .int .i64 pr, .int .i64 bo, .int .i64 li, .int .i64 to, .string da]
set_option maxRecDepth 100000 in
set_option maxHeartbeats 800000 in
theorem refCheckID_any (no sq of : Int) (w : World) :
    Calls Tryz.prog 84 #[idv no sq of] w fun e w' => e = .returned (.int .i64 (idC no sq of)) ∧ Below w.heap.size w w' := by
  have fin : Below w.heap.size w (w.alloc (.cells #[.int .i64 no, .int .u64 sq, .int .i64 of] 52)) := (Below.refl _ _).alloc (Nat.le_refl _) _
  rcases idC_cases no sq of with ⟨h0, h⟩ | ⟨h0, h⟩ <;> rw [h0] <;> clear h0 <;> (have H := Lib.hid h; clear h)
  · go_enter Tryz.func84, Tryz.ntmps84
    go_wp2
    all_goals first
      | (go_ret; exact ⟨rfl, fin⟩)
      | (exfalso; have := H.out; unfold okI at this; omega)
  · go_enter Tryz.func84, Tryz.ntmps84
    go_wp2
    all_goals first
      | (exfalso; have := H.out; unfold okI at this; omega)
      | (go_ret; exact ⟨rfl, fin⟩)
set_option maxRecDepth 100000 in
set_option maxHeartbeats 1600000 in
theorem refCheck_any (no sq of de pr bo li to : Int) (da : ByteArray) (hda : da.size ≤ maxLen) (w : World) :
    Calls Tryz.prog 58 #[buv no sq of de pr bo li to da] w fun e w' => e = .returned (.int .i64 (buC no sq of de pr bo li to da.size)) ∧ Below w.heap.size w w' := by
  unfold maxLen at hda
  rcases idC_cases no sq of with ⟨h0, h⟩ | ⟨h0, h⟩
  · have hc := fun w => refCheckID_any no sq of w
    rw [h0] at hc
    have Hc := Lib.hid hc; clear hc h0
    have h' := h
    obtain ⟨i1, i2, i3, i4, i5⟩ := h'
    obtain ⟨r, hr⟩ : ∃ r, r = buC no sq of de pr bo li to da.size := ⟨_, rfl⟩
    have HR := Lib.hid hr
    rw [← hr]; clear hr
    have cs := buC_cases no sq of de pr bo li to da.size
    rw [← HR.out] at cs
    have CS := Lib.hid cs; clear cs h HR
    go_enter Tryz.func58, Tryz.ntmps58
    go_wp2_with (go_at_call 84; (with_reducible refine (Hc.out _).mono ?_); rintro e wb ⟨rfl, hb⟩; obtain ⟨hc, hf⟩ := bcell hb)
    all_goals
      try have q := beq0_t (show ((da.size : Int) == 0) = true by assumption)
      try have q := beq0_f (show ((da.size : Int) == 0) = false by assumption)
      first
        | (go_ret; refine ⟨ret_int ?_, bta hb⟩; rcases CS.out with ⟨_, h⟩ | ⟨h0, _, h⟩ | ⟨h0, _, h, hn⟩ | ⟨h0, _, h, hn, hm⟩ | ⟨h0, _, h, hn, hm, hs⟩ | ⟨h0, _, h, hn, hm, hs⟩ <;> first | (rw [h0]; done) | (exfalso; unfold okN at *; omega))
        | (exfalso; unfold okN at *; omega)
  · have hr : buC no sq of de pr bo li to da.size = 2 := by unfold buC; rw [if_pos h]
    rw [hr]
    have hc := fun w => refCheckID_any no sq of w
    rw [h0] at hc
    have Hc := Lib.hid hc; clear hc h0 hr h
    go_enter Tryz.func58, Tryz.ntmps58
    go_wp2_with (go_at_call 84; (with_reducible refine (Hc.out _).mono ?_); rintro e wb ⟨rfl, hb⟩; obtain ⟨hc, hf⟩ := bcell hb)
    go_ret
    exact ⟨rfl, bta hb⟩
end Go.Proofs.YthfmkkkdjgkaoaaGreatDoor
namespace Go.Proofs.YthfmkkkdjgkaoaaGreatDoor
open Go.RowKit
def allIn (rows : List (Int × Int × Int)) : Bool := rows.all fun x => decide (x.2.1 ≤ x.1) && decide (x.1 ≤ x.2.2)
theorem allIn_bad (rows : List (Int × Int × Int)) (k : Nat) (hk : k < rows.length) (h : rows[k].1 < rows[k].2.1 ∨ rows[k].2.2 < rows[k].1) : allIn rows = false := by
  unfold allIn
  rw [List.all_eq_false]
  refine ⟨rows[k], List.getElem_mem hk, ?_⟩
  simp; omega
theorem allIn_ok {rows : List (Int × Int × Int)} (h : ∀ k (hk : k < rows.length), rows[k].2.1 ≤ rows[k].1 ∧ rows[k].1 ≤ rows[k].2.2) : allIn rows = true := by
  unfold allIn
  rw [List.all_eq_true]
  intro x hx
  obtain ⟨k, hk, rfl⟩ := List.getElem_of_mem hx
  have := h k hk
  simp; omega
set_option maxRecDepth 100000 in
set_option maxHeartbeats 800000 in
theorem within_any (b cap : Nat) (rows : List (Int × Int × Int)) (w : World) (hl : rows.length ≤ 100) (hcap : rows.length ≤ cap) (hcap2 : cap ≤ 1000) (hb : b < w.heap.size)
    (hc : ∀ k (h : k < rows.length), w.cell? ⟨b, k * 3, none⟩ = some (.int .i64 rows[k].1) ∧ w.cell? ⟨b, k * 3 + 1, none⟩ = some (.int .i64 rows[k].2.1) ∧ w.cell? ⟨b, k * 3 + 2, none⟩ = some (.int .i64 rows[k].2.2)) :
    Calls Tryz.prog 77 #[.slice (some ⟨b, 0, none⟩) rows.length cap] w fun e w' => e = .returned (.bool (allIn rows)) ∧ Below w.heap.size w w' := by
  have Hc := Lib.hid hc; clear hc
  have Bad := Lib.hid (allIn_bad rows)
  have Ok := Lib.hid (@allIn_ok rows)
  obtain ⟨R, hR⟩ : ∃ R, R = allIn rows := ⟨_, rfl⟩
  rw [← hR]
  have HR := Lib.hid hR; clear hR
  go_enter Tryz.func77, Tryz.ntmps77
  go_wp2
  go_loopw [7] (fun i wr => ∃ k : Nat, i = .int .i64 k ∧ k ≤ rows.length ∧ (∀ j (hj : j < rows.length), j < k → rows[j].2.1 ≤ rows[j].1 ∧ rows[j].1 ≤ rows[j].2.2) ∧ Below w.heap.size w wr) (fun i _ => rows.length - (intOf i).toNat)
  case atStart => exact ⟨0, rfl, by omega, fun j hj h => absurd h (by omega), Below.refl _ _⟩
  case round =>
    obtain ⟨k, rfl, hk, hlim, hbw⟩ := hrel
    have Hlim := Lib.hid hlim; clear hlim
    by_cases hlt : k < rows.length
    · obtain ⟨x0, x1, x2⟩ := Hc.out k hlt
      have y0 := (hbw.cell (p := ⟨b, k * 3, none⟩) hb).trans x0
      have y1 := (hbw.cell (p := ⟨b, k * 3 + 1, none⟩) hb).trans x1
      have y2 := (hbw.cell (p := ⟨b, k * 3 + 2, none⟩) hb).trans x2
      clear x0 x1 x2
      obtain ⟨V, hV⟩ : ∃ V, rows[k].1 = V := ⟨_, rfl⟩
      obtain ⟨L, hL⟩ : ∃ L, rows[k].2.1 = L := ⟨_, rfl⟩
      obtain ⟨G, hG⟩ : ∃ G, rows[k].2.2 = G := ⟨_, rfl⟩
      rw [hV] at y0; rw [hL] at y1; rw [hG] at y2
      have HV := Lib.hid hV; clear hV
      have HL := Lib.hid hL; clear hL
      have HG := Lib.hid hG; clear hG
      go_wp2
      all_goals first
        | (go_ret; exact ⟨ret_bool (by rw [HR.out]; exact (Bad.out k hlt (by rw [HV.out, HL.out, HG.out]; omega)).symm), hbw.alloc hbw.size _⟩)
        | (go_roundw
           case rel =>
             refine ⟨k + 1, by go_num, by omega, fun j hj h => ?_, hbw.alloc hbw.size _⟩
             by_cases e : j = k
             · subst e; rw [HV.out, HL.out, HG.out]; omega
             · exact Hlim.out j hj (by omega)
           case measure => simp [intOf]; omega)
    · obtain rfl : k = rows.length := by omega
      go_wp2
      go_ret
      exact ⟨ret_bool (by rw [HR.out]; exact (Ok.out fun j hj => Hlim.out j hj hj).symm), hbw⟩
def limCells : List (Int × Int × Int) → List Value
  | [] => []
  | x :: l => .int .i64 x.1 :: .int .i64 x.2.1 :: .int .i64 x.2.2 :: limCells l
theorem limCells_at (rows : List (Int × Int × Int)) (k : Nat) (h : k < rows.length) :
    (limCells rows)[k * 3]? = some (.int .i64 rows[k].1) ∧ (limCells rows)[k * 3 + 1]? = some (.int .i64 rows[k].2.1) ∧ (limCells rows)[k * 3 + 2]? = some (.int .i64 rows[k].2.2) := by
  induction rows generalizing k with
  | nil => simp at h
  | cons x l ih =>
    cases k with
    | zero => simp [limCells]
    | succ k =>
      have := ih k (by simpa using h)
      have e0 : (k + 1) * 3 = k * 3 + 3 := by omega
      have e1 : (k + 1) * 3 + 1 = (k * 3 + 1) + 3 := by omega
      have e2 : (k + 1) * 3 + 2 = (k * 3 + 2) + 3 := by omega
      rw [e0, show k * 3 + 3 + 1 = (k * 3 + 1) + 3 by omega, show k * 3 + 3 + 2 = (k * 3 + 2) + 3 by omega]
      simpa [limCells] using this
theorem within_blk (b cap : Nat) (rows : List (Int × Int × Int)) (w : World) (hl : rows.length ≤ 100) (hcap : rows.length ≤ cap) (hcap2 : cap ≤ 1000) (hb : blk w b = some (limCells rows).toArray) :
    Calls Tryz.prog 77 #[.slice (some ⟨b, 0, none⟩) rows.length cap] w fun e w' => e = .returned (.bool (allIn rows)) ∧ Below w.heap.size w w' :=
  within_any b cap rows w hl hcap hcap2 (blk_lt hb) fun k h => by
    obtain ⟨h0, h1, h2⟩ := limCells_at rows k h
    exact ⟨(blk_cell hb _).trans (by simpa using h0), (blk_cell hb _).trans (by simpa using h1), (blk_cell hb _).trans (by simpa using h2)⟩
theorem allIn2 (no of : Int) (h : 1 ≤ no ∧ no ≤ 16 ∧ 0 ≤ of ∧ of ≤ 19999) : allIn [(no, 1, 16), (of, 0, 19999)] = true := by
  simp [allIn]; omega
theorem allIn2' (no of : Int) (h : ¬ (1 ≤ no ∧ no ≤ 16 ∧ 0 ≤ of ∧ of ≤ 19999)) : allIn [(no, 1, 16), (of, 0, 19999)] = false := by
  rw [Bool.eq_false_iff]; intro h2; apply h; simp [allIn] at h2; omega
theorem allIn5 (de pr bo li to : Int) (h : okN de pr bo li to) : allIn [(de, 1, 16), (pr, 0, 2), (bo, 0, 1099511627776), (li, 1, 1048576), (to, 1, 20000)] = true := by
  simp [allIn]; omega
theorem allIn5' (de pr bo li to : Int) (h : ¬ okN de pr bo li to) : allIn [(de, 1, 16), (pr, 0, 2), (bo, 0, 1099511627776), (li, 1, 1048576), (to, 1, 20000)] = false := by
  rw [Bool.eq_false_iff]; intro h2; apply h; simp [allIn] at h2; unfold okN; omega
theorem within2 (no of : Int) (q : Bool) (hq : allIn [(no, 1, 16), (of, 0, 19999)] = q) (b cap : Nat) (W : World) (hcap : cap = 2) (hb : blk W b = some #[.int .i64 no, .int .i64 1, .int .i64 16, .int .i64 of, .int .i64 0, .int .i64 19999]) :
    Calls Tryz.prog 77 #[.slice (some ⟨b, 0, none⟩) 2 cap] W fun e w' => e = .returned (.bool q) ∧ Below W.heap.size W w' := by
  rw [← hq]; exact within_blk b cap [(no, 1, 16), (of, 0, 19999)] W (by simp) (by subst hcap; simp) (by subst hcap; simp) hb
theorem within5 (de pr bo li to : Int) (q : Bool) (hq : allIn [(de, 1, 16), (pr, 0, 2), (bo, 0, 1099511627776), (li, 1, 1048576), (to, 1, 20000)] = q) (b cap : Nat) (W : World) (hcap : cap = 5)
    (hb : blk W b = some #[.int .i64 de, .int .i64 1, .int .i64 16, .int .i64 pr, .int .i64 0, .int .i64 2, .int .i64 bo, .int .i64 0, .int .i64 1099511627776, .int .i64 li, .int .i64 1, .int .i64 1048576, .int .i64 to, .int .i64 1, .int .i64 20000]) :
    Calls Tryz.prog 77 #[.slice (some ⟨b, 0, none⟩) 5 cap] W fun e w' => e = .returned (.bool q) ∧ Below W.heap.size W w' := by
  rw [← hq]; exact within_blk b cap [(de, 1, 16), (pr, 0, 2), (bo, 0, 1099511627776), (li, 1, 1048576), (to, 1, 20000)] W (by simp) (by subst hcap; simp) (by subst hcap; simp) hb
set_option maxRecDepth 100000 in
set_option maxHeartbeats 800000 in
theorem checkID_any (no sq of : Int) (w : World) :
    Calls Tryz.prog 52 #[idv no sq of] w fun e w' => e = .returned (.int .i64 (idC no sq of)) ∧ Below w.heap.size w w' := by
  by_cases hin : 1 ≤ no ∧ no ≤ 16 ∧ 0 ≤ of ∧ of ≤ 19999
  · have Hc := Lib.hid (within2 no of true (allIn2 no of hin))
    by_cases hs : sq ≤ 1099511627776
    · have hr : idC no sq of = 0 := if_pos ⟨hin.1, hin.2.1, hs, hin.2.2⟩
      rw [hr]; clear hr hin
      go_enter Tryz.func52, Tryz.ntmps52
      go_wp2_with (go_at_call 77; (with_reducible refine (Hc.out _ _ _ rfl (blk_alloc_new _ _ _ (by simp))).mono ?_); rintro e wb ⟨rfl, hb⟩; obtain ⟨hc, hf⟩ := bcell hb)
      go_ret
      exact ⟨rfl, bta (bta hb)⟩
    · have hr : idC no sq of = 2 := if_neg (by intro h; exact hs h.2.2.1)
      rw [hr]; clear hr hin
      go_enter Tryz.func52, Tryz.ntmps52
      go_wp2_with (go_at_call 77; (with_reducible refine (Hc.out _ _ _ rfl (blk_alloc_new _ _ _ (by simp))).mono ?_); rintro e wb ⟨rfl, hb⟩; obtain ⟨hc, hf⟩ := bcell hb)
      go_ret
      exact ⟨rfl, bta (bta hb)⟩
  · have Hc := Lib.hid (within2 no of false (allIn2' no of hin))
    have hr : idC no sq of = 2 := if_neg (by intro h; exact hin ⟨h.1, h.2.1, h.2.2.2⟩)
    rw [hr]; clear hr hin
    go_enter Tryz.func52, Tryz.ntmps52
    go_wp2_with (go_at_call 77; (with_reducible refine (Hc.out _ _ _ rfl (blk_alloc_new _ _ _ (by simp))).mono ?_); rintro e wb ⟨rfl, hb⟩; obtain ⟨hc, hf⟩ := bcell hb)
    go_ret
    exact ⟨rfl, bta (bta hb)⟩
end Go.Proofs.YthfmkkkdjgkaoaaGreatDoor
namespace Go.Proofs.YthfmkkkdjgkaoaaGreatDoor
open Go.RowKit
set_option maxRecDepth 100000 in
set_option maxHeartbeats 1600000 in
theorem check_any (no sq of de pr bo li to : Int) (da : ByteArray) (hda : da.size ≤ maxLen) (w : World) :
    Calls Tryz.prog 75 #[buv no sq of de pr bo li to da] w fun e w' => e = .returned (.int .i64 (buC no sq of de pr bo li to da.size)) ∧ Below w.heap.size w w' := by
  unfold maxLen at hda
  rcases idC_cases no sq of with ⟨h0, h⟩ | ⟨h0, h⟩
  · have hc := fun w => checkID_any no sq of w
    rw [h0] at hc
    have Hc := Lib.hid hc; clear hc h0
    have h' := h
    obtain ⟨i1, i2, i3, i4, i5⟩ := h'
    by_cases h1 : okN de pr bo li to
    · have Hw := Lib.hid (within5 de pr bo li to true (allIn5 de pr bo li to h1))
      obtain ⟨r, hr⟩ : ∃ r, r = buC no sq of de pr bo li to da.size := ⟨_, rfl⟩
      have HR := Lib.hid hr
      rw [← hr]; clear hr
      have cs := buC_cases no sq of de pr bo li to da.size
      rw [← HR.out] at cs
      have CS := Lib.hid cs; clear cs h HR
      obtain ⟨n1, n2, n3, n4, n5, n6, n7, n8, n9, n10⟩ := h1
      go_enter Tryz.func75, Tryz.ntmps75
      go_wp2_with (first
        | (go_at_call 52; (with_reducible refine (Hc.out _).mono ?_); rintro e wb ⟨rfl, hb⟩; have kk1 : blk wb (w.heap.size) = some #[.int .i64 no, .int .u64 sq, .int .i64 of, .int .i64 de, .int .i64 pr, .int .i64 bo, .int .i64 li, .int .i64 to, .string da] := (by (apply blk_to; (focus (repeat (first | (with_reducible assumption) | (with_reducible apply blk_drew) | (with_reducible apply blk_set) | ((with_reducible apply blk_other'); (first | (focus (dsimp only; assumption)) | (focus (simp; done)) | (focus (dsimp only; omega)))) | ((with_reducible apply blk_alloc_new); (first | (with_reducible rfl) | (focus (simp; done)) | (focus (simp; omega)))) | (with_reducible apply blk_alloc) | ((with_reducible apply blk_below); (with_reducible assumption))))); rfl)); have kn1 := kn kk1)
        | (go_at_call 77; (with_reducible refine (Hw.out _ _ _ rfl (blk_alloc_new _ _ _ (by simp))).mono ?_); rintro e wd ⟨rfl, hd⟩; have kk2 : blk wd (w.heap.size) = some #[.int .i64 no, .int .u64 sq, .int .i64 of, .int .i64 de, .int .i64 pr, .int .i64 bo, .int .i64 li, .int .i64 to, .string da] := (by (apply blk_to; (focus (repeat (first | (with_reducible assumption) | (with_reducible apply blk_drew) | (with_reducible apply blk_set) | ((with_reducible apply blk_other'); (first | (focus (dsimp only; assumption)) | (focus (simp; done)) | (focus (dsimp only; omega)))) | ((with_reducible apply blk_alloc_new); (first | (with_reducible rfl) | (focus (simp; done)) | (focus (simp; omega)))) | (with_reducible apply blk_alloc) | ((with_reducible apply blk_below); (with_reducible assumption))))); rfl)); have kn2 := kn kk2))
      all_goals
        try have q := beq0_t (show ((da.size : Int) == 0) = true by assumption)
        try have q := beq0_f (show ((da.size : Int) == 0) = false by assumption)
        (go_ret; refine ⟨ret_int ?_, bt (bta hb) (bta hd)⟩; rcases CS.out with ⟨_, h⟩ | ⟨h0, _, h⟩ | ⟨h0, _, h, hn⟩ | ⟨h0, _, h, hn, hm⟩ | ⟨h0, _, h, hn, hm, hs⟩ | ⟨h0, _, h, hn, hm, hs⟩ <;> first | (rw [h0]; done) | (exfalso; unfold okN at *; omega) | (exfalso; unfold okI at *; omega))
    · have hr : buC no sq of de pr bo li to da.size = 2 := by unfold buC; rw [if_neg (not_not_intro h), if_pos h1]
      have Hw := Lib.hid (within5 de pr bo li to false (allIn5' de pr bo li to h1))
      rw [hr]
      clear hr h h1
      go_enter Tryz.func75, Tryz.ntmps75
      go_wp2_with (first
        | (go_at_call 52; (with_reducible refine (Hc.out _).mono ?_); rintro e wb ⟨rfl, hb⟩; have kk3 : blk wb (w.heap.size) = some #[.int .i64 no, .int .u64 sq, .int .i64 of, .int .i64 de, .int .i64 pr, .int .i64 bo, .int .i64 li, .int .i64 to, .string da] := (by (apply blk_to; (focus (repeat (first | (with_reducible assumption) | (with_reducible apply blk_drew) | (with_reducible apply blk_set) | ((with_reducible apply blk_other'); (first | (focus (dsimp only; assumption)) | (focus (simp; done)) | (focus (dsimp only; omega)))) | ((with_reducible apply blk_alloc_new); (first | (with_reducible rfl) | (focus (simp; done)) | (focus (simp; omega)))) | (with_reducible apply blk_alloc) | ((with_reducible apply blk_below); (with_reducible assumption))))); rfl)); have kn3 := kn kk3)
        | (go_at_call 77; (with_reducible refine (Hw.out _ _ _ rfl (blk_alloc_new _ _ _ (by simp))).mono ?_); rintro e wd ⟨rfl, hd⟩))
      go_ret
      exact ⟨rfl, bt ((bta hb)) (bta hd)⟩
  · have hr : buC no sq of de pr bo li to da.size = 2 := by unfold buC; rw [if_pos h]
    rw [hr]
    have hc := fun w => checkID_any no sq of w
    rw [h0] at hc
    have Hc := Lib.hid hc; clear hc h0 hr h
    go_enter Tryz.func75, Tryz.ntmps75
    go_wp2_with (go_at_call 52; (with_reducible refine (Hc.out _).mono ?_); rintro e wb ⟨rfl, hb⟩; obtain ⟨hc, hf⟩ := bcell hb)
    go_ret
    exact ⟨rfl, bta hb⟩
end Go.Proofs.YthfmkkkdjgkaoaaGreatDoor
