/- Parts of a proof, printed by a program of mine out of my texts: StLawL. -/
import Derived.Test.YtahopnlibmiafaaDoorMStForB
import Derived.Test.YtahopnlibmiafaaDoorMStRFor
import Derived.Test.YtahopnlibmiafaaDoorMW
import Derived.Test.YtahopnlibmiafaaDoorMZ
set_option linter.unusedSimpArgs false
set_option linter.unusedVariables false
namespace Go.Proofs.YtahopnlibmiafaaDoor
open Go.RowKit
set_option maxRecDepth 100000 in
set_option maxHeartbeats 1600000 in
theorem light_any2 (a : Option Addr) (cap : Nat) (l : List Itm) (w : World) (h : SRow itm 13 w a cap l) :
    Calls Tryd.prog 19 #[.slice a l.length cap] w fun e w' => ∃ q, e = .returned (.bool q) ∧ (q = true → (l.length ≤ 40 ∨ 1000 < l.length ∧ l.length ≤ 1010)) ∧ w = w' := by
  have HR := Lib.hid h
  have hcap := h.1
  have hmax := h.2.1
  unfold maxLen at hmax
  clear h
  go_enter Tryd.func19, Tryd.ntmps19
  go_wp2
  go_loopw [3] (fun i wr => ∃ k : Nat, i = .int .i64 k ∧ k ≤ l.length ∧ k ≤ 41 ∧ w = wr) (fun i _ => l.length - (intOf i).toNat)
  case atStart => exact ⟨0, rfl, Nat.zero_le _, by omega, rfl⟩
  case round =>
    obtain ⟨k, rfl, hk, h41, rfl⟩ := hrel
    have fin : ∀ (t1 : decide ((k : Int) < (l.length : Int)) = false ∨ decide ((k : Int) < 41) = false), True := fun _ => trivial
    clear fin
    by_cases hlt : k < l.length ∧ k < 41
    · have t1 : decide ((k : Int) < (l.length : Int)) = true := decide_eq_true (by omega)
      have t2 : decide ((k : Int) < 41) = true := decide_eq_true (by omega)
      have i1 : (k : Int) < (l.length : Int) := by omega
      obtain ⟨b, o, rfl, g1, r1⟩ := HR.out.2.2.2 (by omega)
      have c8' := r1 k hlt.1 8 _ rfl
      obtain ⟨da, hda⟩ : ∃ d, d = (l[k]'hlt.1).b.da := ⟨_, rfl⟩
      have c8 : w.cell? ⟨b, o + k * 13 + 8, none⟩ = some (.string da) := by rw [hda]; exact c8'
      clear r1 hda c8'
      by_cases h3 : 1100 < da.size
      · have t3 : decide ((1100 : Int) < (da.size : Int)) = true := decide_eq_true (by omega)
        go_wp2
        go_ret
        exact ⟨_, rfl, (fun h => by cases h), rfl⟩
      · have t3 : decide ((1100 : Int) < (da.size : Int)) = false := decide_eq_false (by omega)
        go_wp2
        go_roundw
        case rel => exact ⟨k + 1, by go_num, by omega, by omega, by trivial⟩
        case measure => simp [intOf]; omega
    · have hun : undef = Value.tuple #[] := rfl
      have ht : (k < l.length ∧ ¬ k < 41) ∨ ¬ k < l.length := by omega
      have hs : l.length ≤ 40 ∨ (¬ l.length ≤ 40 ∧ ¬ 1000 < l.length) ∨ (¬ l.length ≤ 40 ∧ 1000 < l.length ∧ l.length ≤ 1010) ∨ (¬ l.length ≤ 40 ∧ 1000 < l.length ∧ ¬ l.length ≤ 1010) := by omega
      clear hlt
      rcases ht with ht | ht <;> rcases hs with hs | hs | hs | hs
      · have t1 : decide ((k : Int) < (l.length : Int)) = true := decide_eq_true (by omega)
        have t1n : decide (k < l.length) = true := decide_eq_true (by omega)
        have t2 : decide ((k : Int) < 41) = false := decide_eq_false (by omega)
        have t2n : decide (k < 41) = false := decide_eq_false (by omega)
        have t3 : decide ((l.length : Int) ≤ 40) = true := decide_eq_true (by omega)
        have t3n : decide (l.length ≤ 40) = true := decide_eq_true (by omega)
        have HL : Hid (l.length ≤ 40 ∨ 1000 < l.length ∧ l.length ≤ 1010) := Lib.hid (by omega)
        skip
        go_wp2
        go_ret
        exact ⟨_, rfl, fun _ => HL.out, rfl⟩
      · have t1 : decide ((k : Int) < (l.length : Int)) = true := decide_eq_true (by omega)
        have t1n : decide (k < l.length) = true := decide_eq_true (by omega)
        have t2 : decide ((k : Int) < 41) = false := decide_eq_false (by omega)
        have t2n : decide (k < 41) = false := decide_eq_false (by omega)
        have t3 : decide ((l.length : Int) ≤ 40) = false := decide_eq_false (by omega)
        have t3n : decide (l.length ≤ 40) = false := decide_eq_false (by omega)
        have t4 : decide ((1000 : Int) < (l.length : Int)) = false := decide_eq_false (by omega)
        have t4n : decide (1000 < l.length) = false := decide_eq_false (by omega)
        skip
        go_wp2
        go_ret
        exact ⟨_, rfl, (fun h => by cases h), rfl⟩
      · have t1 : decide ((k : Int) < (l.length : Int)) = true := decide_eq_true (by omega)
        have t1n : decide (k < l.length) = true := decide_eq_true (by omega)
        have t2 : decide ((k : Int) < 41) = false := decide_eq_false (by omega)
        have t2n : decide (k < 41) = false := decide_eq_false (by omega)
        have t3 : decide ((l.length : Int) ≤ 40) = false := decide_eq_false (by omega)
        have t3n : decide (l.length ≤ 40) = false := decide_eq_false (by omega)
        have t4 : decide ((1000 : Int) < (l.length : Int)) = true := decide_eq_true (by omega)
        have t4n : decide (1000 < l.length) = true := decide_eq_true (by omega)
        have t5 : decide ((l.length : Int) ≤ 1010) = true := decide_eq_true (by omega)
        have t5n : decide (l.length ≤ 1010) = true := decide_eq_true (by omega)
        have HL : Hid (l.length ≤ 40 ∨ 1000 < l.length ∧ l.length ≤ 1010) := Lib.hid (by omega)
        skip
        go_wp2
        go_ret
        exact ⟨_, rfl, fun _ => HL.out, rfl⟩
      · have t1 : decide ((k : Int) < (l.length : Int)) = true := decide_eq_true (by omega)
        have t1n : decide (k < l.length) = true := decide_eq_true (by omega)
        have t2 : decide ((k : Int) < 41) = false := decide_eq_false (by omega)
        have t2n : decide (k < 41) = false := decide_eq_false (by omega)
        have t3 : decide ((l.length : Int) ≤ 40) = false := decide_eq_false (by omega)
        have t3n : decide (l.length ≤ 40) = false := decide_eq_false (by omega)
        have t4 : decide ((1000 : Int) < (l.length : Int)) = true := decide_eq_true (by omega)
        have t4n : decide (1000 < l.length) = true := decide_eq_true (by omega)
        have t5 : decide ((l.length : Int) ≤ 1010) = false := decide_eq_false (by omega)
        have t5n : decide (l.length ≤ 1010) = false := decide_eq_false (by omega)
        skip
        go_wp2
        go_ret
        exact ⟨_, rfl, (fun h => by cases h), rfl⟩
      · have t1 : decide ((k : Int) < (l.length : Int)) = false := decide_eq_false (by omega)
        have t1n : decide (k < l.length) = false := decide_eq_false (by omega)
        have t3 : decide ((l.length : Int) ≤ 40) = true := decide_eq_true (by omega)
        have t3n : decide (l.length ≤ 40) = true := decide_eq_true (by omega)
        have HL : Hid (l.length ≤ 40 ∨ 1000 < l.length ∧ l.length ≤ 1010) := Lib.hid (by omega)
        skip
        go_wp2
        go_ret
        exact ⟨_, rfl, fun _ => HL.out, rfl⟩
      · have t1 : decide ((k : Int) < (l.length : Int)) = false := decide_eq_false (by omega)
        have t1n : decide (k < l.length) = false := decide_eq_false (by omega)
        have t3 : decide ((l.length : Int) ≤ 40) = false := decide_eq_false (by omega)
        have t3n : decide (l.length ≤ 40) = false := decide_eq_false (by omega)
        have t4 : decide ((1000 : Int) < (l.length : Int)) = false := decide_eq_false (by omega)
        have t4n : decide (1000 < l.length) = false := decide_eq_false (by omega)
        skip
        go_wp2
        go_ret
        exact ⟨_, rfl, (fun h => by cases h), rfl⟩
      · have t1 : decide ((k : Int) < (l.length : Int)) = false := decide_eq_false (by omega)
        have t1n : decide (k < l.length) = false := decide_eq_false (by omega)
        have t3 : decide ((l.length : Int) ≤ 40) = false := decide_eq_false (by omega)
        have t3n : decide (l.length ≤ 40) = false := decide_eq_false (by omega)
        have t4 : decide ((1000 : Int) < (l.length : Int)) = true := decide_eq_true (by omega)
        have t4n : decide (1000 < l.length) = true := decide_eq_true (by omega)
        have t5 : decide ((l.length : Int) ≤ 1010) = true := decide_eq_true (by omega)
        have t5n : decide (l.length ≤ 1010) = true := decide_eq_true (by omega)
        have HL : Hid (l.length ≤ 40 ∨ 1000 < l.length ∧ l.length ≤ 1010) := Lib.hid (by omega)
        skip
        go_wp2
        go_ret
        exact ⟨_, rfl, fun _ => HL.out, rfl⟩
      · have t1 : decide ((k : Int) < (l.length : Int)) = false := decide_eq_false (by omega)
        have t1n : decide (k < l.length) = false := decide_eq_false (by omega)
        have t3 : decide ((l.length : Int) ≤ 40) = false := decide_eq_false (by omega)
        have t3n : decide (l.length ≤ 40) = false := decide_eq_false (by omega)
        have t4 : decide ((1000 : Int) < (l.length : Int)) = true := decide_eq_true (by omega)
        have t4n : decide (1000 < l.length) = true := decide_eq_true (by omega)
        have t5 : decide ((l.length : Int) ≤ 1010) = false := decide_eq_false (by omega)
        have t5n : decide (l.length ≤ 1010) = false := decide_eq_false (by omega)
        skip
        go_wp2
        go_ret
        exact ⟨_, rfl, (fun h => by cases h), rfl⟩
theorem expS_len (l : List Itm) (now : Int) : (expiredS l now).1.length ≤ l.length := by
  unfold expiredS
  split
  · exact Nat.zero_le _
  · rw [List.length_map]; exact List.length_filter_le _ _
theorem forS_len (l : List Itm) (prio now : Int) : (forS l prio now).1.length ≤ l.length := by
  unfold forS
  split
  · exact Nat.zero_le _
  · split
    · exact Nat.zero_le _
    · rw [isort_length]; exact chL_len _ _ _ _
set_option maxRecDepth 100000 in
set_option maxHeartbeats 6400000 in
theorem storeLists_walk (a : Option Addr) (cap : Nat) (l : List Itm) (prio now : Int) (w : World) (hd : ∀ x ∈ l, GdI x) (hH : HTab w) (hrow : SRow itm 13 w a cap l) :
    Calls Tryd.prog 5 #[.slice a l.length cap, .int .i64 prio, .int .i64 now] w fun e w' => e = .returned (.bool true) ∧ Below w.heap.size w w' := by
  have HR := Lib.hid hrow; have HH := Lib.hid hH
  have hda : ∀ x ∈ l, x.b.da.size ≤ maxLen := fun x hx => (hd x hx).1
  have HD := Lib.hid hda
  clear hrow hH hd hda
  go_enter Tryd.func5, Tryd.ntmps5
  go_wp2_with fail
  (with_reducible refine (light_any2 a cap l w HR.out).mono ?_)
  rintro e W0' ⟨q, rfl, hq, rfl⟩
  cases q
  · go_wp2_with fail
    (with_reducible refine (awake_any w HH.out).mono ?_)
    rintro e W1 ⟨rfl, h1⟩
    go_wp2
    go_ret
    exact ⟨rfl, h1⟩
  · have h1010 := hq rfl
    clear hq
    have h40 : StV l → l.length ≤ 40 := fun h => by have := h.1; omega
    have hL : l.length ≤ 1010 := by omega
    have le1 := expS_len l now
    have le2 := forS_len l prio now
    obtain ⟨R1, e1⟩ : ∃ R, expiredS l now = R := ⟨_, rfl⟩
    obtain ⟨R2, e2⟩ : ∃ R, forS l prio now = R := ⟨_, rfl⟩
    have ge1 : ∀ a cap W, SRow itm 13 W a cap l → Calls Tryd.prog 22 #[.slice a l.length cap, .int .i64 now] W fun e w' => RetK R1 W e w' := fun a cap W h => by rw [← e1]; exact expired_anyS a cap l now HD.out (by omega) W h
    have ge2 : ∀ a cap W, SRow itm 13 W a cap l → Calls Tryd.prog 23 #[.slice a l.length cap, .int .i64 now] W fun e w' => RetK R1 W e w' := fun a cap W h => by rw [← e1]; exact rexpired_any a cap l now HD.out (by omega) W h
    have gf1 : ∀ a cap W, SRow itm 13 W a cap l → Calls Tryd.prog 24 #[.slice a l.length cap, .int .i64 prio, .int .i64 now] W fun e w' => RetN R2 W e w' := fun a cap W h => by rw [← e2]; exact for_any40 a cap l prio now HD.out h40 W h
    have gf2 : ∀ a cap W, SRow itm 13 W a cap l → Calls Tryd.prog 25 #[.slice a l.length cap, .int .i64 prio, .int .i64 now] W fun e w' => RetN R2 W e w' := fun a cap W h => by rw [← e2]; exact rfor_any a cap l prio now HD.out (by omega) W h
    rw [e1] at le1
    rw [e2] at le2
    replace ge1 := Lib.hid ge1; replace ge2 := Lib.hid ge2; replace gf1 := Lib.hid gf1; replace gf2 := Lib.hid gf2
    clear e1 e2 h40 h1010
    have t1 : (R1.2 != R1.2) = false := by simp
    have t2 : (R2.2 == R2.2) = true := by simp
    have t3 : ((R1.1.length : Int) != (R1.1.length : Int)) = false := by simp
    go_wp2_with fail
    (with_reducible refine (lown_any a cap l (by omega) w HR.out).mono ?_)
    rintro e W1 ⟨v1, rfl, ho1, h1⟩
    obtain ⟨ah, ch, rfl, hS1, _⟩ := srow_of_owns itm_len ho1
    have HO := Lib.hid hS1
    clear ho1 hS1
    replace HR := Lib.hid (HR.out.below h1)
    have B1 := bt (Below.refl _ _) h1
    clear h1
    go_wp2_with fail
    (with_reducible refine (ge1.out ah ch W1 HO.out).mono ?_)
    rintro e W2 ⟨a2, c2, rfl, hS2, h2⟩
    have HX := Lib.hid hS2
    clear hS2
    replace HR := Lib.hid (HR.out.below h2)
    replace HO := Lib.hid (HO.out.below h2)
    have B2 := bt B1 h2
    clear h2 B1
    go_wp2_with fail
    (with_reducible refine (ge2.out a cap W2 HR.out).mono ?_)
    rintro e W3 ⟨a3, c3, rfl, hS3, h3⟩
    have HY := Lib.hid hS3
    clear hS3
    replace HR := Lib.hid (HR.out.below h3)
    replace HO := Lib.hid (HO.out.below h3)
    replace HX := Lib.hid (HX.out.below h3)
    have B3 := bt B2 h3
    clear h3 B2
    obtain ⟨Vb, hVb⟩ : ∃ v, v = W3 := ⟨_, rfl⟩
    rw [← hVb] at B3 HR HO HX HY ⊢
    clear hVb
    have sV := B3.size
    have hx0 := HX.out.1
    have hx1 := HX.out.2.1
    have hy0 := HY.out.1
    have hy1 := HY.out.2.1
    unfold maxLen at hx1 hy1
    go_wp2_with fail
    go_loopw [12] (fun vk wr => ∃ k : Nat, vk = .int .i64 k ∧ k ≤ R1.1.length ∧ Below Vb.heap.size Vb wr) (fun vk _ => R1.1.length - (intOf vk).toNat)
    case atStart => exact ⟨0, rfl, Nat.zero_le _, Below.refl _ _⟩
    case round =>
      obtain ⟨k, rfl, hk, hBV⟩ := hrel
      by_cases hkl : k < R1.1.length
      · have p1 : (k : Int) < (R1.1.length : Int) := by omega
        have tg : decide ((k : Int) < (R1.1.length : Int)) = true := decide_eq_true p1
        obtain ⟨bx, ox, e9, gx, rx⟩ := HX.out.2.2.2 (by omega)
        obtain ⟨by', oy, e8, gy, ry⟩ := HY.out.2.2.2 (by omega)
        subst e9
        subst e8
        have rx' := rx k hkl
        have ry' := ry k hkl
        obtain ⟨z, hz⟩ : ∃ z, z = R1.1[k] := ⟨_, rfl⟩
        rw [← hz] at rx' ry'
        clear hz rx ry
        have E := run_idKNe z z
        have E0 : (!decide (z = z)) = false := by simp
        rw [E0] at E
        clear E0
        go_wp2_with fail
        refine wp_region_in (by kernel_rfl) (by kernel_rfl) ?_
        intro W0 hE hN
        have qB : Below Vb.heap.size Vb W0 := (by rw [hE.out]; exact hBV)
        clear hE hBV
        have r1 := range_below gx rx' qB
        have r2 := range_below gy ry' qB
        have g1 : bx < W0.heap.size := Nat.lt_of_lt_of_le gx qB.size
        have g2 : by' < W0.heap.size := Nat.lt_of_lt_of_le gy qB.size
        clear rx' ry'
        refine wpQuiet_split 3 ?_
        simp only [List.take_succ_cons, List.take_zero, List.drop_succ_cons, List.drop_zero]
        repeat (go_big_quiet_step (fail))
        refine wpQuiet_nil ?_
        refine wpQuiet_load_range 26 (.tmp 51) bx (ox + k * 3) (idL z) (fun W hW => by obtain ⟨x', rfl⟩ := hW; exact range_below g1 r1 x'.ok) _ (by kernel_rfl) rfl (by kernel_rfl) Tryd.underlying26 rfl (by kernel_rfl) ?_
        conv => arg 6; simp [Act.put]
        refine wpQuiet_split 3 ?_
        simp only [List.take_succ_cons, List.take_zero, List.drop_succ_cons, List.drop_zero]
        repeat (go_big_quiet_step (fail))
        refine wpQuiet_nil ?_
        refine wpQuiet_load_range 26 (.tmp 55) by' (oy + k * 3) (idL z) (fun W hW => by obtain ⟨x', rfl⟩ := hW; exact range_below g2 r2 x'.ok) _ (by kernel_rfl) rfl (by kernel_rfl) Tryd.underlying26 rfl (by kernel_rfl) ?_
        conv => arg 6; simp [Act.put]
        repeat (go_big_quiet_step (fail))
        refine wpQuiet_nil ?_
        rintro _ ⟨x', rfl⟩
        have hBU : Below Vb.heap.size Vb x'.wd := qB.trans (x'.ok.mono qB.size)
        obtain ⟨U, hUe⟩ : ∃ u, u = x'.wd := ⟨_, rfl⟩
        rw [← hUe] at hBU ⊢
        clear hUe x' hN r1 r2 g1 g2 qB E
        go_wp2
        go_roundw
        case rel => exact ⟨k + 1, by go_num, by omega, hBU⟩
        case measure => simp [intOf]; omega
      · obtain rfl : k = R1.1.length := by omega
        have tg : decide ((R1.1.length : Int) < (R1.1.length : Int)) = false := decide_eq_false (by omega)
        have B9 : Below w.heap.size w wr := B3.trans (hBV.mono sV)
        replace HR := Lib.hid (HR.out.below hBV)
        replace HO := Lib.hid (HO.out.below hBV)
        clear HX HY hBV B3 hx0 hx1 hy0 hy1 sV
        go_wp2_with fail
        (with_reducible refine (gf1.out ah ch wr HO.out).mono ?_)
        rintro e W11 ⟨a11, c11, rfl, hS11, h11⟩
        have HX := Lib.hid hS11
        clear hS11
        replace HR := Lib.hid (HR.out.below h11)
        replace HO := Lib.hid (HO.out.below h11)
        have B11 := bt B9 h11
        clear h11 B9
        go_wp2_with fail
        (with_reducible refine (gf2.out a cap W11 HR.out).mono ?_)
        rintro e W12 ⟨a12, c12, rfl, hS12, h12⟩
        have HY := Lib.hid hS12
        clear hS12
        replace HR := Lib.hid (HR.out.below h12)
        replace HO := Lib.hid (HO.out.below h12)
        replace HX := Lib.hid (HX.out.below h12)
        have B12 := bt B11 h12
        clear h12 B11
        go_wp2_with fail
        (with_reducible refine ((show Calls Tryd.prog 26 #[.slice a11 R2.1.length c11, .slice a12 R2.1.length c12] W12 fun e w' => e = .returned (.bool true) ∧ Below W12.heap.size W12 w' from by have h9 := sameZ_any a11 a12 c11 c12 R2.1 R2.1 (by omega) (by omega) W12 HX.out HY.out; rw [decide_eq_true rfl] at h9; exact h9)).mono ?_)
        rintro e W13 ⟨rfl, h13⟩
        replace HR := Lib.hid (HR.out.below h13)
        replace HO := Lib.hid (HO.out.below h13)
        replace HX := Lib.hid (HX.out.below h13)
        replace HY := Lib.hid (HY.out.below h13)
        have B13 := bt B12 h13
        clear h13 B12
        go_wp2_with fail
        (with_reducible refine (same_self ah a ch cap l W13 HO.out HR.out).mono ?_)
        rintro e W14 ⟨rfl, h14⟩
        replace HR := Lib.hid (HR.out.below h14)
        replace HO := Lib.hid (HO.out.below h14)
        replace HX := Lib.hid (HX.out.below h14)
        replace HY := Lib.hid (HY.out.below h14)
        have B14 := bt B13 h14
        clear h14 B13
        go_wp2_with fail
        (with_reducible refine (awake_any W14 (HH.out.on B14)).mono ?_)
        rintro e W15 ⟨rfl, h15⟩
        replace HR := Lib.hid (HR.out.below h15)
        replace HO := Lib.hid (HO.out.below h15)
        replace HX := Lib.hid (HX.out.below h15)
        replace HY := Lib.hid (HY.out.below h15)
        have B15 := bt B14 h15
        clear h15 B14
        go_wp2
        go_ret
        exact ⟨rfl, B15⟩
theorem storeLists_at (a : Option Addr) (cap : Nat) (l : List Itm) (prio now : Int) (w : World) (hrow : SRow itm 13 w a cap l) (hd : ∀ x ∈ l, GdI x) (hT : Lib.TabIs Tryd.prog w headsNm .u8 headsTab) :
    Calls Tryd.prog 5 #[.slice a l.length cap, .int .i64 prio, .int .i64 now] w fun e w' => e = .returned (.bool true) ∧ Below w.heap.size w w' :=
  storeLists_walk a cap l prio now w hd (htab_of hT) hrow
end Go.Proofs.YtahopnlibmiafaaDoor
