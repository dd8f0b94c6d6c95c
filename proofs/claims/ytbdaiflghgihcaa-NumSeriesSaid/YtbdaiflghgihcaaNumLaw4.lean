/- The walks of NumLists and NumSeries. -/
import Derived.Test.YtbdaiflghgihcaaNumKit
namespace Go.Proofs.Ytbdaiflghgihcaa
set_option linter.unusedVariables false
open Go.RowKit

theorem listGo_wf (l : List UInt8) : ∀ (k : Nat) (p : Int) (acc : List Int), (∀ z ∈ acc, (Lit.int .u64 z).wf = true) → ∀ z ∈ (listGo l k p acc).1, (Lit.int .u64 z).wf = true
  | 0, p, acc, h => by simpa [listGo] using h
  | k + 1, p, acc, h => by
    unfold listGo
    split
    · simp
    · refine listGo_wf l k _ _ ?_
      intro z hz
      simp only [List.mem_append, List.mem_singleton] at hz
      rcases hz with hz | rfl
      · exact h z hz
      · exact WalkArith.wf_u64 (by have := (getN_bound l p).1; omega)
theorem getListN_wf (l : List UInt8) (q m : Int) : ∀ z ∈ (getListN l q m).1, (Lit.int .u64 z).wf = true := by
  unfold getListN; split
  · simp
  · exact listGo_wf _ _ _ _ (by simp)
theorem sameN_self (xs : List Int) : sameN xs xs = true := by simp [sameN]
theorem sameNumbers_yes (a b : Option Addr) (ca cb : Nat) (xs : List Int) (w : World) (ha : Row .u64 w a ca xs) (hb : Row .u64 w b cb xs) :
    Calls Try.prog 43 #[.slice a xs.length ca, .slice b xs.length cb] w fun e w' => e = .returned (.bool true) ∧ Below w.heap.size w w' := by
  have := sameNumbers_any a b ca cb xs xs w ha hb
  rw [sameN_self] at this; exact this

set_option maxRecDepth 100000 in
set_option maxHeartbeats 1600000 in
theorem numLists_walk (a0 : Option Addr) (len0 cap0 : Nat) (z0 : List Int) (a1 a2 : ByteArray) (a3 a4 : Int) (w : World) (w0 : IsRow .u64 w a0 len0 cap0 z0) (w1 : a1.size ≤ maxLen) (w2 : a2.size ≤ maxLen) (w3 : (Lit.int .i64 a3).wf = true) (w4 : (Lit.int .i64 a4).wf = true) :
    Calls Try.prog 12 #[.slice a0 len0 cap0, .string a1, .string a2, .int .i64 a3, .int .i64 a4] w fun e w' => e = .returned (.bool true) ∧ Below w.heap.size w w' := by
  obtain ⟨zs, hzs, hrow⟩ : ∃ zs : List Int, len0 = zs.length ∧ Row .u64 w a0 cap0 zs := ⟨_, row_of w0⟩
  subst hzs
  clear w0
  obtain ⟨h0, h1⟩ := i64_bounds w3
  obtain ⟨h2, h3⟩ := i64_bounds w4
  clear w3 w4
  have hcap := hrow.2.1
  have hlc := hrow.1
  unfold maxLen at w1 w2 hcap
  by_cases hc : zs.length ≤ 200 ∧ a1.size ≤ 5000 ∧ a2.size ≤ 5000
  · obtain ⟨c1, c2, c3⟩ := hc
    have hwf := hrow.2.2.1
    obtain ⟨p, hp⟩ : ∃ p : ByteArray, p = ⟨(putListN zs).toArray⟩ := ⟨_, rfl⟩
    obtain ⟨t, ht⟩ : ∃ t : ByteArray, t = ⟨(putTextN a1.data.toList).toArray⟩ := ⟨_, rfl⟩
    have ct : ∀ w, Calls Try.prog 37 #[.string a1] w fun e w' => e = .returned (.string t) ∧ Below w.heap.size w w' := fun w => by rw [ht]; exact numPutText_any a1 w (by omega)
    have ct' : ∀ w, Calls Try.prog 42 #[.string a1] w fun e w' => e = .returned (.string t) ∧ Below w.heap.size w w' := fun w => by rw [ht]; exact refPutText_any a1 w (by omega)
    have cl : ∀ w a c, Row .u64 w a c zs → Calls Try.prog 36 #[.slice a zs.length c] w fun e w' => e = .returned (.string p) ∧ Below w.heap.size w w' := fun w a c h => by rw [hp]; exact numPutList_any a c zs w h (by omega)
    have cl' : ∀ w a c, Row .u64 w a c zs → Calls Try.prog 41 #[.slice a zs.length c] w fun e w' => e = .returned (.string p) ∧ Below w.heap.size w w' := fun w a c h => by rw [hp]; exact refPutList_any a c zs w h (by omega)
    obtain ⟨⟨x, y, z⟩, hxyz⟩ : ∃ r, getTextN a2.data.toList a3 a4 = r := ⟨_, rfl⟩
    obtain ⟨xb, hxb⟩ : ∃ xb : ByteArray, xb = ⟨x.toArray⟩ := ⟨_, rfl⟩
    have cg : ∀ w, Calls Try.prog 38 #[.string a2, .int .i64 a3, .int .i64 a4] w fun e w' => e = .returned (.tuple #[.string xb, .int .i64 y, .int .i64 z]) ∧ Below w.heap.size w w' := fun w => by
      have := numGetText_any a2 a3 a4 w (by unfold maxLen; omega) h0 h1 h3; rw [hxyz] at this; rw [hxb]; exact this
    have cg' : ∀ w, Calls Try.prog 45 #[.string a2, .int .i64 a3, .int .i64 a4] w fun e w' => e = .returned (.tuple #[.string xb, .int .i64 y, .int .i64 z]) ∧ w = w' := fun w => by
      have := refGetText_any a2 a3 a4 w (by unfold maxLen; omega) h0 h1 h3; rw [hxyz] at this; rw [hxb]; exact this
    obtain ⟨R, hR⟩ : ∃ R, getListN a2.data.toList a3 a4 = R := ⟨_, rfl⟩
    have cr : ∀ w, Calls Try.prog 39 #[.string a2, .int .i64 a3, .int .i64 a4] w (GotList w R) := fun w => by rw [← hR]; exact numGetList_any a2 a3 a4 w (by omega) h0 h1 h3
    have cr' : ∀ w, Calls Try.prog 44 #[.string a2, .int .i64 a3, .int .i64 a4] w (GotList w R) := fun w => by rw [← hR]; exact refGetList_any a2 a3 a4 w (by omega) h0 h1 h3
    have hwR : ∀ z ∈ R.1, (Lit.int .u64 z).wf = true := by rw [← hR]; exact getListN_wf _ _ _
    obtain ⟨R1, R2, R3⟩ := R
    clear hp ht hxb hxyz hR
    have Hrow := Lib.hid hrow; clear hrow
    have Hwf := Lib.hid hwf; clear hwf
    have HwR := Lib.hid hwR; clear hwR
    have Ct := Lib.hid ct; clear ct
    have Ct' := Lib.hid ct'; clear ct'
    have Cl := Lib.hid cl; clear cl
    have Cl' := Lib.hid cl'; clear cl'
    have Cg := Lib.hid cg; clear cg
    have Cg' := Lib.hid cg'; clear cg'
    have Cr := Lib.hid cr; clear cr
    have Cr' := Lib.hid cr'; clear cr'
    go_enter Try.func12, Try.ntmps12
    go_wp2_with fail
    refine (ownNumbers_any a0 cap0 zs w Hrow.out (by omega)).mono ?_
    rintro e w1 ⟨v, rfl, hown, hb1⟩
    obtain ⟨oa, oc, rfl, hro⟩ := row_of_owns rfl hown Hwf.out
    clear hown
    have Hro := Lib.hid hro; clear hro
    go_wp2_with fail
    refine (Cl.out _ _ _ Hro.out).mono ?_
    rintro e w2 ⟨rfl, hb2⟩
    go_wp2_with fail
    refine (Cl'.out _ _ _ (Hrow.out.below (bt hb1 hb2))).mono ?_
    rintro e w3 ⟨rfl, hb3⟩
    go_wp2_with (first | (go_at_call 37; (with_reducible refine (Ct.out _).mono ?_); rintro e w4 ⟨rfl, hb4⟩) | (go_at_call 42; (with_reducible refine (Ct'.out _).mono ?_); rintro e w5 ⟨rfl, hb5⟩))
    have hb5' := bt (bt (bt (bt hb1 hb2) hb3) hb4) hb5
    refine (sameNumbers_yes _ _ _ _ zs w5 (Hro.out.below (bt (bt (bt hb2 hb3) hb4) hb5)) (Hrow.out.below hb5')).mono ?_
    rintro e w6 ⟨rfl, hb6⟩
    clear hb1 hb2 hb3 hb4 hb5
    have hb1 := bt hb5' hb6
    clear hb5' hb6
    go_wp2_with fail
    refine (Cr.out _).mono ?_
    rintro e w7 ⟨va, rfl, hva, hb2⟩
    obtain ⟨aa, ac, rfl, hra⟩ := row_of_owns rfl hva HwR.out
    clear hva
    have Hra := Lib.hid hra; clear hra
    go_wp2_with fail
    refine (Cr'.out _).mono ?_
    rintro e w8 ⟨vb, rfl, hvb, hb3⟩
    obtain ⟨ba, bc, rfl, hrb⟩ := row_of_owns rfl hvb HwR.out
    clear hvb
    have Hrb := Lib.hid hrb; clear hrb
    go_wp2_with (first | (go_at_call 38; (with_reducible refine (Cg.out _).mono ?_); rintro e w9 ⟨rfl, hb4⟩) | (go_at_call 45; (with_reducible refine (Cg'.out _).mono ?_); rintro e w10 ⟨rfl, rfl⟩))
    refine (sameNumbers_yes _ _ _ _ R1 w9 (Hra.out.below (bt hb3 hb4)) (Hrb.out.below hb4)).mono ?_
    rintro e w11 ⟨rfl, hb5⟩
    go_wp2_with (go_at_call 15; (with_reducible refine (awake_any _).mono ?_); rintro e w12 ⟨rfl, hb6⟩)
    go_ret
    exact ⟨rfl, bt (bt (bt (bt (bt hb1 hb2) hb3) hb4) hb5) hb6⟩
  · by_cases c1 : 200 < zs.length
    · clear hrow
      go_enter Try.func12, Try.ntmps12
      go_wp2_with (go_at_call 15; (with_reducible refine (awake_any _).mono ?_); rintro e w1 ⟨rfl, hb1⟩)
      go_ret
      exact ⟨rfl, hb1⟩
    · by_cases c2 : 5000 < a1.size
      · clear hrow
        go_enter Try.func12, Try.ntmps12
        go_wp2_with (go_at_call 15; (with_reducible refine (awake_any _).mono ?_); rintro e w1 ⟨rfl, hb1⟩)
        go_ret
        exact ⟨rfl, hb1⟩
      · have c3 : 5000 < a2.size := by omega
        clear hrow
        go_enter Try.func12, Try.ntmps12
        go_wp2_with (go_at_call 15; (with_reducible refine (awake_any _).mono ?_); rintro e w1 ⟨rfl, hb1⟩)
        go_ret
        exact ⟨rfl, hb1⟩
end Go.Proofs.Ytbdaiflghgihcaa
