/- Parts of a proof, printed by a program of mine out of my texts: EgInt, EgSame. -/
import Derived.OrdersHeld
import Derived.Deep.RegionHeld
import Derived.Deep.Cut
import Derived.Test.YthfmkkkdjgkaoaaGreatDoorMA
import Derived.Test.YthfmkkkdjgkaoaaGreatDoorMU
set_option linter.unusedSimpArgs false
set_option linter.unusedVariables false
namespace Go.Proofs.YthfmkkkdjgkaoaaGreatDoor
open Go.RowKit
def ic (n : Int) : List Value := [.int .i64 n]
theorem ic_len (n : Int) : (ic n).length = 1 := rfl
theorem ic_one (n : Int) : ∀ u ∈ ic n, u.oneCell' = true := by
  intro u hu
  simp only [ic, List.mem_cons, List.not_mem_nil, or_false] at hu
  subst hu; rfl
theorem rowC_ic (l : List Int) : rowC ic l = l.map (.int .i64 ·) := by
  induction l with
  | nil => rfl
  | cons x l ih => simp only [rowC, List.flatMap_cons, List.map_cons] at ih ⊢; rw [ih]; rfl
end Go.Proofs.YthfmkkkdjgkaoaaGreatDoor
namespace Go.Proofs.YthfmkkkdjgkaoaaGreatDoor
open Go.RowKit
theorem takeZ_succ {xs ys : List Int} {k : Nat} (h1 : k < xs.length) (h2 : k < ys.length) (h : xs.take k = ys.take k) (he : xs[k] = ys[k]) : xs.take (k + 1) = ys.take (k + 1) := by
  rw [List.take_succ_eq_append_getElem h1, List.take_succ_eq_append_getElem h2, h, he]
set_option maxRecDepth 100000 in
set_option maxHeartbeats 1600000 in
theorem sameZ_any (a1 a2 : Option Addr) (c1 c2 : Nat) (l m : List Int) (hl : l.length ≤ 100000) (hm : m.length ≤ 100000) (w : World) (h1 : SRow ic 1 w a1 c1 l) (h2 : SRow ic 1 w a2 c2 m) :
    Calls Tryz.prog 29 #[.slice a1 l.length c1, .slice a2 m.length c2] w fun e w' => e = .returned (.bool (decide (l = m))) ∧ Below w.heap.size w w' := by
  have H1 := Lib.hid h1; have H2 := Lib.hid h2; clear h1 h2
  by_cases hlen : l.length = m.length
  · have q1 : ((l.length : Int) != (m.length : Int)) = false := by simp [hlen]
    have HL := Lib.hid hlen
    clear hlen
    go_enter Tryz.func29, Tryz.ntmps29
    go_wp2
    go_loopw [5] (fun i wr => ∃ k : Nat, i = .int .i64 k ∧ k ≤ l.length ∧ Hid (l.take k = m.take k) ∧ Below w.heap.size w wr) (fun i _ => l.length - (intOf i).toNat)
    case atStart => exact ⟨0, rfl, Nat.zero_le _, Lib.hid rfl, Below.refl _ _⟩
    case round =>
      obtain ⟨k, rfl, hk, hE0, hB⟩ := hrel
      by_cases hlt : k < l.length
      · have hlm : k < m.length := by have := HL.out; omega
        have i1 : (k : Int) < (l.length : Int) := by omega
        have i2 : (k : Int) < (m.length : Int) := by omega
        obtain ⟨b1, o1, rfl, g1, r1⟩ := (H1.out.below hB).2.2.2 (by omega)
        obtain ⟨b2, o2, rfl, g2, r2⟩ := (H2.out.below hB).2.2.2 (by omega)
        obtain ⟨x, hx⟩ : ∃ x, x = l[k] := ⟨_, rfl⟩
        obtain ⟨y, hy⟩ : ∃ x, x = m[k] := ⟨_, rfl⟩
        have R1 := r1 k hlt 0 _ rfl
        have R2 := r2 k hlm 0 _ rfl
        rw [← hx] at R1
        rw [← hy] at R2
        rw [Nat.mul_one, Nat.add_zero] at R1 R2
        have HX := Lib.hid hx; have HY := Lib.hid hy
        clear hx hy r1 r2
        have hq : (x != y) = true ∨ (x != y) = false := by cases (x != y) <;> simp
        go_wp2_with fail
        refine wp_region_in (by kernel_rfl) (by kernel_rfl) ?_
        intro W0 hE hN
        have g1' : b1 < W0.heap.size := (by rw [hE.out]; exact g1)
        have g2' : b2 < W0.heap.size := (by rw [hE.out]; exact g2)
        have n1 : ∀ X : Class (Calm W0), X.wd.cell? ⟨b1, o1 + k, none⟩ = some (.int .i64 x) := fun X => (X.ok.cell (p := ⟨b1, o1 + k, none⟩) g1').trans (by rw [hE.out]; exact R1)
        have n2 : ∀ X : Class (Calm W0), X.wd.cell? ⟨b2, o2 + k, none⟩ = some (.int .i64 y) := fun X => (X.ok.cell (p := ⟨b2, o2 + k, none⟩) g2').trans (by rw [hE.out]; exact R2)
        have hB' : Below w.heap.size w W0 := (by rw [hE.out]; exact hB)
        clear hE R1 R2 g1 g2 hB
        repeat (go_big_quiet_step (fail))
        refine wpQuiet_nil ?_
        rintro _ ⟨x', rfl⟩
        have hB2 := bt hB' x'.ok
        obtain ⟨u, hu⟩ : ∃ u, u = x'.wd := ⟨_, rfl⟩
        rw [← hu] at hB2 ⊢
        clear hu x' hN n1 n2 g1' g2' hB'
        rcases hq with hq | hq
        · have hne : x ≠ y := by simpa using hq
          have hlm2 : decide (l = m) = false := decide_eq_false (fun e => by subst e; exact hne (by rw [HX.out, HY.out]))
          have HQ := Lib.hid hlm2
          clear hlm2
          go_wp2
          go_ret
          exact ⟨by rw [HQ.out]; rfl, hB2⟩
        · have hne : x = y := by simpa using hq
          have hT : Hid (l.take (k + 1) = m.take (k + 1)) := Lib.hid (takeZ_succ hlt hlm hE0.out (by rw [← HX.out, ← HY.out]; exact hne))
          clear hne
          go_wp2
          go_roundw
          case rel => exact ⟨k + 1, by go_num, by omega, hT, hB2⟩
          case measure => simp [intOf]; omega
      · obtain rfl : k = l.length := by omega
        have e : l = m := by
          have := hE0.out
          rwa [List.take_length, HL.out, List.take_length] at this
        have HS := Lib.hid (decide_eq_true e)
        clear e
        go_wp2
        go_ret
        exact ⟨by rw [HS.out]; rfl, hB⟩
  · have q1 : ((l.length : Int) != (m.length : Int)) = true := by simp; omega
    rw [decide_eq_false (fun e : l = m => hlen (by rw [e]))]
    clear hlen
    go_enter Tryz.func29, Tryz.ntmps29
    go_wp2
    go_ret
    exact ⟨rfl, Below.refl _ _⟩
end Go.Proofs.YthfmkkkdjgkaoaaGreatDoor
