/- Parts of a proof, printed by a program of mine out of my texts: SoSame. -/
import Derived.Test.YtahopnlibmiafaaDoorMU
set_option linter.unusedSimpArgs false
set_option linter.unusedVariables false
namespace Go.Proofs.YtahopnlibmiafaaDoor
open Go.RowKit
def sameL : List Bn → List Bn → Bool
  | [], [] => true
  | x :: l, y :: m => eqB x y && sameL l m
  | _, _ => false
theorem sameL_iff : ∀ l m : List Bn, sameL l m = true ↔ l = m
  | [], [] => by simp [sameL]
  | [], y :: m => by simp [sameL]
  | x :: l, [] => by simp [sameL]
  | x :: l, y :: m => by simp [sameL, eqB_iff, sameL_iff l m]
theorem sameL_no {l m : List Bn} (h : l ≠ m) : sameL l m = false := by
  cases hs : sameL l m
  · rfl
  · exact absurd ((sameL_iff l m).1 hs) h
theorem takeB_succ {xs ys : List Bn} {k : Nat} (h1 : k < xs.length) (h2 : k < ys.length) (h : xs.take k = ys.take k) (he : xs[k] = ys[k]) : xs.take (k + 1) = ys.take (k + 1) := by
  rw [List.take_succ_eq_append_getElem h1, List.take_succ_eq_append_getElem h2, h, he]
set_option maxRecDepth 100000 in
set_option maxHeartbeats 1600000 in
theorem sameB_any (a1 a2 : Option Addr) (c1 c2 : Nat) (l m : List Bn) (hl : l.length ≤ 100000) (hm : m.length ≤ 100000) (w : World) (h1 : SRow bn 9 w a1 c1 l) (h2 : SRow bn 9 w a2 c2 m) :
    Calls Tryd.prog 16 #[.slice a1 l.length c1, .slice a2 m.length c2] w fun e w' => e = .returned (.bool (sameL l m)) ∧ Below w.heap.size w w' := by
  have H1 := Lib.hid h1; have H2 := Lib.hid h2; clear h1 h2
  by_cases hlen : l.length = m.length
  · have q1 : ((l.length : Int) != (m.length : Int)) = false := by simp [hlen]
    have HL := Lib.hid hlen
    clear hlen
    go_enter Tryd.func16, Tryd.ntmps16
    go_wp2
    go_loopw [5] (fun i wr => ∃ k : Nat, i = .int .i64 k ∧ k ≤ l.length ∧ Hid (l.take k = m.take k) ∧ Below w.heap.size w wr) (fun i _ => l.length - (intOf i).toNat)
    case atStart => exact ⟨0, rfl, Nat.zero_le _, Lib.hid rfl, Below.refl _ _⟩
    case round =>
      obtain ⟨k, rfl, hk, hE0, hB⟩ := hrel
      by_cases hlt : k < l.length
      · have hlm : k < m.length := by have := HL.out; omega
        have i1 : (k : Int) < (l.length : Int) := by omega
        have i2 : (k : Int) < (m.length : Int) := by omega
        obtain ⟨b1, o1, rfl, g1, r1⟩ := (H1.out.below hB).2.2.2 (by omega)
        obtain ⟨b2, o2, rfl, g2, r2⟩ := (H2.out.below hB).2.2.2 (by omega)
        obtain ⟨x, hx⟩ : ∃ x, x = l[k] := ⟨_, rfl⟩
        obtain ⟨y, hy⟩ : ∃ x, x = m[k] := ⟨_, rfl⟩
        have R1 := r1 k hlt
        have R2 := r2 k hlm
        rw [← hx] at R1
        rw [← hy] at R2
        clear r1 r2
        have E := fun W => run_bnNe x y W
        obtain ⟨q, hq⟩ : ∃ q, eqB x y = q := ⟨_, rfl⟩
        rw [hq] at E
        have HX := Lib.hid hx; have HY := Lib.hid hy; have HQ := Lib.hid hq
        clear hx hy hq
        go_wp2_with fail
        refine wp_region_in (by kernel_rfl) (by kernel_rfl) ?_
        intro W0 hE hN
        have r1 : W0.rangeAt b1 (o1 + k * 9) (bn x) := (by rw [hE.out]; exact R1)
        have r2 : W0.rangeAt b2 (o2 + k * 9) (bn y) := (by rw [hE.out]; exact R2)
        have g1' : b1 < W0.heap.size := (by rw [hE.out]; exact g1)
        have g2' : b2 < W0.heap.size := (by rw [hE.out]; exact g2)
        have hB' : Below w.heap.size w W0 := (by rw [hE.out]; exact hB)
        clear hE R1 R2 g1 g2 hB
        refine wpQuiet_split 3 ?_
        simp only [List.take_succ_cons, List.take_zero, List.drop_succ_cons, List.drop_zero]
        repeat (go_big_quiet_step (fail))
        refine wpQuiet_nil ?_
        refine wpQuiet_load_range 28 (.tmp 19) b1 (o1 + k * 9) (bn x) (fun W hW => by obtain ⟨x', rfl⟩ := hW; exact range_below g1' r1 x'.ok) _ (by kernel_rfl) rfl (by kernel_rfl) Tryd.underlying28 rfl (by kernel_rfl) ?_
        conv => arg 6; simp [Act.put]
        refine wpQuiet_split 3 ?_
        simp only [List.take_succ_cons, List.take_zero, List.drop_succ_cons, List.drop_zero]
        repeat (go_big_quiet_step (fail))
        refine wpQuiet_nil ?_
        refine wpQuiet_load_range 28 (.tmp 23) b2 (o2 + k * 9) (bn y) (fun W hW => by obtain ⟨x', rfl⟩ := hW; exact range_below g2' r2 x'.ok) _ (by kernel_rfl) rfl (by kernel_rfl) Tryd.underlying28 rfl (by kernel_rfl) ?_
        conv => arg 6; simp [Act.put]
        repeat (go_big_quiet_step (fail))
        refine wpQuiet_nil ?_
        rintro _ ⟨x', rfl⟩
        have hB2 := bt hB' x'.ok
        obtain ⟨u, hu⟩ : ∃ u, u = x'.wd := ⟨_, rfl⟩
        rw [← hu] at hB2 ⊢
        clear hu x' hN r1 r2 g1' g2' hB' E
        cases q
        · go_wp2
          go_ret
          refine ⟨?_, hB2⟩
          rw [sameL_no (fun e => by subst e; have h3 := HQ.out; rw [HX.out, HY.out] at h3; exact absurd ((eqB_iff _ _).2 rfl) (by rw [h3]; decide))]
          rfl
        · go_wp2
          go_roundw
          case rel => exact ⟨k + 1, by go_num, by omega, Lib.hid (takeB_succ hlt hlm hE0.out (by rw [← HX.out, ← HY.out]; exact (eqB_iff _ _).1 HQ.out)), hB2⟩
          case measure => simp [intOf]; omega
      · obtain rfl : k = l.length := by omega
        have e : l = m := by
          have := hE0.out
          rwa [List.take_length, HL.out, List.take_length] at this
        have hs : sameL l m = true := (sameL_iff l m).2 e
        have HS := Lib.hid hs
        clear hs e
        go_wp2
        go_ret
        exact ⟨by rw [HS.out]; rfl, hB⟩
  · have q1 : ((l.length : Int) != (m.length : Int)) = true := by simp; omega
    rw [sameL_no (fun e => hlen (by rw [e]))]
    clear hlen
    go_enter Tryd.func16, Tryd.ntmps16
    go_wp2
    go_ret
    exact ⟨rfl, Below.refl _ _⟩
end Go.Proofs.YtahopnlibmiafaaDoor
