/- Parts of a proof, printed by a program of mine out of my texts: RpLawF. -/
import Derived.Test.YthfmkkkdjgkaoaaDoorMAA
import Derived.Test.YthfmkkkdjgkaoaaDoorMO
import Derived.Test.YthfmkkkdjgkaoaaDoorMX
import Derived.Test.YthfmkkkdjgkaoaaDoorMZ
import Derived.Test.YthfmkkkdjgkaoaaDoorMX9
set_option linter.unusedSimpArgs false
set_option linter.unusedVariables false
namespace Go.Proofs.YthfmkkkdjgkaoaaDoor
open Go.RowKit
theorem made_len (b : List Bn) (l : List Oc) (hb : MkBs b ∧ b.length = 6 ∧ ∀ x ∈ b, x.da.size ≤ 6) (hl : (∃ t, MkOs b l t) ∧ l.length ≤ 30) : RunV b l ∧ ∀ x ∈ b, x.da.size ≤ maxLen ∧ 0 ≤ x.sq := by
  obtain ⟨t, ht⟩ := hl.1
  refine ⟨made_run hb.1 ht (by omega) (by omega), fun x hx => ⟨by have := hb.2.2 x hx; unfold maxLen; omega, ?_⟩⟩
  obtain ⟨i, hi, rfl⟩ := List.getElem_of_mem hx
  rw [hb.1.sq i hi]
  omega
set_option maxRecDepth 100000 in
set_option maxHeartbeats 3200000 in
theorem reportFair_walk (a : Option Addr) (cap : Nat) (zs : List Int) (w : World) (hT : FTab w) (hH : HTab w) (hP : Lib.TabBelow Tryd.prog w.heap.size w powNm .u64 Lib.pow10Tab) (hrow : Row .i64 w a cap zs) :
    Calls Tryd.prog 6 #[.slice a zs.length cap] w fun e w' => e = .returned (.bool true) ∧ Below w.heap.size w w' := by
  have GK := Lib.hid (reportKnown_any w hT hH hP)
  have GM := Lib.hid (fun W (hB : Below w.heap.size w W) => madeB_any a cap zs W (hrow.below hB))
  have HT : Hid (∀ W, Below w.heap.size w W → FTab W) := Lib.hid fun W hB => hT.on hB
  clear hT hH hP hrow
  go_enter Tryd.func6, Tryd.ntmps6
  go_upto_region 3 with (first
    | (go_at_call 4; (with_reducible refine (GK.out).mono ?_); rintro e w1 ⟨rfl, h1⟩)
    | (go_at_call 28; (with_reducible refine (GM.out _ h1).mono ?_); rintro e w2 ⟨b, l, a1, c1, a2, c2, rfl, hb, hl, hs1, hs2, h2⟩))
  obtain ⟨hv, hd⟩ := made_len b l hb hl
  have B2 := bt h1 h2
  have gf := pfairness_any a1 a2 c1 c2 b l (fun x hx => (hd x hx).1) w2 (HT.out _ B2) hs1 hs2
  have hr0 := runC_ok hv
  have hfo : faiP b l = faiO b l := by unfold faiP; rw [hr0]; rfl
  rw [hr0, hfo, hb.2.1] at gf
  obtain ⟨k1, k2, k3, k4⟩ := faiO_ok b l
  obtain ⟨⟨_, m1⟩, _, m2⟩ := fai_bd hv
  obtain ⟨n, hn⟩ : ∃ n, (faiO b l).1 = n := ⟨_, rfl⟩
  obtain ⟨d, hdd⟩ : ∃ n, (faiO b l).2 = n := ⟨_, rfl⟩
  rw [hn, hdd] at gf k4
  rw [hn] at k1 k2 k3 m1
  rw [hdd] at k2 k3 m2
  have GF := Lib.hid gf
  have K4 := Lib.hid k4
  have q0 : ((0 : Int) != 0) = false := rfl
  have q1 : decide (n < 1) = false := decide_eq_false (by omega)
  have q2 : decide (d < n) = false := decide_eq_false (by omega)
  have q4 : IntKind.u64.wrap (16 * n) = 16 * n := IntWalk.u64_in _ (by omega)
  have q3 : decide (16 * n < d) = false := decide_eq_false (by omega)
  clear gf hr0 hfo hn hdd k4 hb hl hs1 hs2 hv hd h2 GK GM HT
  go_wp2_with (go_at_call 24; (with_reducible refine (GF.out).mono ?_); rintro e w3 ⟨rfl, h3⟩; (have B3 := bt B2 h3); clear h3)
  go_loopw [9] (fun s9 wr => ∃ k : Nat, s9 = .int .u64 k ∧ 2 ≤ k ∧ k ≤ 61 ∧ Below w.heap.size w wr) (fun s9 _ => 61 - (intOf s9).toNat)
  case atStart => exact ⟨2, rfl, by omega, by omega, B3⟩
  case round =>
    obtain ⟨k, rfl, hk2, hk61, hB⟩ := hrel
    by_cases hlt : k < 61
    · have hz : (k : Int) ≤ 60 := by omega
      have z0 : ((k : Int) == 0) = false := by simp; omega
      have t1 : n.tmod (k : Int) = n % (k : Int) := Int.tmod_eq_emod_of_nonneg (by omega)
      have t2 : d.tmod (k : Int) = d % (k : Int) := Int.tmod_eq_emod_of_nonneg (by omega)
      have r1 := Int.emod_nonneg n (show (k : Int) ≠ 0 by omega)
      have r2 := Int.emod_lt_of_pos n (show (0 : Int) < k by omega)
      have r3 := Int.emod_nonneg d (show (k : Int) ≠ 0 by omega)
      have r4 := Int.emod_lt_of_pos d (show (0 : Int) < k by omega)
      have nb := K4.out (k : Int) (by omega)
      obtain ⟨x, hx⟩ : ∃ x, n % (k : Int) = x := ⟨_, rfl⟩
      obtain ⟨y, hy⟩ : ∃ x, d % (k : Int) = x := ⟨_, rfl⟩
      rw [hx] at t1 r1 r2 nb
      rw [hy] at t2 r3 r4 nb
      have w1 : IntKind.u64.wrap x = x := IntWalk.u64_in _ (by omega)
      have w2 : IntKind.u64.wrap y = y := IntWalk.u64_in _ (by omega)
      have w3 : IntKind.u64.wrap ((k : Int) + 1) = (k : Int) + 1 := IntWalk.u64_in _ (by omega)
      by_cases hx0 : x = 0
      · have c1 : (x == 0) = true := by simpa using hx0
        have c2 : (y == 0) = false := by have : y ≠ 0 := fun h => nb ⟨hx0, h⟩; simpa using this
        clear nb hx hy hx0 r1 r2 r3 r4
        go_wp2
        go_roundw
        case rel => exact ⟨k + 1, by go_num, by omega, by omega, hB⟩
        case measure => simp [intOf]; omega
      · have c1 : (x == 0) = false := by simpa using hx0
        clear nb hx hy hx0 r1 r2 r3 r4
        go_wp2
        go_roundw
        case rel => exact ⟨k + 1, by go_num, by omega, by omega, hB⟩
        case measure => simp [intOf]; omega
    · have hz : ¬ (k : Int) ≤ 60 := by omega
      go_wp2
      go_ret
      exact ⟨rfl, hB⟩
theorem reportFair_row (a : Option Addr) (len cap : Nat) (zs : List Int) (w : World) (h : IsRow .i64 w a len cap zs) (hP : Lib.TabIs Tryd.prog w powNm .u64 Lib.pow10Tab) (hH : Lib.TabIs Tryd.prog w headsNm .u8 headsTab) (hT : PairIs Tryd.prog w facesNm facesT) :
    Calls Tryd.prog 6 #[.slice a len cap] w fun e w' => e = .returned (.bool true) ∧ Below w.heap.size w w' := by
  obtain ⟨e, hr⟩ := row_of h
  have := reportFair_walk a cap (zs.take len) w (ftab_of hT) (htab_of hH) (Lib.tabBelow_of_tabIs hP) hr
  rw [← e] at this
  exact this
end Go.Proofs.YthfmkkkdjgkaoaaDoor
