/- Parts of a proof, printed by a program of mine out of my texts: RpKnC, RpTxF, RpKnw. -/
import Derived.Test.YthfmkkkdjgkaoaaGreatDoorMG
import Derived.Test.YthfmkkkdjgkaoaaGreatDoorMK
import Derived.Test.YthfmkkkdjgkaoaaGreatDoorMT
import Derived.Test.YthfmkkkdjgkaoaaGreatDoorMW
import Derived.Test.YthfmkkkdjgkaoaaGreatDoorMY
set_option linter.unusedSimpArgs false
set_option linter.unusedVariables false
namespace Go.Proofs.YthfmkkkdjgkaoaaGreatDoor
open Go.RowKit
set_option maxRecDepth 100000 in
set_option maxHeartbeats 1600000 in
theorem lcnt_any (prio : Int) (hp : prioC bs0 ls0 prio = 0) (a : Option Addr) (cap : Nat) (want : List Int) (hw : want.length ≤ 1000) (w : World) (hT : FTab w) (hrow : SRow ic 1 w a cap want) :
    Calls Tryz.prog 48 #[.int .i64 prio, .slice a want.length cap] w fun e w' => e = .returned (.bool (decide (couR bs0 ls0 prio = want))) ∧ Below w.heap.size w w' := by
  have gc : ∀ W a1 a2, Below w.heap.size w W → SRow bn 9 W a1 2 bs0 → SRow oc 7 W a2 7 ls0 → Calls Tryz.prog 25 #[.slice a1 2 2, .slice a2 7 7, .int .i64 prio] W fun e w' => ∃ a cap, e = .returned (.tuple #[.slice a (couR bs0 ls0 prio).length cap, .int .i64 0]) ∧ SRow ic 1 w' a cap (couR bs0 ls0 prio) ∧ Below W.heap.size W w' := fun W a1 a2 hB h1 h2 => by
    have h := pcounts_any a1 a2 2 7 bs0 ls0 prio (fun x hx => (bs0_da x hx).1) W (hT.on hB) h1 h2
    rw [hp] at h
    exact h
  have hcl : (couR bs0 ls0 prio).length ≤ 100000 := by unfold couR; split <;> simp [couO]
  obtain ⟨C, hC⟩ : ∃ C, couR bs0 ls0 prio = C := ⟨_, rfl⟩
  simp only [hC] at gc
  rw [hC] at hcl ⊢
  have GC := Lib.hid gc
  have GS : Hid (∀ W a1 c1, Below w.heap.size w W → SRow ic 1 W a1 c1 C → Calls Tryz.prog 29 #[.slice a1 C.length c1, .slice a want.length cap] W fun e w' => e = .returned (.bool (decide (C = want))) ∧ Below W.heap.size W w') := Lib.hid fun W a1 c1 hB h1 => sameZ_any a1 a c1 cap C want hcl (by omega) W h1 (hrow.below hB)
  obtain ⟨q, hq⟩ : ∃ q, decide (C = want) = q := ⟨_, rfl⟩
  rw [hq] at GS ⊢
  clear gc hC hcl hq hrow hT hp
  go_enter Tryz.func48, Tryz.ntmps48
  go_wp2_with (first
    | (go_at_call 26; (with_reducible refine (bundles_any _).mono ?_); rintro e w1 ⟨a1, rfl, hs1, h1⟩; (have hs1 := Lib.hid hs1))
    | (go_at_call 27; (with_reducible refine (outcomes_any _).mono ?_); rintro e w2 ⟨a2, rfl, hs2, h2⟩; (have hs2 := Lib.hid hs2))
    | (go_at_call 25; (with_reducible refine (GC.out _ _ _ (bt h1 h2) (hs1.out.below h2) hs2.out).mono ?_); rintro e w3 ⟨a3, c3, rfl, hs3, h3⟩; (have hs3 := Lib.hid hs3))
    | (go_at_call 29; (with_reducible refine (GS.out _ _ _ (bt (bt h1 h2) h3) hs3.out).mono ?_); rintro e w4 ⟨rfl, h4⟩))
  go_ret
  exact ⟨rfl, bt (bt (bt h1 h2) h3) h4⟩
theorem kn_1 : prioC bs0 ls0 2 = 0 ∧ couR bs0 ls0 2 = [1, 0, 0, 1, 0, 0] := by decide +kernel
theorem kn_2 : prioC bs0 ls0 (-1) = 0 ∧ couR bs0 ls0 (-1) = [2, 0, 1, 1, 0, 0] := by decide +kernel
theorem kn_3 : prioC bs0 ls0 0 = 0 ∧ couR bs0 ls0 0 = [0, 0, 0, 0, 0, 0] := by decide +kernel
theorem kn_4 : prioC bs0 ls0 3 = 2 := by decide +kernel
theorem kn_5 : dv (latD bs0 ls0 2) = #[.int .i64 0, .int .i64 0, .int .i64 0, .int .i64 0, .int .i64 0] := by kernel_rfl
theorem kn_6 : nodC bs0 ls0 1 = 0 ∧ stpR bs0 ls0 1 = [(1, 13), (2, 26), (3, 13), (12, 0)] := by decide +kernel
theorem kn_7 : nodC bs0 ls0 3 = 0 ∧ stpR bs0 ls0 3 = [] := by decide +kernel
theorem kn_8 : nodC bs0 ls0 0 = 2 ∧ pkR bs0 ls0 1 = (2, 26) := by decide +kernel
theorem kn_9 : (runC bs0 ls0).1 = 0 ∧ faiP bs0 ls0 = (1, 1) := by decide +kernel
theorem kn_11 : txtO bs0 szB ls0 = [112, 114, 105, 111, 32, 48, 32, 48, 32, 48, 32, 48, 32, 48, 32, 48, 32, 48, 32, 48, 32, 48, 32, 48, 32, 48, 32, 48, 10, 112, 114, 105, 111, 32, 49, 32, 49, 32, 48, 32, 49, 32, 48, 32, 48, 32, 48, 32, 49, 32, 52, 32, 52, 32, 52, 32, 52, 10, 112, 114, 105, 111, 32, 50, 32, 49, 32, 48, 32, 48, 32, 49, 32, 48, 32, 48, 32, 48, 32, 48, 32, 48, 32, 48, 32, 48, 10, 110, 111, 100, 101, 32, 49, 32, 50, 32, 50, 54, 10, 110, 111, 100, 101, 32, 50, 32, 51, 32, 49, 51, 10, 102, 97, 105, 114, 110, 101, 115, 115, 32, 49, 32, 49, 10] := by decide +kernel
theorem kn_10 : runC (bs0.take 1) ls0 = (8, 1) := by decide +kernel
end Go.Proofs.YthfmkkkdjgkaoaaGreatDoor
namespace Go.Proofs.YthfmkkkdjgkaoaaGreatDoor
open Go.RowKit
open Go.Lib (byteCells)
theorem bs0_dm : ∀ x ∈ bs0, x.da.size ≤ maxLen := fun x hx => (bs0_da x hx).1
theorem kLate {w : World} {a1 a2 : Option Addr} (hT : FTab w) (h1 : SRow bn 9 w a1 2 bs0) (h2 : SRow oc 7 w a2 7 ls0) : Calls Tryz.prog 28 #[.slice a1 2 2, .slice a2 7 7, .int .i64 2] w fun e w' => e = .returned (.tuple #[.agg #[.int .i64 0, .int .i64 0, .int .i64 0, .int .i64 0, .int .i64 0], .int .i64 0]) ∧ Below w.heap.size w w' := by
  have h := plate_any a1 a2 2 7 bs0 ls0 2 bs0_dm w hT h1 h2
  rw [kn_5, kn_1.1] at h
  exact h
theorem kStp1 {w : World} {a1 a2 : Option Addr} (hT : FTab w) (hH : HTab w) (h1 : SRow bn 9 w a1 2 bs0) (h2 : SRow oc 7 w a2 7 ls0) : Calls Tryz.prog 9 #[.slice a1 2 2, .slice a2 7 7, .int .i64 1] w fun e w' => ∃ a cap, e = .returned (.tuple #[.slice a 4 cap, .int .i64 0]) ∧ SRow lc 2 w' a cap [(1, 13), (2, 26), (3, 13), (12, 0)] ∧ Below w.heap.size w w' := by
  have h := psteps2_any a1 a2 2 7 bs0 ls0 1 bs0_da w hT hH h1 h2
  rw [kn_6.1, kn_6.2] at h
  refine h.mono ?_
  rintro e w' ⟨v, rfl, ho, hb⟩
  obtain ⟨a, c, rfl, hs, _⟩ := srow_of_owns lc_len ho
  exact ⟨a, c, rfl, hs, hb⟩
theorem kStp3 {w : World} {a1 a2 : Option Addr} (hT : FTab w) (hH : HTab w) (h1 : SRow bn 9 w a1 2 bs0) (h2 : SRow oc 7 w a2 7 ls0) : Calls Tryz.prog 9 #[.slice a1 2 2, .slice a2 7 7, .int .i64 3] w fun e w' => ∃ a cap, e = .returned (.tuple #[.slice a 0 cap, .int .i64 0]) ∧ Below w.heap.size w w' := by
  have h := psteps2_any a1 a2 2 7 bs0 ls0 3 bs0_da w hT hH h1 h2
  rw [kn_7.1, kn_7.2] at h
  refine h.mono ?_
  rintro e w' ⟨v, rfl, ho, hb⟩
  obtain ⟨a, c, rfl, hs, _⟩ := srow_of_owns lc_len ho
  exact ⟨a, c, rfl, hb⟩
theorem kn_8b : nodC bs0 ls0 0 = 2 ∧ stpR bs0 ls0 0 = [] := by decide +kernel
theorem kn_4b : couR bs0 ls0 3 = [] := by decide +kernel
theorem kStp0 {w : World} {a1 a2 : Option Addr} (hT : FTab w) (hH : HTab w) (h1 : SRow bn 9 w a1 2 bs0) (h2 : SRow oc 7 w a2 7 ls0) : Calls Tryz.prog 9 #[.slice a1 2 2, .slice a2 7 7, .int .i64 0] w fun e w' => ∃ a cap, e = .returned (.tuple #[.slice a 0 cap, .int .i64 2]) ∧ Below w.heap.size w w' := by
  have h := psteps2_any a1 a2 2 7 bs0 ls0 0 bs0_da w hT hH h1 h2
  rw [kn_8b.1, kn_8b.2] at h
  refine h.mono ?_
  rintro e w' ⟨v, rfl, ho, hb⟩
  obtain ⟨a, c, rfl, hs, _⟩ := srow_of_owns lc_len ho
  exact ⟨a, c, rfl, hb⟩
theorem kPk {w : World} {a1 a2 : Option Addr} (hT : FTab w) (hH : HTab w) (h1 : SRow bn 9 w a1 2 bs0) (h2 : SRow oc 7 w a2 7 ls0) : Calls Tryz.prog 12 #[.slice a1 2 2, .slice a2 7 7, .int .i64 1] w fun e w' => e = .returned (.tuple #[.agg #[.int .i64 2, .int .u64 26], .int .i64 0]) ∧ Below w.heap.size w w' := by
  have h := ppeak_any a1 a2 2 7 bs0 ls0 1 bs0_da w hT hH h1 h2
  rw [kn_6.1, kn_8.2] at h
  exact h
theorem kFai {w : World} {a1 a2 : Option Addr} (hT : FTab w) (h1 : SRow bn 9 w a1 2 bs0) (h2 : SRow oc 7 w a2 7 ls0) : Calls Tryz.prog 14 #[.slice a1 2 2, .slice a2 7 7] w fun e w' => e = .returned (.tuple #[.int .u64 1, .int .u64 1, .int .i64 0]) ∧ Below w.heap.size w w' := by
  have h := pfairness_any a1 a2 2 7 bs0 ls0 bs0_dm w hT h1 h2
  rw [kn_9.1, kn_9.2] at h
  exact h
theorem kCou {w : World} {a1 a2 : Option Addr} (hT : FTab w) (h1 : SRow bn 9 w a1 2 bs0) (h2 : SRow oc 7 w a2 7 ls0) : Calls Tryz.prog 25 #[.slice a1 2 2, .slice a2 7 7, .int .i64 3] w fun e w' => ∃ a cap, e = .returned (.tuple #[.slice a 0 cap, .int .i64 2]) ∧ Below w.heap.size w w' := by
  have h := pcounts_any a1 a2 2 7 bs0 ls0 3 bs0_dm w hT h1 h2
  rw [kn_4, kn_4b] at h
  refine h.mono ?_
  rintro e w' ⟨a, c, rfl, _, hb⟩
  exact ⟨a, c, rfl, hb⟩
theorem srow_one {w : World} {a : Option Addr} (h : SRow bn 9 w a 2 bs0) : SRow bn 9 w a 2 (bs0.take 1) := by
  obtain ⟨h1, h2, h3, h4⟩ := h
  refine ⟨by decide, h2, h3, fun _ => ?_⟩
  obtain ⟨b, off, e, hl, hc⟩ := h4 (by decide)
  exact ⟨b, off, e, hl, fun i hi => by
    obtain rfl : i = 0 := by have h9 : (bs0.take 1).length = 1 := rfl; omega
    exact hc 0 (by decide)⟩
theorem kChk {w : World} {a1 a2 : Option Addr} (hT : FTab w) (h1 : SRow bn 9 w a1 2 bs0) (h2 : SRow oc 7 w a2 7 ls0) : Calls Tryz.prog 47 #[.slice a1 1 2, .slice a2 7 7] w fun e w' => e = .returned (.tuple #[.int .i64 8, .int .i64 1]) ∧ Below w.heap.size w w' := by
  have h := rcheck_any a1 a2 2 7 (bs0.take 1) ls0 (fun x hx => bs0_dm x (List.mem_of_mem_take hx)) w hT (srow_one h1) h2
  rw [kn_10] at h
  exact h
theorem bdr {W w' : World} (h : Below W.drew.heap.size W.drew w') : Below W.heap.size W w' := (Below.refl W.heap.size W).drew.trans h
theorem kWant {w : World} {g : Nat} (prio : Int) (want : List Int) {c : Array Value} (e : c = (rowC ic want).toArray) (hn : want.length = 6) (h1 : prioC bs0 ls0 prio = 0) (h2 : couR bs0 ls0 prio = want) (hT : FTab w) (hb : blk w g = some c) :
    Calls Tryz.prog 48 #[.int .i64 prio, .slice (some ⟨g, 0, none⟩) 6 6] w fun e w' => e = .returned (.bool true) ∧ Below w.heap.size w w' := by
  have h := lcnt_any prio h1 (some ⟨g, 0, none⟩) 6 want (by omega) w hT (by have := srow_blkG (l := want) ic_len hb e (by omega); rwa [hn] at this)
  rw [hn, decide_eq_true h2] at h
  exact h
theorem kSame {w : World} {a : Option Addr} {c g : Nat} (h1 : SRow lc 2 w a c [(1, 13), (2, 26), (3, 13), (12, 0)]) (hb : blk w g = some #[.int .i64 1, .int .u64 13, .int .i64 2, .int .u64 26, .int .i64 3, .int .u64 13, .int .i64 12, .int .u64 0]) : Calls Tryz.prog 11 #[.slice a 4 c, .slice (some ⟨g, 0, none⟩) 4 4] w fun e w' => e = .returned (.bool true) ∧ Below w.heap.size w w' :=
  sameLd_any a (some ⟨g, 0, none⟩) c 4 [(1, 13), (2, 26), (3, 13), (12, 0)] [(1, 13), (2, 26), (3, 13), (12, 0)] (by decide) (by decide) w h1 (srow_blkG lc_len hb rfl (by decide))
set_option maxRecDepth 100000 in
set_option maxHeartbeats 12800000 in
theorem reportKnown_any (w : World) (hT : FTab w) (hH : HTab w) (hP : Lib.TabBelow Tryz.prog w.heap.size w powNm .u64 Lib.pow10Tab) : Calls Tryz.prog 20 #[] w fun e w' => e = .returned (.bool true) ∧ Below w.heap.size w w' := by
  have HT : Hid (∀ W, Below w.heap.size w W → FTab W) := Lib.hid fun W hB => hT.on hB
  have HH : Hid (∀ W, Below w.heap.size w W → HTab W) := Lib.hid fun W hB => hH.on hB
  have HP : Hid (∀ W, Below w.heap.size w W → Lib.TabBelow Tryz.prog W.heap.size W powNm .u64 Lib.pow10Tab) := Lib.hid fun W hB => Lib.tabBelow_of_tabIs (hP.on hB).here
  clear hT hH hP
  obtain ⟨T, hTx⟩ : ∃ T : ByteArray, T = ⟨(txtO bs0 szB ls0).toArray⟩ := ⟨_, rfl⟩
  have HTX := Lib.hid hTx
  clear hTx
  have GTX : Hid (∀ W a1 a2, Below w.heap.size w W → SRow bn 9 W a1 2 bs0 → SRow oc 7 W a2 7 ls0 → Calls Tryz.prog 16 #[.slice a1 2 2, .slice a2 7 7] W fun e w' => e = .returned (.tuple #[.string T, .int .i64 0]) ∧ Below W.heap.size W w') := Lib.hid fun W a1 a2 hB h1 h2 => by
    rw [HTX.out]
    exact ptext_ok a1 a2 2 7 bs0 ls0 (runC_zero kn_9.1) kn_9.1 bs0_da W (HT.out W hB) (HH.out W hB) (HP.out W hB) h1 h2
  have B0 := Lib.hid (Below.refl w.heap.size w)
  go_enter Tryz.func20, Tryz.ntmps20
  go_upto_region 2 with (first
    | (go_at_call 26; (with_reducible refine (bundles_any _).mono ?_); rintro e v1 ⟨a1, rfl, hs1, h1⟩; (have hs1 := Lib.hid hs1))
    | (go_at_call 27; (with_reducible refine (outcomes_any _).mono ?_); rintro e v2 ⟨a2, rfl, hs2, h2⟩; (have hs2 := Lib.hid hs2))
    | (go_at_call 28; (with_reducible refine (kLate (HT.out _ (bt B0.out (bt h1 h2))) (hs1.out.below h2) hs2.out).mono ?_); rintro e v3 ⟨rfl, h3⟩))
  have B1 := Lib.hid (bt B0.out (bt h1 (bt h2 h3)))
  refine wp_freshT v3.heap.size #[.int .i64 0, .int .i64 0, .int .i64 0, .int .i64 0, .int .i64 0] (by (apply blk_to; (focus (repeat (first | (with_reducible assumption) | (with_reducible apply blk_drew) | (with_reducible apply blk_set) | ((with_reducible apply blk_other'); (first | (focus (dsimp only; assumption)) | (focus (simp; done)) | (focus (dsimp only; omega)))) | ((with_reducible apply blk_alloc_new); (first | (with_reducible rfl) | (focus (simp; done)) | (focus (simp; omega)))) | (with_reducible apply blk_alloc) | ((with_reducible apply blk_below); (with_reducible assumption))))); rfl)) (by (repeat (first | (with_reducible assumption) | (with_reducible exact Below.refl _ _) | (with_reducible refine beld_drew ?_) | ((with_reducible refine bset' ?_ ?_); (first | (focus (dsimp only; assumption)) | (focus (simp; done)) | (focus (dsimp only; omega)))) | (with_reducible refine belt_alloc ?_) | ((with_reducible refine zeroed_below' ?_ ?_); (first | (focus (simp; done)) | (focus (dsimp only; omega)))) | (with_reducible refine bt ?_ (by assumption)))) : Below v3.heap.size v3 _) ?_
  intro u1 kd h9
  have B2 := Lib.hid (bt B1.out h9)
  clear h1 h2 h3 hs1 hs2 B1 B0
  obtain ⟨d, hd⟩ : ∃ d, d = v3.heap.size := ⟨_, rfl⟩
  rw [← hd] at kd ⊢
  clear hd h9
  go_upto_region 3 with (first
    | (go_at_call 26; (with_reducible refine (bundles_any _).mono ?_); rintro e v1 ⟨a1, rfl, hs1, h1⟩; (have hs1 := Lib.hid hs1))
    | (go_at_call 27; (with_reducible refine (outcomes_any _).mono ?_); rintro e v2 ⟨a2, rfl, hs2, h2⟩; (have hs2 := Lib.hid hs2))
    | (go_at_call 9; (with_reducible refine (kStp1 (HT.out _ (bt B2.out (bt h1 h2))) (HH.out _ (bt B2.out (bt h1 h2))) (hs1.out.below h2) hs2.out).mono ?_); rintro e v3 ⟨a3, c3, rfl, hs3, h3⟩))
  have h4 := bt h1 (bt h2 h3)
  have B3 := Lib.hid (bt B2.out h4)
  have KD3 := Lib.hid (blk_below h4 kd)
  have HS3 := Lib.hid hs3
  clear h1 h2 h3 h4 hs1 hs2 hs3 B2 kd
  go_upto_region 4 with (first
    | (go_at_call 26; (with_reducible refine (bundles_any _).mono ?_); rintro e v1 ⟨a1, rfl, hs1, h1⟩; (have hs1 := Lib.hid hs1))
    | (go_at_call 27; (with_reducible refine (outcomes_any _).mono ?_); rintro e v2 ⟨a2, rfl, hs2, h2⟩; (have hs2 := Lib.hid hs2))
    | (go_at_call 9; (with_reducible refine (kStp3 (HT.out _ (bt B3.out (bt h1 h2))) (HH.out _ (bt B3.out (bt h1 h2))) (hs1.out.below h2) hs2.out).mono ?_); rintro e v3 ⟨a4, c4, rfl, h3⟩))
  have h4 := bt h1 (bt h2 h3)
  have B4 := Lib.hid (bt B3.out h4)
  have KD4 := Lib.hid (blk_below h4 KD3.out)
  have HS4 := Lib.hid (HS3.out.below h4)
  clear h1 h2 h3 h4 hs1 hs2 B3 KD3 HS3
  go_upto_region 5 with (first
    | (go_at_call 26; (with_reducible refine (bundles_any _).mono ?_); rintro e v1 ⟨a1, rfl, hs1, h1⟩; (have hs1 := Lib.hid hs1))
    | (go_at_call 27; (with_reducible refine (outcomes_any _).mono ?_); rintro e v2 ⟨a2, rfl, hs2, h2⟩; (have hs2 := Lib.hid hs2))
    | (go_at_call 12; (with_reducible refine (kPk (HT.out _ (bt B4.out (bt h1 h2))) (HH.out _ (bt B4.out (bt h1 h2))) (hs1.out.below h2) hs2.out).mono ?_); rintro e v3 ⟨rfl, h3⟩))
  have h4 := bt h1 (bt h2 h3)
  refine wp_freshT v3.heap.size #[.int .i64 2, .int .u64 26] (by (apply blk_to; (focus (repeat (first | (with_reducible assumption) | (with_reducible apply blk_drew) | (with_reducible apply blk_set) | ((with_reducible apply blk_other'); (first | (focus (dsimp only; assumption)) | (focus (simp; done)) | (focus (dsimp only; omega)))) | ((with_reducible apply blk_alloc_new); (first | (with_reducible rfl) | (focus (simp; done)) | (focus (simp; omega)))) | (with_reducible apply blk_alloc) | ((with_reducible apply blk_below); (with_reducible assumption))))); rfl)) (by (repeat (first | (with_reducible assumption) | (with_reducible exact Below.refl _ _) | (with_reducible refine beld_drew ?_) | ((with_reducible refine bset' ?_ ?_); (first | (focus (dsimp only; assumption)) | (focus (simp; done)) | (focus (dsimp only; omega)))) | (with_reducible refine belt_alloc ?_) | ((with_reducible refine zeroed_below' ?_ ?_); (first | (focus (simp; done)) | (focus (dsimp only; omega)))) | (with_reducible refine bt ?_ (by assumption)))) : Below v3.heap.size v3 _) ?_
  intro u5 kp h9
  have h5 := bt h4 h9
  have B5 := Lib.hid (bt B4.out h5)
  have KD5 := Lib.hid (blk_below h5 KD4.out)
  have HS5 := Lib.hid (HS4.out.below h5)
  clear h1 h2 h3 h4 h5 hs1 hs2 B4 KD4 HS4
  obtain ⟨p, hp⟩ : ∃ d, d = v3.heap.size := ⟨_, rfl⟩
  rw [← hp] at kp ⊢
  have KP5 := Lib.hid kp
  clear hp h9 kp
  go_upto_region 6 with (first
    | (go_at_call 26; (with_reducible refine (bundles_any _).mono ?_); rintro e v1 ⟨a1, rfl, hs1, h1⟩; (have hs1 := Lib.hid hs1))
    | (go_at_call 27; (with_reducible refine (outcomes_any _).mono ?_); rintro e v2 ⟨a2, rfl, hs2, h2⟩; (have hs2 := Lib.hid hs2))
    | (go_at_call 14; (with_reducible refine (kFai (HT.out _ (bt B5.out (bt h1 h2))) (hs1.out.below h2) hs2.out).mono ?_); rintro e v3 ⟨rfl, h3⟩))
  have h4 := bt h1 (bt h2 h3)
  have B6 := Lib.hid (bt B5.out h4)
  have KD6 := Lib.hid (blk_below h4 KD5.out)
  have KP6 := Lib.hid (blk_below h4 KP5.out)
  have HS6 := Lib.hid (HS5.out.below h4)
  clear h1 h2 h3 h4 hs1 hs2 B5 KD5 KP5 HS5
  go_upto_region 7 with (first
    | (go_at_call 26; (with_reducible refine (bundles_any _).mono ?_); rintro e v1 ⟨a1, rfl, hs1, h1⟩; (have hs1 := Lib.hid hs1))
    | (go_at_call 27; (with_reducible refine (outcomes_any _).mono ?_); rintro e v2 ⟨a2, rfl, hs2, h2⟩; (have hs2 := Lib.hid hs2))
    | (go_at_call 25; (with_reducible refine (kCou (HT.out _ (bt B6.out (bt h1 h2))) (hs1.out.below h2) hs2.out).mono ?_); rintro e v3 ⟨a7, c7, rfl, h3⟩))
  have h4 := bt h1 (bt h2 h3)
  have B7 := Lib.hid (bt B6.out h4)
  have KD7 := Lib.hid (blk_below h4 KD6.out)
  have KP7 := Lib.hid (blk_below h4 KP6.out)
  have HS7 := Lib.hid (HS6.out.below h4)
  clear h1 h2 h3 h4 hs1 hs2 B6 KD6 KP6 HS6
  go_upto_region 8 with (first
    | (go_at_call 26; (with_reducible refine (bundles_any _).mono ?_); rintro e v1 ⟨a1, rfl, hs1, h1⟩; (have hs1 := Lib.hid hs1))
    | (go_at_call 27; (with_reducible refine (outcomes_any _).mono ?_); rintro e v2 ⟨a2, rfl, hs2, h2⟩; (have hs2 := Lib.hid hs2))
    | (go_at_call 9; (with_reducible refine (kStp0 (HT.out _ (bt B7.out (bt h1 h2))) (HH.out _ (bt B7.out (bt h1 h2))) (hs1.out.below h2) hs2.out).mono ?_); rintro e v3 ⟨a8, c8, rfl, h3⟩))
  have h4 := bt h1 (bt h2 h3)
  have B8 := Lib.hid (bt B7.out h4)
  have KD8 := Lib.hid (blk_below h4 KD7.out)
  have KP8 := Lib.hid (blk_below h4 KP7.out)
  have HS8 := Lib.hid (HS7.out.below h4)
  clear h1 h2 h3 h4 hs1 hs2 B7 KD7 KP7 HS7
  go_region_held3 (fun _ => True) (trivial) (first
    | (go_at_call 26; (with_reducible refine (bundles_any _).mono ?_); rintro e v1 ⟨a1, rfl, hs1, h1⟩; (obtain ⟨ba, oa, rfl, _⟩ := hs1.2.2.2 (by decide)); (have hs1 := Lib.hid hs1))
    | (go_at_call 27; (with_reducible refine (outcomes_any _).mono ?_); rintro e v2 ⟨a2, rfl, hs2, h2⟩; (have hs2 := Lib.hid hs2))
    | (go_at_call 47; (with_reducible refine (kChk (HT.out _ (bt B8.out (bdr (bt h1 h2)))) (hs1.out.below h2) hs2.out).mono ?_); rintro e u9 ⟨rfl, h3⟩))
  have h4 := bdr (bt h1 (bt h2 h3))
  have B9 := Lib.hid (bt B8.out h4)
  have KD9 := Lib.hid (blk_below h4 KD8.out)
  have KP9 := Lib.hid (blk_below h4 KP8.out)
  have HS9 := Lib.hid (HS8.out.below h4)
  clear h1 h2 h3 h4 hs1 hs2 B8 KD8 KP8 HS8
  go_upto_region 10 with (first
    | (go_at_call 26; (with_reducible refine (bundles_any _).mono ?_); rintro e v1 ⟨a1, rfl, hs1, h1⟩; (have hs1 := Lib.hid hs1))
    | (go_at_call 27; (with_reducible refine (outcomes_any _).mono ?_); rintro e v2 ⟨a2, rfl, hs2, h2⟩; (have hs2 := Lib.hid hs2))
    | (go_at_call 16; (with_reducible refine (GTX.out _ _ _ (bt B9.out (bt h1 h2)) (hs1.out.below h2) hs2.out).mono ?_); rintro e v3 ⟨rfl, h3⟩))
  have h4 := bt h1 (bt h2 h3)
  have B10 := Lib.hid (bt B9.out h4)
  have KD10 := Lib.hid (blk_below h4 KD9.out)
  have KP10 := Lib.hid (blk_below h4 KP9.out)
  have HS10 := Lib.hid (HS9.out.below h4)
  clear h1 h2 h3 h4 hs1 hs2 B9 KD9 KP9 HS9 GTX
  go_upto_region 11 with (first
    | (go_at_call 48; (with_reducible refine (kWant (g := v3.heap.size) 2 [1, 0, 0, 1, 0, 0] (c := #[.int .i64 1, .int .i64 0, .int .i64 0, .int .i64 1, .int .i64 0, .int .i64 0]) rfl (by decide) kn_1.1 kn_1.2 (HT.out _ (B10.out.alloc B10.out.size _)) (blk_alloc_new _ _ _ rfl)).mono ?_); rintro e y1 ⟨rfl, i1⟩; (have j1 : Below v3.heap.size v3 y1 := (by (repeat (first | (with_reducible assumption) | (with_reducible exact Below.refl _ _) | (with_reducible refine beld_drew ?_) | ((with_reducible refine bset' ?_ ?_); (first | (focus (dsimp only; assumption)) | (focus (simp; done)) | (focus (dsimp only; omega)))) | (with_reducible refine belt_alloc ?_) | ((with_reducible refine zeroed_below' ?_ ?_); (first | (focus (simp; done)) | (focus (dsimp only; omega)))) | (with_reducible refine bt ?_ (by assumption)))))))
    | (go_at_call 48; (with_reducible refine (kWant (g := y1.heap.size) (-1) [2, 0, 1, 1, 0, 0] (c := #[.int .i64 2, .int .i64 0, .int .i64 1, .int .i64 1, .int .i64 0, .int .i64 0]) rfl (by decide) kn_2.1 kn_2.2 (HT.out _ ((bt B10.out j1).alloc (bt B10.out j1).size _)) (blk_alloc_new _ _ _ rfl)).mono ?_); rintro e y2 ⟨rfl, i2⟩; (have j2 : Below v3.heap.size v3 y2 := bt j1 (by (repeat (first | (with_reducible assumption) | (with_reducible exact Below.refl _ _) | (with_reducible refine beld_drew ?_) | ((with_reducible refine bset' ?_ ?_); (first | (focus (dsimp only; assumption)) | (focus (simp; done)) | (focus (dsimp only; omega)))) | (with_reducible refine belt_alloc ?_) | ((with_reducible refine zeroed_below' ?_ ?_); (first | (focus (simp; done)) | (focus (dsimp only; omega)))) | (with_reducible refine bt ?_ (by assumption)))))))
    | (go_at_call 48; (with_reducible refine (kWant (g := y2.heap.size) 0 [0, 0, 0, 0, 0, 0] (c := #[.int .i64 0, .int .i64 0, .int .i64 0, .int .i64 0, .int .i64 0, .int .i64 0]) rfl (by decide) kn_3.1 kn_3.2 (HT.out _ ((bt B10.out j2).alloc (bt B10.out j2).size _)) (blk_alloc_new _ _ _ rfl)).mono ?_); rintro e y3 ⟨rfl, i3⟩; (have j3 : Below v3.heap.size v3 y3 := bt j2 (by (repeat (first | (with_reducible assumption) | (with_reducible exact Below.refl _ _) | (with_reducible refine beld_drew ?_) | ((with_reducible refine bset' ?_ ?_); (first | (focus (dsimp only; assumption)) | (focus (simp; done)) | (focus (dsimp only; omega)))) | (with_reducible refine belt_alloc ?_) | ((with_reducible refine zeroed_below' ?_ ?_); (first | (focus (simp; done)) | (focus (dsimp only; omega)))) | (with_reducible refine bt ?_ (by assumption))))))))
  have B11 := Lib.hid (bt B10.out j3)
  have KD11 := Lib.hid (blk_below j3 KD10.out)
  have KP11 := Lib.hid (blk_below j3 KP10.out)
  have HS11 := Lib.hid (HS10.out.below j3)
  clear i1 i2 i3 j1 j2 j3 B10 KD10 KP10 HS10
  have np := kn KP11.out
  go_upto_region 12 with (go_at_call 11; (with_reducible refine (kSame (g := y3.heap.size) (HS11.out.below ((Below.refl _ _).alloc (Nat.le_refl _) _)) (blk_alloc_new _ _ _ rfl)).mono ?_); rintro e y4 ⟨rfl, i4⟩; (have j4 : Below y3.heap.size y3 y4 := (by (repeat (first | (with_reducible assumption) | (with_reducible exact Below.refl _ _) | (with_reducible refine beld_drew ?_) | ((with_reducible refine bset' ?_ ?_); (first | (focus (dsimp only; assumption)) | (focus (simp; done)) | (focus (dsimp only; omega)))) | (with_reducible refine belt_alloc ?_) | ((with_reducible refine zeroed_below' ?_ ?_); (first | (focus (simp; done)) | (focus (dsimp only; omega)))) | (with_reducible refine bt ?_ (by assumption)))))); clear np; (have np := kn (blk_below j4 KP11.out)))
  have B12 := Lib.hid (bt B11.out j4)
  have KD12 := Lib.hid (blk_below j4 KD11.out)
  clear i4 j4 B11 KD11 KP11 HS11 np
  go_upto_region 13 with fail
  have e35 : ∀ W, Sem.run Tryz.prog (binOp BinOp.eql 65 (.agg #[.int .i64 0, .int .i64 0, .int .i64 0, .int .i64 0, .int .i64 0]) (.agg #[.int .i64 0, .int .i64 0, .int .i64 0, .int .i64 0, .int .i64 0])) W = .ok (.bool true) W := fun W => by kernel_rfl
  go_wp2_with (go_at_call 6; (with_reducible refine (awake_any _ (HT.out _ B12.out) (HH.out _ B12.out)).mono ?_); rintro e y5 ⟨rfl, i5⟩; (have nd := kn (blk_below i5 KD12.out)); (have B13 := Lib.hid (bt B12.out i5)); clear i5)
  go_ret
  refine ⟨ret_bool ?_, B13.out⟩
  rw [HTX.out, kn_11]
  kernel_rfl
end Go.Proofs.YthfmkkkdjgkaoaaGreatDoor
