/- Parts of a proof, printed by a program of mine out of my texts: RpLawL. -/
import Derived.Test.YthfmkkkdjgkaoaaGreatDoorMAH
import Derived.Test.YthfmkkkdjgkaoaaGreatDoorMO
import Derived.Test.YthfmkkkdjgkaoaaGreatDoorMT
import Derived.Test.YthfmkkkdjgkaoaaGreatDoorMX11
set_option linter.unusedSimpArgs false
set_option linter.unusedVariables false
namespace Go.Proofs.YthfmkkkdjgkaoaaGreatDoor
open Go.RowKit
theorem sq_lo {x : Bn} (h : GdB x) : 0 ≤ x.sq := by
  have := bounds_u64 h.2
  omega
theorem stpR_len (b : List Bn) (l : List Oc) (node : Int) : (stpR b l node).length ≤ 5000 := by
  unfold stpR
  split
  · rename_i h
    rcases nodC_cases b l node with ⟨h1, h2⟩ | ⟨_, _, h2⟩ | ⟨_, _, _, h2⟩ | ⟨h1, _⟩
    · rw [h2] at h; exact absurd h h1
    · rw [h2] at h; cases h
    · rw [h2] at h; cases h
    · have hv := runC_zero h1
      exact Nat.le_trans (stps_len l.length (Nat.le_refl _)) hv.tlen
  · simp
theorem sameLd_self (l : List (Int × Int)) : sameG eqL l l = true := (sameG_iff eqL_iff l l).2 rfl
theorem sameBn_self (l : List Bn) : sameL l l = true := (sameL_iff l l).2 rfl
theorem sameOc_self {l : List Oc} : sameG eqO l l = true := (sameG_iff eqO_iff l l).2 rfl
set_option maxRecDepth 100000 in
set_option maxHeartbeats 6400000 in
theorem reportLoads_walk (ab : Option Addr) (cb : Nat) (b : List Bn) (al : Option Addr) (cl : Nat) (l : List Oc) (node : Int) (w : World) (hb : SRow bn 9 w ab cb b) (hG : ∀ x ∈ b, GdB x) (hl : SRow oc 7 w al cl l) (hGo : ∀ x ∈ l, GdO x) (hT : FTab w) (hH : HTab w) (hP : Lib.TabBelow Tryz.prog w.heap.size w powNm .u64 Lib.pow10Tab) :
    Calls Tryz.prog 3 #[.slice ab b.length cb, .slice al l.length cl, .int .i64 node] w fun e w' => e = .returned (.bool true) ∧ Below w.heap.size w w' := by
  have hd : ∀ x ∈ b, x.da.size ≤ maxLen ∧ 0 ≤ x.sq := fun x hx => ⟨(hG x hx).1, sq_lo (hG x hx)⟩
  have HD := Lib.hid hd; have HB := Lib.hid hb; have HL := Lib.hid hl; have HT := Lib.hid hT; have HH := Lib.hid hH; have HP := Lib.hid hP
  have GLI := Lib.hid (light_any ab al cb cl b l w hb hl)
  have GA := Lib.hid (fun W (hB : Below w.heap.size w W) => awake_any W (hT.on hB) (hH.on hB))
  clear hb hl hT hH hP hG hGo hd
  go_enter Tryz.func3, Tryz.ntmps3
  go_upto_region 1 with fail
  go_upto_if 26 with (go_at_call 5; (with_reducible refine (GLI.out).mono ?_); rintro e w1 ⟨p, rfl, hp, B1⟩)
  cases p
  · go_wp2_with (go_at_call 6; (with_reducible refine (GA.out _ B1).mono ?_); rintro e w2 ⟨rfl, h2⟩)
    go_ret
    exact ⟨rfl, bt B1 h2⟩
  · obtain ⟨hlb, hll⟩ := hp rfl
    clear GLI hp
    have HLB := Lib.hid hlb; have HLL := Lib.hid hll
    clear hlb hll
    go_upto_region 4 with (first
      | (go_at_call 7; (with_reducible refine (own_any ab cb b (by have := HLB.out; omega) _ (HB.out.below B1)).mono ?_); rintro e w2 ⟨v2, rfl, ho2, h2⟩; (obtain ⟨a2, c2, rfl, hS2, _⟩ := srow_of_owns bn_len ho2); (have B2 := bt B1 h2); clear ho2 h2)
      | (go_at_call 8; (with_reducible refine (lownO_any al cl l (by have := HLL.out; omega) _ (HL.out.below B2)).mono ?_); rintro e w3 ⟨v3, rfl, ho3, h3⟩; (obtain ⟨a3, c3, rfl, hS3, _⟩ := srow_of_owns oc_len ho3); (have B3 := bt B2 h3); (have HS3 := Lib.hid (And.intro (hS2.below h3) hS3)); clear ho3 h3 hS2 hS3))
    have hsl := stpR_len b l node
    have g1 := fun W (hW : Below w.heap.size w W) (h1 : SRow bn 9 W a2 c2 b ∧ SRow oc 7 W a3 c3 l) => psteps2_any a2 a3 c2 c3 b l node HD.out W (HT.out.on hW) (HH.out.on hW) h1.1 h1.2
    have g2 := fun W (hW : Below w.heap.size w W) => rsteps43_any ab al cb cl b l node HD.out W (HB.out.below hW) (HL.out.below hW)
    have g3 := fun W (hW : Below w.heap.size w W) (h1 : SRow bn 9 W a2 c2 b ∧ SRow oc 7 W a3 c3 l) => ppeak_any a2 a3 c2 c3 b l node HD.out W (HT.out.on hW) (HH.out.on hW) h1.1 h1.2
    have g4 := fun W (hW : Below w.heap.size w W) => rpeak43_any ab al cb cl b l node HD.out W (HB.out.below hW) (HL.out.below hW)
    have g5 := fun W (hW : Below w.heap.size w W) (h1 : SRow bn 9 W a2 c2 b ∧ SRow oc 7 W a3 c3 l) => pfairness_any a2 a3 c2 c3 b l (fun x hx => (HD.out x hx).1) W (HT.out.on hW) h1.1 h1.2
    have g6 := fun W (hW : Below w.heap.size w W) => rfair43_any ab al cb cl b l (fun x hx => (HD.out x hx).1) W (HB.out.below hW) (HL.out.below hW)
    have g7 := fun W (hW : Below w.heap.size w W) (h1 : SRow bn 9 W a2 c2 b ∧ SRow oc 7 W a3 c3 l) => ptext_any a2 a3 c2 c3 b l HD.out W (HT.out.on hW) (HH.out.on hW) (fun W1 hW1 => HP.out W1 (bt hW hW1)) h1.1 h1.2
    have g8 := fun W (hW : Below w.heap.size w W) => rtext_any ab al cb cl b l HD.out W (HB.out.below hW) (HL.out.below hW)
    obtain ⟨c, hc⟩ : ∃ p, nodC b l node = p := ⟨_, rfl⟩
    obtain ⟨r, hr⟩ : ∃ p, (runC b l).1 = p := ⟨_, rfl⟩
    obtain ⟨S, hS⟩ : ∃ S, stpR b l node = S := ⟨_, rfl⟩
    obtain ⟨p1, hp1⟩ : ∃ p, (pkR b l node).1 = p := ⟨_, rfl⟩
    obtain ⟨p2, hp2⟩ : ∃ p, (pkR b l node).2 = p := ⟨_, rfl⟩
    obtain ⟨f1, hf1⟩ : ∃ p, (faiP b l).1 = p := ⟨_, rfl⟩
    obtain ⟨f2, hf2⟩ : ∃ p, (faiP b l).2 = p := ⟨_, rfl⟩
    obtain ⟨X, hX⟩ : ∃ p, (⟨(txtR b l).toArray⟩ : ByteArray) = p := ⟨_, rfl⟩
    rw [hS] at hsl
    simp only [hc, hS] at g1 g2
    simp only [hc, hp1, hp2] at g3 g4
    simp only [hr, hf1, hf2] at g5 g6
    simp only [hr, hX] at g7 g8
    have gs := fun W a c a' c' (h1 : SRow lc 2 W a c S) (h2 : SRow lc 2 W a' c' S) => sameLd_any a a' c c' S S (by omega) (by omega) W h1 h2
    have gb := fun W (hW : Below w.heap.size w W) (h1 : SRow bn 9 W a2 c2 b) => sameB_any a2 ab c2 cb b b (by have := HLB.out; omega) (by have := HLB.out; omega) W h1 (HB.out.below hW)
    have go := fun W (hW : Below w.heap.size w W) (h1 : SRow oc 7 W a3 c3 l) => unch_any a3 al c3 cl l l (by have := HLL.out; omega) (by have := HLL.out; omega) W h1 (HL.out.below hW)
    simp only [sameLd_self] at gs
    simp only [sameBn_self] at gb
    simp only [sameOc_self] at go
    have G1 := Lib.hid g1; have G2 := Lib.hid g2; have G3 := Lib.hid g3; have G4 := Lib.hid g4; have G5 := Lib.hid g5; have G6 := Lib.hid g6; have G7 := Lib.hid g7; have G8 := Lib.hid g8
    have GS := Lib.hid gs; have GB := Lib.hid gb; have GO := Lib.hid go
    clear g1 g2 g3 g4 g5 g6 g7 g8 gs gb go hc hr hS hp1 hp2 hf1 hf2 hX hsl B1 B2
    clear HD HB HL HT HH HP HLB HLL
    go_upto_region 6 with (first
      | (go_at_call 9; (with_reducible refine (G1.out _ B3 HS3.out).mono ?_); rintro e w4 ⟨v4, rfl, ho4, h4⟩; (obtain ⟨a4, c4, rfl, hs4, _⟩ := srow_of_owns lc_len ho4); (have B4 := bt B3 h4); (have HS4 := Lib.hid (And.intro (HS3.out.1.below h4) (HS3.out.2.below h4))); (have HR4 := Lib.hid hs4); clear ho4 hs4 h4 HS3)
      | (go_at_call 10; (with_reducible refine (G2.out _ B4).mono ?_); rintro e w5 ⟨v5, rfl, ho5, h5⟩; (obtain ⟨a5, c5, rfl, hs5, _⟩ := srow_of_owns lc_len ho5); (have B5 := bt B4 h5); (have HS5 := Lib.hid (And.intro (HS4.out.1.below h5) (HS4.out.2.below h5))); (have HR5 := Lib.hid (And.intro (HR4.out.below h5) hs5)); clear ho5 hs5 h5 HS4 HR4))
    clear B3 B4 G1 G2
    go_upto_region 8 with (go_at_call 11; (with_reducible refine (GS.out _ _ _ _ _ HR5.out.1 HR5.out.2).mono ?_); rintro e w6 ⟨rfl, h6⟩; (have B6 := bt B5 h6); (have HS6 := Lib.hid (And.intro (HS5.out.1.below h6) (HS5.out.2.below h6))); clear h6 HS5)
    clear B5 HR5 GS
    go_upto_region 9 with (go_at_call 12; (with_reducible refine (G3.out _ B6 HS6.out).mono ?_); rintro e w8 ⟨rfl, h8⟩)
    obtain ⟨d1, hd1⟩ : ∃ d, d = w8.heap.size := ⟨_, rfl⟩
    obtain ⟨u1, hu1⟩ : ∃ u, u = w8.alloc (.cells #[.int .i64 p1, .int .u64 p2] 35) := ⟨_, rfl⟩
    have hb8 : Below w6.heap.size w6 u1 := by rw [hu1]; exact h8.alloc h8.size _
    have B8 := bt B6 hb8
    have kb1 : blk u1 d1 = some #[.int .i64 p1, .int .u64 p2] := by rw [hu1, hd1]; exact blk_alloc_new _ _ _ rfl
    have HS8 := Lib.hid (And.intro (HS6.out.1.below hb8) (HS6.out.2.below hb8))
    rw [← hu1, ← hd1]
    clear hu1 hd1 hb8 h8 HS6 B6 G3
    go_upto_region 10 with (go_at_call 13; (with_reducible refine (G4.out _ B8).mono ?_); rintro e w9 ⟨rfl, h9⟩)
    obtain ⟨d2, hd2⟩ : ∃ d, d = w9.heap.size := ⟨_, rfl⟩
    obtain ⟨u2, hu2⟩ : ∃ u, u = w9.alloc (.cells #[.int .i64 p1, .int .u64 p2] 35) := ⟨_, rfl⟩
    have hb9 : Below u1.heap.size u1 u2 := by rw [hu2]; exact h9.alloc h9.size _
    have B9 := bt B8 hb9
    have kb2 : blk u2 d1 = some #[.int .i64 p1, .int .u64 p2] ∧ blk u2 d2 = some #[.int .i64 p1, .int .u64 p2] := by
      refine ⟨blk_below hb9 kb1, ?_⟩
      rw [hu2, hd2]; exact blk_alloc_new _ _ _ rfl
    have HS9 := Lib.hid (And.intro (HS8.out.1.below hb9) (HS8.out.2.below hb9))
    rw [← hu2, ← hd2]
    have KB := Lib.hid kb2
    clear hu2 hd2 hb9 h9 HS8 B8 G4 kb1 kb2
    have n1 := kn KB.out.1
    have n2 := kn KB.out.2
    go_upto_region 12 with fail
    clear n1 n2 KB
    go_upto_region 16 with (first
      | (go_at_call 14; (with_reducible refine (G5.out _ B9 HS9.out).mono ?_); rintro e w10 ⟨rfl, h10⟩; (have B10 := bt B9 h10); (have HS10 := Lib.hid (And.intro (HS9.out.1.below h10) (HS9.out.2.below h10))); clear h10 HS9)
      | (go_at_call 15; (with_reducible refine (G6.out _ B10).mono ?_); rintro e w11 ⟨rfl, h11⟩; (have B11 := bt B10 h11); (have HS11 := Lib.hid (And.intro (HS10.out.1.below h11) (HS10.out.2.below h11))); clear h11 HS10)
      | (go_at_call 16; (with_reducible refine (G7.out _ B11 HS11.out).mono ?_); rintro e w12 ⟨rfl, h12⟩; (have B12 := bt B11 h12); (have HS12 := Lib.hid (And.intro (HS11.out.1.below h12) (HS11.out.2.below h12))); clear h12 HS11)
      | (go_at_call 17; (with_reducible refine (G8.out _ B12).mono ?_); rintro e w13 ⟨rfl, h13⟩; (have B13 := bt B12 h13); (have HS13 := Lib.hid (And.intro (HS12.out.1.below h13) (HS12.out.2.below h13))); clear h13 HS12))
    clear B9 B10 B11 B12 G5 G6 G7 G8
    go_wp2_with (first
      | (go_at_call 18; (with_reducible refine (GB.out _ B13 HS13.out.1).mono ?_); rintro e w14 ⟨rfl, h14⟩; (have B14 := bt B13 h14); (have HS14 := Lib.hid (HS13.out.2.below h14)); clear h14)
      | (go_at_call 19; (with_reducible refine (GO.out _ B14 HS14.out).mono ?_); rintro e w15 ⟨rfl, h15⟩; (have B15 := bt B14 h15); clear h15)
      | (go_at_call 6; (with_reducible refine (GA.out _ B15).mono ?_); rintro e w16 ⟨rfl, h16⟩; (have B16 := bt B15 h16); clear h16))
    go_ret
    exact ⟨rfl, B16⟩
theorem reportLoads_at (ab : Option Addr) (cb : Nat) (b : List Bn) (al : Option Addr) (cl : Nat) (l : List Oc) (node : Int) (w : World) (hb : SRow bn 9 w ab cb b) (hG : ∀ x ∈ b, GdB x) (hl : SRow oc 7 w al cl l) (hGo : ∀ x ∈ l, GdO x) (hP : Lib.TabIs Tryz.prog w powNm .u64 Lib.pow10Tab) (hH : Lib.TabIs Tryz.prog w headsNm .u8 headsTab) (hT : PairIs Tryz.prog w facesNm facesT) :
    Calls Tryz.prog 3 #[.slice ab b.length cb, .slice al l.length cl, .int .i64 node] w fun e w' => e = .returned (.bool true) ∧ Below w.heap.size w w' :=
  reportLoads_walk ab cb b al cl l node w hb hG hl hGo (ftab_of hT) (htab_of hH) (Lib.tabBelow_of_tabIs hP)
end Go.Proofs.YthfmkkkdjgkaoaaGreatDoor
