/- Parts of a proof, printed by a program of mine out of my texts: RpStf, RpAwk. -/
import Derived.Test.YthfmkkkdjgkaoaaGreatDoorMK
import Derived.Test.YthfmkkkdjgkaoaaGreatDoorMR
import Derived.Test.YthfmkkkdjgkaoaaGreatDoorMS
set_option linter.unusedSimpArgs false
set_option linter.unusedVariables false
namespace Go.Proofs.YthfmkkkdjgkaoaaGreatDoor
open Go.RowKit
def nodC (b : List Bn) (l : List Oc) (node : Int) : Int := if (runC b l).1 ≠ 0 then (runC b l).1 else if node < 1 ∨ 16 < node then 2 else 0
theorem nodC_cases (b : List Bn) (l : List Oc) (node : Int) : ((runC b l).1 ≠ 0 ∧ nodC b l node = (runC b l).1) ∨ ((runC b l).1 = 0 ∧ node < 1 ∧ nodC b l node = 2) ∨ ((runC b l).1 = 0 ∧ ¬ node < 1 ∧ 16 < node ∧ nodC b l node = 2) ∨ ((runC b l).1 = 0 ∧ ¬ node < 1 ∧ ¬ 16 < node ∧ nodC b l node = 0) := by
  unfold nodC
  by_cases h : (runC b l).1 = 0
  · rw [if_neg (by simp [h])]
    by_cases h1 : node < 1
    · exact .inr (.inl ⟨h, h1, if_pos (.inl h1)⟩)
    · by_cases h2 : 16 < node
      · exact .inr (.inr (.inl ⟨h, h1, h2, if_pos (.inr h2)⟩))
      · exact .inr (.inr (.inr ⟨h, h1, h2, if_neg (by omega)⟩))
  · exact .inl ⟨h, if_pos h⟩
def stpR (b : List Bn) (l : List Oc) (node : Int) : List (Int × Int) := if nodC b l node = 0 then stepsO b szB node l else []
def RetL (s : List (Int × Int)) (c : Int) (w : World) (e : Ending) (w' : World) : Prop := ∃ v, e = .returned (.tuple #[v, .int .i64 c]) ∧ w'.ownsRow w.heap.size 35 2 v s.length (rowC lc s) ∧ Below w.heap.size w w'
theorem RetL.err {w w' : World} (c : Int) (h : Below w.heap.size w w') : RetL [] c w (.returned (.tuple #[.slice none 0 0, .int .i64 c])) w' := ⟨_, rfl, by simpa [rowC] using World.ownsRow_nil w' _ _ _, h⟩
set_option maxRecDepth 100000 in
set_option maxHeartbeats 3200000 in
theorem psteps2_any (ab al : Option Addr) (cb cl : Nat) (b : List Bn) (l : List Oc) (node : Int) (hd : ∀ x ∈ b, x.da.size ≤ maxLen ∧ 0 ≤ x.sq) (w : World) (hT : FTab w) (hH : HTab w) (hb : SRow bn 9 w ab cb b) (hl : SRow oc 7 w al cl l) :
    Calls Tryz.prog 9 #[.slice ab b.length cb, .slice al l.length cl, .int .i64 node] w (RetL (stpR b l node) (nodC b l node) w) := by
  have go : ∀ W, Below w.heap.size w W → Calls Tryz.prog 30 #[.slice ab b.length cb, .slice al l.length cl] W fun e w' => e = .returned (.tuple #[.agg #[.slice ab b.length cb, .slice al l.length cl], .int .i64 (runC b l).1]) ∧ Below W.heap.size W w' := fun W hB => open_any ab al cb cl b l (fun x hx => (hd x hx).1) W (hT.on hB) (hb.below hB) (hl.below hB)
  have gc : (runC b l).1 = 0 → ∀ W, Below w.heap.size w W → Calls Tryz.prog 31 #[.agg #[.slice ab b.length cb, .slice al l.length cl], .int .i64 node] W (OwnR lc 2 35 (stepsO b szB node l) W) := fun h W hB => psteps_any ab al cb cl b l node (runC_zero h) hd W (hH.on hB) (hb.below hB) (hl.below hB)
  have hc := nodC_cases b l node
  have hz : nodC b l node ≠ 0 → stpR b l node = [] := fun h => by unfold stpR; rw [if_neg h]
  have hz0 : nodC b l node = 0 → stpR b l node = stepsO b szB node l := fun h => by unfold stpR; rw [if_pos h]
  obtain ⟨p, hp⟩ : ∃ p, nodC b l node = p := ⟨_, rfl⟩
  obtain ⟨r, hr⟩ : ∃ r, (runC b l).1 = r := ⟨_, rfl⟩
  obtain ⟨D, hD⟩ : ∃ D, stpR b l node = D := ⟨_, rfl⟩
  obtain ⟨S, hS⟩ : ∃ D, stepsO b szB node l = D := ⟨_, rfl⟩
  rw [hp] at hc hz hz0 ⊢
  rw [hr] at hc go gc
  rw [hD] at hz hz0 ⊢
  rw [hS] at gc hz0
  have GO := Lib.hid go; have GC := Lib.hid gc; have HZ := Lib.hid hz; have HZ0 := Lib.hid hz0
  clear go gc hp hr hD hS hd hT hH hb hl hz hz0
  rcases hc with ⟨h1, rfl⟩ | ⟨rfl, h2, rfl⟩ | ⟨rfl, h2, h3, rfl⟩ | ⟨rfl, h2, h3, rfl⟩
  · have q0 : (p != 0) = true := by simpa using h1
    obtain rfl := HZ.out h1
    clear h1 GC HZ HZ0
    go_enter Tryz.func9, Tryz.ntmps9
    go_wp2_with (go_at_call 30; (with_reducible refine (GO.out _ (by (repeat (first | (with_reducible assumption) | (with_reducible exact Below.refl _ _) | (with_reducible refine beld_drew ?_) | ((with_reducible refine bset' ?_ ?_); (first | (focus (dsimp only; assumption)) | (focus (simp; done)) | (focus (dsimp only; omega)))) | (with_reducible refine belt_alloc ?_) | ((with_reducible refine zeroed_below' ?_ ?_); (first | (focus (simp; done)) | (focus (dsimp only; omega)))) | (with_reducible refine bt ?_ (by assumption)))))).mono ?_); rintro e w2 ⟨rfl, h2⟩)
    go_ret2
    exact RetL.err _ (by (repeat (first | (with_reducible assumption) | (with_reducible exact Below.refl _ _) | (with_reducible refine beld_drew ?_) | ((with_reducible refine bset' ?_ ?_); (first | (focus (dsimp only; assumption)) | (focus (simp; done)) | (focus (dsimp only; omega)))) | (with_reducible refine belt_alloc ?_) | ((with_reducible refine zeroed_below' ?_ ?_); (first | (focus (simp; done)) | (focus (dsimp only; omega)))) | (with_reducible refine bt ?_ (by assumption)))))
  · have q0 : ((0 : Int) != 0) = false := rfl
    obtain rfl := HZ.out (by decide)
    have q1 : decide (node < 1) = true := decide_eq_true h2
    clear GC HZ HZ0
    go_enter Tryz.func9, Tryz.ntmps9
    go_wp2_with (go_at_call 30; (with_reducible refine (GO.out _ (by (repeat (first | (with_reducible assumption) | (with_reducible exact Below.refl _ _) | (with_reducible refine beld_drew ?_) | ((with_reducible refine bset' ?_ ?_); (first | (focus (dsimp only; assumption)) | (focus (simp; done)) | (focus (dsimp only; omega)))) | (with_reducible refine belt_alloc ?_) | ((with_reducible refine zeroed_below' ?_ ?_); (first | (focus (simp; done)) | (focus (dsimp only; omega)))) | (with_reducible refine bt ?_ (by assumption)))))).mono ?_); rintro e w2 ⟨rfl, h2⟩)
    go_ret2
    exact RetL.err _ (by (repeat (first | (with_reducible assumption) | (with_reducible exact Below.refl _ _) | (with_reducible refine beld_drew ?_) | ((with_reducible refine bset' ?_ ?_); (first | (focus (dsimp only; assumption)) | (focus (simp; done)) | (focus (dsimp only; omega)))) | (with_reducible refine belt_alloc ?_) | ((with_reducible refine zeroed_below' ?_ ?_); (first | (focus (simp; done)) | (focus (dsimp only; omega)))) | (with_reducible refine bt ?_ (by assumption)))))
  · have q0 : ((0 : Int) != 0) = false := rfl
    obtain rfl := HZ.out (by decide)
    have q1 : decide (node < 1) = false := decide_eq_false h2
    have q2 : decide (16 < node) = true := decide_eq_true h3
    clear GC HZ HZ0
    go_enter Tryz.func9, Tryz.ntmps9
    go_wp2_with (go_at_call 30; (with_reducible refine (GO.out _ (by (repeat (first | (with_reducible assumption) | (with_reducible exact Below.refl _ _) | (with_reducible refine beld_drew ?_) | ((with_reducible refine bset' ?_ ?_); (first | (focus (dsimp only; assumption)) | (focus (simp; done)) | (focus (dsimp only; omega)))) | (with_reducible refine belt_alloc ?_) | ((with_reducible refine zeroed_below' ?_ ?_); (first | (focus (simp; done)) | (focus (dsimp only; omega)))) | (with_reducible refine bt ?_ (by assumption)))))).mono ?_); rintro e w2 ⟨rfl, h2⟩)
    go_ret2
    exact RetL.err _ (by (repeat (first | (with_reducible assumption) | (with_reducible exact Below.refl _ _) | (with_reducible refine beld_drew ?_) | ((with_reducible refine bset' ?_ ?_); (first | (focus (dsimp only; assumption)) | (focus (simp; done)) | (focus (dsimp only; omega)))) | (with_reducible refine belt_alloc ?_) | ((with_reducible refine zeroed_below' ?_ ?_); (first | (focus (simp; done)) | (focus (dsimp only; omega)))) | (with_reducible refine bt ?_ (by assumption)))))
  · have q0 : ((0 : Int) != 0) = false := rfl
    have hDS := HZ0.out rfl
    subst hDS
    have q1 : decide (node < 1) = false := decide_eq_false h2
    have q2 : decide (16 < node) = false := decide_eq_false h3
    replace GC := Lib.hid (GC.out rfl)
    clear HZ HZ0
    go_enter Tryz.func9, Tryz.ntmps9
    go_wp2_with (first | (go_at_call 30; (with_reducible refine (GO.out _ (by (repeat (first | (with_reducible assumption) | (with_reducible exact Below.refl _ _) | (with_reducible refine beld_drew ?_) | ((with_reducible refine bset' ?_ ?_); (first | (focus (dsimp only; assumption)) | (focus (simp; done)) | (focus (dsimp only; omega)))) | (with_reducible refine belt_alloc ?_) | ((with_reducible refine zeroed_below' ?_ ?_); (first | (focus (simp; done)) | (focus (dsimp only; omega)))) | (with_reducible refine bt ?_ (by assumption)))))).mono ?_); rintro e w2 ⟨rfl, h2⟩; (have B2 : Below w.heap.size w w2 := (by (repeat (first | (with_reducible assumption) | (with_reducible exact Below.refl _ _) | (with_reducible refine beld_drew ?_) | ((with_reducible refine bset' ?_ ?_); (first | (focus (dsimp only; assumption)) | (focus (simp; done)) | (focus (dsimp only; omega)))) | (with_reducible refine belt_alloc ?_) | ((with_reducible refine zeroed_below' ?_ ?_); (first | (focus (simp; done)) | (focus (dsimp only; omega)))) | (with_reducible refine bt ?_ (by assumption))))))) | (go_at_call 31; (with_reducible refine (GC.out _ (by (repeat (first | (with_reducible assumption) | (with_reducible exact Below.refl _ _) | (with_reducible refine beld_drew ?_) | ((with_reducible refine bset' ?_ ?_); (first | (focus (dsimp only; assumption)) | (focus (simp; done)) | (focus (dsimp only; omega)))) | (with_reducible refine belt_alloc ?_) | ((with_reducible refine zeroed_below' ?_ ?_); (first | (focus (simp; done)) | (focus (dsimp only; omega)))) | (with_reducible refine bt ?_ (by assumption)))))).mono ?_); rintro e w3 ⟨v3, rfl, ho3, h3⟩; (have HO3 := Lib.hid ho3)))
    go_ret2
    exact ⟨_, rfl, owns_base HO3.out (by simp; have := B2.size; omega), by (repeat (first | (with_reducible assumption) | (with_reducible exact Below.refl _ _) | (with_reducible refine beld_drew ?_) | ((with_reducible refine bset' ?_ ?_); (first | (focus (dsimp only; assumption)) | (focus (simp; done)) | (focus (dsimp only; omega)))) | (with_reducible refine belt_alloc ?_) | ((with_reducible refine zeroed_below' ?_ ?_); (first | (focus (simp; done)) | (focus (dsimp only; omega)))) | (with_reducible refine bt ?_ (by assumption))))⟩
end Go.Proofs.YthfmkkkdjgkaoaaGreatDoor
namespace Go.Proofs.YthfmkkkdjgkaoaaGreatDoor
open Go.RowKit
theorem bs0_da : ∀ x ∈ bs0, x.da.size ≤ maxLen ∧ 0 ≤ x.sq := by
  intro x hx
  simp only [bs0, List.mem_cons, List.not_mem_nil, or_false] at hx
  rcases hx with rfl | rfl <;> exact ⟨by decide, by decide⟩
theorem cou_1 : couR bs0 ls0 1 = [1, 0, 1, 0, 0, 0] := by decide +kernel
theorem prio_1 : prioC bs0 ls0 1 = 0 := by decide +kernel
theorem lat_1 : dv (latD bs0 ls0 1) = #[.int .i64 1, .int .i64 4, .int .i64 4, .int .i64 4, .int .i64 4] := by kernel_rfl
theorem stp_2 : stpR bs0 ls0 2 = [(3, 13), (5, 0)] := by decide +kernel
theorem nod_2 : nodC bs0 ls0 2 = 0 := by decide +kernel
theorem awC {w : World} {a1 a2 : Option Addr} (hT : FTab w) (h1 : SRow bn 9 w a1 2 bs0) (h2 : SRow oc 7 w a2 7 ls0) : Calls Tryz.prog 25 #[.slice a1 2 2, .slice a2 7 7, .int .i64 1] w fun e w' => ∃ a cap, e = .returned (.tuple #[.slice a 6 cap, .int .i64 0]) ∧ SRow ic 1 w' a cap [1, 0, 1, 0, 0, 0] ∧ Below w.heap.size w w' := by
  have h := pcounts_any a1 a2 2 7 bs0 ls0 1 (fun x hx => (bs0_da x hx).1) w hT h1 h2
  rw [cou_1, prio_1] at h
  exact h
theorem awL {w : World} {a1 a2 : Option Addr} (hT : FTab w) (h1 : SRow bn 9 w a1 2 bs0) (h2 : SRow oc 7 w a2 7 ls0) : Calls Tryz.prog 28 #[.slice a1 2 2, .slice a2 7 7, .int .i64 1] w fun e w' => e = .returned (.tuple #[.agg #[.int .i64 1, .int .i64 4, .int .i64 4, .int .i64 4, .int .i64 4], .int .i64 0]) ∧ Below w.heap.size w w' := by
  have h := plate_any a1 a2 2 7 bs0 ls0 1 (fun x hx => (bs0_da x hx).1) w hT h1 h2
  rw [lat_1, prio_1] at h
  exact h
theorem awS {w : World} {a1 a2 : Option Addr} (hT : FTab w) (hH : HTab w) (h1 : SRow bn 9 w a1 2 bs0) (h2 : SRow oc 7 w a2 7 ls0) : Calls Tryz.prog 9 #[.slice a1 2 2, .slice a2 7 7, .int .i64 2] w fun e w' => ∃ a cap, e = .returned (.tuple #[.slice a 2 cap, .int .i64 0]) ∧ SRow lc 2 w' a cap [(3, 13), (5, 0)] ∧ Below w.heap.size w w' := by
  have h := psteps2_any a1 a2 2 7 bs0 ls0 2 bs0_da w hT hH h1 h2
  rw [stp_2, nod_2] at h
  refine h.mono ?_
  rintro e w' ⟨v, rfl, ho, hb⟩
  obtain ⟨a, c, rfl, hs, _⟩ := srow_of_owns lc_len ho
  exact ⟨a, c, rfl, hs, hb⟩
theorem awI {w : World} {a : Option Addr} {c g : Nat} (h1 : SRow ic 1 w a c [1, 0, 1, 0, 0, 0]) (hb : blk w g = some #[.int .i64 1, .int .i64 0, .int .i64 1, .int .i64 0, .int .i64 0, .int .i64 0]) : Calls Tryz.prog 29 #[.slice a 6 c, .slice (some ⟨g, 0, none⟩) 6 6] w fun e w' => e = .returned (.bool true) ∧ Below w.heap.size w w' :=
  sameZ_any a (some ⟨g, 0, none⟩) c 6 [1, 0, 1, 0, 0, 0] [1, 0, 1, 0, 0, 0] (by decide) (by decide) w h1 (srow_blkG ic_len hb rfl (by decide))
theorem awD {w : World} {a : Option Addr} {c g : Nat} (h1 : SRow lc 2 w a c [(3, 13), (5, 0)]) (hb : blk w g = some #[.int .i64 3, .int .u64 13, .int .i64 5, .int .u64 0]) : Calls Tryz.prog 11 #[.slice a 2 c, .slice (some ⟨g, 0, none⟩) 2 2] w fun e w' => e = .returned (.bool true) ∧ Below w.heap.size w w' :=
  sameLd_any a (some ⟨g, 0, none⟩) c 2 [(3, 13), (5, 0)] [(3, 13), (5, 0)] (by decide) (by decide) w h1 (srow_blkG lc_len hb rfl (by decide))
set_option maxRecDepth 100000 in
set_option maxHeartbeats 3200000 in
theorem awake_any (w : World) (hT : FTab w) (hH : HTab w) : Calls Tryz.prog 6 #[] w fun e w' => e = .returned (.bool true) ∧ Below w.heap.size w w' := by
  have HT := Lib.hid hT; have HH := Lib.hid hH
  clear hT hH
  go_enter Tryz.func6, Tryz.ntmps6
  go_upto_region 2 with (first | (go_at_call 26; (with_reducible refine (bundles_any _).mono ?_); rintro e w1 ⟨a1, rfl, hs1, h1⟩) | (go_at_call 27; (with_reducible refine (outcomes_any _).mono ?_); rintro e w2 ⟨a2, rfl, hs2, h2⟩) | (go_at_call 25; (with_reducible refine (awC (HT.out.on (bt h1 h2)) (hs1.below h2) hs2).mono ?_); rintro e w3 ⟨a3, c3, rfl, hs3, h3⟩))
  have HS3 := Lib.hid hs3
  have B3 := bt (bt h1 h2) h3
  clear h1 h2 h3 hs1 hs2 hs3
  go_upto_region 3 with (first | (go_at_call 26; (with_reducible refine (bundles_any _).mono ?_); rintro e w4 ⟨a4, rfl, hs4, h4⟩) | (go_at_call 27; (with_reducible refine (outcomes_any _).mono ?_); rintro e w5 ⟨a5, rfl, hs5, h5⟩) | (go_at_call 28; (with_reducible refine (awL (HT.out.on (bt B3 (bt h4 h5))) (hs4.below h5) hs5).mono ?_); rintro e w6 ⟨rfl, h6⟩))
  have B6 := bt h4 (bt h5 h6)
  have HS6 := Lib.hid (HS3.out.below B6)
  have B6w := bt B3 B6
  clear h4 h5 h6 hs4 hs5 HS3 B6 B3
  obtain ⟨u, hu⟩ : ∃ u, u = w6.alloc (.cells #[.int .i64 1, .int .i64 4, .int .i64 4, .int .i64 4, .int .i64 4] 65) := ⟨_, rfl⟩
  obtain ⟨d, hd⟩ : ∃ d, d = w6.heap.size := ⟨_, rfl⟩
  have kb : blk u d = some #[.int .i64 1, .int .i64 4, .int .i64 4, .int .i64 4, .int .i64 4] := by rw [hu, hd]; exact blk_alloc_new _ _ _ rfl
  have Bu : Below w6.heap.size w6 u := by rw [hu]; exact (Below.refl _ _).alloc (Nat.le_refl _) _
  have HSu := Lib.hid (HS6.out.below Bu)
  have B7 := bt B6w Bu
  rw [← hu, ← hd]
  clear hu hd Bu HS6 B6w
  go_upto_region 4 with (first | (go_at_call 26; (with_reducible refine (bundles_any _).mono ?_); rintro e w7 ⟨a7, rfl, hs7, h7⟩) | (go_at_call 27; (with_reducible refine (outcomes_any _).mono ?_); rintro e w8 ⟨a8, rfl, hs8, h8⟩) | (go_at_call 9; (with_reducible refine (awS (HT.out.on (bt B7 (bt h7 h8))) (HH.out.on (bt B7 (bt h7 h8))) (hs7.below h8) hs8).mono ?_); rintro e w9 ⟨a9, c9, rfl, hs9, h9⟩))
  have B9 := bt h7 (bt h8 h9)
  have kb9 := blk_below B9 kb
  have HS3 := Lib.hid (HSu.out.below B9)
  have HS9 := Lib.hid hs9
  have B9w := bt B7 B9
  have KB9 := Lib.hid kb9
  clear h7 h8 h9 hs7 hs8 hs9 B9 B7 HSu kb kb9
  have nb := kn KB9.out
  go_wp2_with (first
    | (go_at_call 29; (with_reducible refine (awI (g := w9.heap.size) (HS3.out.below ((Below.refl _ _).alloc (Nat.le_refl _) _)) (blk_alloc_new _ _ _ rfl)).mono ?_); rintro e w10 ⟨rfl, h10⟩; (have B10 : Below w9.heap.size w9 w10 := (by (repeat (first | (with_reducible assumption) | (with_reducible exact Below.refl _ _) | (with_reducible refine beld_drew ?_) | ((with_reducible refine bset' ?_ ?_); (first | (focus (dsimp only; assumption)) | (focus (simp; done)) | (focus (dsimp only; omega)))) | (with_reducible refine belt_alloc ?_) | ((with_reducible refine zeroed_below' ?_ ?_); (first | (focus (simp; done)) | (focus (dsimp only; omega)))) | (with_reducible refine bt ?_ (by assumption)))))); (have kb10 := blk_below B10 KB9.out); clear nb h10; (have nb := kn kb10); (have HS10 := Lib.hid (HS9.out.below B10)); (have B10w := bt B9w B10); clear B10)
    | (go_at_call 11; (with_reducible refine (awD (g := w10.heap.size) (HS10.out.below ((Below.refl _ _).alloc (Nat.le_refl _) _)) (blk_alloc_new _ _ _ rfl)).mono ?_); rintro e w11 ⟨rfl, h11⟩; (have B11w : Below w.heap.size w w11 := (by (repeat (first | (with_reducible assumption) | (with_reducible exact Below.refl _ _) | (with_reducible refine beld_drew ?_) | ((with_reducible refine bset' ?_ ?_); (first | (focus (dsimp only; assumption)) | (focus (simp; done)) | (focus (dsimp only; omega)))) | (with_reducible refine belt_alloc ?_) | ((with_reducible refine zeroed_below' ?_ ?_); (first | (focus (simp; done)) | (focus (dsimp only; omega)))) | (with_reducible refine bt ?_ (by assumption))))))))
  go_ret
  exact ⟨rfl, B11w⟩
end Go.Proofs.YthfmkkkdjgkaoaaGreatDoor
