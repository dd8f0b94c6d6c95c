/- Parts of a proof, printed by a program of mine out of my texts: RpStf, RpAwk, RpLawC. -/
import Derived.Test.YthfmkkkdjgkaoaaDoorMK
import Derived.Test.YthfmkkkdjgkaoaaDoorMO
import Derived.Test.YthfmkkkdjgkaoaaDoorMP
import Derived.Test.YthfmkkkdjgkaoaaDoorMQ
import Derived.Test.YthfmkkkdjgkaoaaDoorMR
import Derived.Test.YthfmkkkdjgkaoaaDoorMS
set_option linter.unusedSimpArgs false
set_option linter.unusedVariables false
namespace Go.Proofs.YthfmkkkdjgkaoaaDoor
open Go.RowKit
def nodC (b : List Bn) (l : List Oc) (node : Int) : Int := if (runC b l).1 ≠ 0 then (runC b l).1 else if node < 1 ∨ 16 < node then 2 else 0
theorem nodC_cases (b : List Bn) (l : List Oc) (node : Int) : ((runC b l).1 ≠ 0 ∧ nodC b l node = (runC b l).1) ∨ ((runC b l).1 = 0 ∧ node < 1 ∧ nodC b l node = 2) ∨ ((runC b l).1 = 0 ∧ ¬ node < 1 ∧ 16 < node ∧ nodC b l node = 2) ∨ ((runC b l).1 = 0 ∧ ¬ node < 1 ∧ ¬ 16 < node ∧ nodC b l node = 0) := by
  unfold nodC
  by_cases h : (runC b l).1 = 0
  · rw [if_neg (by simp [h])]
    by_cases h1 : node < 1
    · exact .inr (.inl ⟨h, h1, if_pos (.inl h1)⟩)
    · by_cases h2 : 16 < node
      · exact .inr (.inr (.inl ⟨h, h1, h2, if_pos (.inr h2)⟩))
      · exact .inr (.inr (.inr ⟨h, h1, h2, if_neg (by omega)⟩))
  · exact .inl ⟨h, if_pos h⟩
def stpR (b : List Bn) (l : List Oc) (node : Int) : List (Int × Int) := if nodC b l node = 0 then stepsO b szB node l else []
def RetL (s : List (Int × Int)) (c : Int) (w : World) (e : Ending) (w' : World) : Prop := ∃ v, e = .returned (.tuple #[v, .int .i64 c]) ∧ w'.ownsRow w.heap.size 49 2 v s.length (rowC lc s) ∧ Below w.heap.size w w'
theorem RetL.err {w w' : World} (c : Int) (h : Below w.heap.size w w') : RetL [] c w (.returned (.tuple #[.slice none 0 0, .int .i64 c])) w' := ⟨_, rfl, by simpa [rowC] using World.ownsRow_nil w' _ _ _, h⟩
set_option maxRecDepth 100000 in
set_option maxHeartbeats 3200000 in
theorem psteps2_any (ab al : Option Addr) (cb cl : Nat) (b : List Bn) (l : List Oc) (node : Int) (hd : ∀ x ∈ b, x.da.size ≤ maxLen ∧ 0 ≤ x.sq) (w : World) (hT : FTab w) (hH : HTab w) (hb : SRow bn 9 w ab cb b) (hl : SRow oc 7 w al cl l) :
    Calls Tryd.prog 22 #[.slice ab b.length cb, .slice al l.length cl, .int .i64 node] w (RetL (stpR b l node) (nodC b l node) w) := by
  have go : ∀ W, Below w.heap.size w W → Calls Tryd.prog 36 #[.slice ab b.length cb, .slice al l.length cl] W fun e w' => e = .returned (.tuple #[.agg #[.slice ab b.length cb, .slice al l.length cl], .int .i64 (runC b l).1]) ∧ Below W.heap.size W w' := fun W hB => open_any ab al cb cl b l (fun x hx => (hd x hx).1) W (hT.on hB) (hb.below hB) (hl.below hB)
  have gc : (runC b l).1 = 0 → ∀ W, Below w.heap.size w W → Calls Tryd.prog 43 #[.agg #[.slice ab b.length cb, .slice al l.length cl], .int .i64 node] W (OwnR lc 2 49 (stepsO b szB node l) W) := fun h W hB => psteps_any ab al cb cl b l node (runC_zero h) hd W (hH.on hB) (hb.below hB) (hl.below hB)
  have hc := nodC_cases b l node
  have hz : nodC b l node ≠ 0 → stpR b l node = [] := fun h => by unfold stpR; rw [if_neg h]
  have hz0 : nodC b l node = 0 → stpR b l node = stepsO b szB node l := fun h => by unfold stpR; rw [if_pos h]
  obtain ⟨p, hp⟩ : ∃ p, nodC b l node = p := ⟨_, rfl⟩
  obtain ⟨r, hr⟩ : ∃ r, (runC b l).1 = r := ⟨_, rfl⟩
  obtain ⟨D, hD⟩ : ∃ D, stpR b l node = D := ⟨_, rfl⟩
  obtain ⟨S, hS⟩ : ∃ D, stepsO b szB node l = D := ⟨_, rfl⟩
  rw [hp] at hc hz hz0 ⊢
  rw [hr] at hc go gc
  rw [hD] at hz hz0 ⊢
  rw [hS] at gc hz0
  have GO := Lib.hid go; have GC := Lib.hid gc; have HZ := Lib.hid hz; have HZ0 := Lib.hid hz0
  clear go gc hp hr hD hS hd hT hH hb hl hz hz0
  rcases hc with ⟨h1, rfl⟩ | ⟨rfl, h2, rfl⟩ | ⟨rfl, h2, h3, rfl⟩ | ⟨rfl, h2, h3, rfl⟩
  · have q0 : (p != 0) = true := by simpa using h1
    obtain rfl := HZ.out h1
    clear h1 GC HZ HZ0
    go_enter Tryd.func22, Tryd.ntmps22
    go_wp2_with (go_at_call 36; (with_reducible refine (GO.out _ (by (repeat (first | (with_reducible assumption) | (with_reducible exact Below.refl _ _) | (with_reducible refine beld_drew ?_) | ((with_reducible refine bset' ?_ ?_); (first | (focus (dsimp only; assumption)) | (focus (simp; done)) | (focus (dsimp only; omega)))) | (with_reducible refine belt_alloc ?_) | ((with_reducible refine zeroed_below' ?_ ?_); (first | (focus (simp; done)) | (focus (dsimp only; omega)))) | (with_reducible refine bt ?_ (by assumption)))))).mono ?_); rintro e w2 ⟨rfl, h2⟩)
    go_ret2
    exact RetL.err _ (by (repeat (first | (with_reducible assumption) | (with_reducible exact Below.refl _ _) | (with_reducible refine beld_drew ?_) | ((with_reducible refine bset' ?_ ?_); (first | (focus (dsimp only; assumption)) | (focus (simp; done)) | (focus (dsimp only; omega)))) | (with_reducible refine belt_alloc ?_) | ((with_reducible refine zeroed_below' ?_ ?_); (first | (focus (simp; done)) | (focus (dsimp only; omega)))) | (with_reducible refine bt ?_ (by assumption)))))
  · have q0 : ((0 : Int) != 0) = false := rfl
    obtain rfl := HZ.out (by decide)
    have q1 : decide (node < 1) = true := decide_eq_true h2
    clear GC HZ HZ0
    go_enter Tryd.func22, Tryd.ntmps22
    go_wp2_with (go_at_call 36; (with_reducible refine (GO.out _ (by (repeat (first | (with_reducible assumption) | (with_reducible exact Below.refl _ _) | (with_reducible refine beld_drew ?_) | ((with_reducible refine bset' ?_ ?_); (first | (focus (dsimp only; assumption)) | (focus (simp; done)) | (focus (dsimp only; omega)))) | (with_reducible refine belt_alloc ?_) | ((with_reducible refine zeroed_below' ?_ ?_); (first | (focus (simp; done)) | (focus (dsimp only; omega)))) | (with_reducible refine bt ?_ (by assumption)))))).mono ?_); rintro e w2 ⟨rfl, h2⟩)
    go_ret2
    exact RetL.err _ (by (repeat (first | (with_reducible assumption) | (with_reducible exact Below.refl _ _) | (with_reducible refine beld_drew ?_) | ((with_reducible refine bset' ?_ ?_); (first | (focus (dsimp only; assumption)) | (focus (simp; done)) | (focus (dsimp only; omega)))) | (with_reducible refine belt_alloc ?_) | ((with_reducible refine zeroed_below' ?_ ?_); (first | (focus (simp; done)) | (focus (dsimp only; omega)))) | (with_reducible refine bt ?_ (by assumption)))))
  · have q0 : ((0 : Int) != 0) = false := rfl
    obtain rfl := HZ.out (by decide)
    have q1 : decide (node < 1) = false := decide_eq_false h2
    have q2 : decide (16 < node) = true := decide_eq_true h3
    clear GC HZ HZ0
    go_enter Tryd.func22, Tryd.ntmps22
    go_wp2_with (go_at_call 36; (with_reducible refine (GO.out _ (by (repeat (first | (with_reducible assumption) | (with_reducible exact Below.refl _ _) | (with_reducible refine beld_drew ?_) | ((with_reducible refine bset' ?_ ?_); (first | (focus (dsimp only; assumption)) | (focus (simp; done)) | (focus (dsimp only; omega)))) | (with_reducible refine belt_alloc ?_) | ((with_reducible refine zeroed_below' ?_ ?_); (first | (focus (simp; done)) | (focus (dsimp only; omega)))) | (with_reducible refine bt ?_ (by assumption)))))).mono ?_); rintro e w2 ⟨rfl, h2⟩)
    go_ret2
    exact RetL.err _ (by (repeat (first | (with_reducible assumption) | (with_reducible exact Below.refl _ _) | (with_reducible refine beld_drew ?_) | ((with_reducible refine bset' ?_ ?_); (first | (focus (dsimp only; assumption)) | (focus (simp; done)) | (focus (dsimp only; omega)))) | (with_reducible refine belt_alloc ?_) | ((with_reducible refine zeroed_below' ?_ ?_); (first | (focus (simp; done)) | (focus (dsimp only; omega)))) | (with_reducible refine bt ?_ (by assumption)))))
  · have q0 : ((0 : Int) != 0) = false := rfl
    have hDS := HZ0.out rfl
    subst hDS
    have q1 : decide (node < 1) = false := decide_eq_false h2
    have q2 : decide (16 < node) = false := decide_eq_false h3
    replace GC := Lib.hid (GC.out rfl)
    clear HZ HZ0
    go_enter Tryd.func22, Tryd.ntmps22
    go_wp2_with (first | (go_at_call 36; (with_reducible refine (GO.out _ (by (repeat (first | (with_reducible assumption) | (with_reducible exact Below.refl _ _) | (with_reducible refine beld_drew ?_) | ((with_reducible refine bset' ?_ ?_); (first | (focus (dsimp only; assumption)) | (focus (simp; done)) | (focus (dsimp only; omega)))) | (with_reducible refine belt_alloc ?_) | ((with_reducible refine zeroed_below' ?_ ?_); (first | (focus (simp; done)) | (focus (dsimp only; omega)))) | (with_reducible refine bt ?_ (by assumption)))))).mono ?_); rintro e w2 ⟨rfl, h2⟩; (have B2 : Below w.heap.size w w2 := (by (repeat (first | (with_reducible assumption) | (with_reducible exact Below.refl _ _) | (with_reducible refine beld_drew ?_) | ((with_reducible refine bset' ?_ ?_); (first | (focus (dsimp only; assumption)) | (focus (simp; done)) | (focus (dsimp only; omega)))) | (with_reducible refine belt_alloc ?_) | ((with_reducible refine zeroed_below' ?_ ?_); (first | (focus (simp; done)) | (focus (dsimp only; omega)))) | (with_reducible refine bt ?_ (by assumption))))))) | (go_at_call 43; (with_reducible refine (GC.out _ (by (repeat (first | (with_reducible assumption) | (with_reducible exact Below.refl _ _) | (with_reducible refine beld_drew ?_) | ((with_reducible refine bset' ?_ ?_); (first | (focus (dsimp only; assumption)) | (focus (simp; done)) | (focus (dsimp only; omega)))) | (with_reducible refine belt_alloc ?_) | ((with_reducible refine zeroed_below' ?_ ?_); (first | (focus (simp; done)) | (focus (dsimp only; omega)))) | (with_reducible refine bt ?_ (by assumption)))))).mono ?_); rintro e w3 ⟨v3, rfl, ho3, h3⟩; (have HO3 := Lib.hid ho3)))
    go_ret2
    exact ⟨_, rfl, owns_base HO3.out (by simp; have := B2.size; omega), by (repeat (first | (with_reducible assumption) | (with_reducible exact Below.refl _ _) | (with_reducible refine beld_drew ?_) | ((with_reducible refine bset' ?_ ?_); (first | (focus (dsimp only; assumption)) | (focus (simp; done)) | (focus (dsimp only; omega)))) | (with_reducible refine belt_alloc ?_) | ((with_reducible refine zeroed_below' ?_ ?_); (first | (focus (simp; done)) | (focus (dsimp only; omega)))) | (with_reducible refine bt ?_ (by assumption))))⟩
end Go.Proofs.YthfmkkkdjgkaoaaDoor
namespace Go.Proofs.YthfmkkkdjgkaoaaDoor
open Go.RowKit
theorem bs0_da : ∀ x ∈ bs0, x.da.size ≤ maxLen ∧ 0 ≤ x.sq := by
  intro x hx
  simp only [bs0, List.mem_cons, List.not_mem_nil, or_false] at hx
  rcases hx with rfl | rfl <;> exact ⟨by decide, by decide⟩
theorem cou_1 : couR bs0 ls0 1 = [1, 0, 1, 0, 0, 0] := by decide +kernel
theorem prio_1 : prioC bs0 ls0 1 = 0 := by decide +kernel
theorem lat_1 : dv (latD bs0 ls0 1) = #[.int .i64 1, .int .i64 4, .int .i64 4, .int .i64 4, .int .i64 4] := by kernel_rfl
theorem stp_2 : stpR bs0 ls0 2 = [(3, 13), (5, 0)] := by decide +kernel
theorem nod_2 : nodC bs0 ls0 2 = 0 := by decide +kernel
theorem awC {w : World} {a1 a2 : Option Addr} (hT : FTab w) (h1 : SRow bn 9 w a1 2 bs0) (h2 : SRow oc 7 w a2 7 ls0) : Calls Tryd.prog 13 #[.slice a1 2 2, .slice a2 7 7, .int .i64 1] w fun e w' => ∃ a cap, e = .returned (.tuple #[.slice a 6 cap, .int .i64 0]) ∧ SRow ic 1 w' a cap [1, 0, 1, 0, 0, 0] ∧ Below w.heap.size w w' := by
  have h := pcounts_any a1 a2 2 7 bs0 ls0 1 (fun x hx => (bs0_da x hx).1) w hT h1 h2
  rw [cou_1, prio_1] at h
  exact h
theorem awL {w : World} {a1 a2 : Option Addr} (hT : FTab w) (h1 : SRow bn 9 w a1 2 bs0) (h2 : SRow oc 7 w a2 7 ls0) : Calls Tryd.prog 15 #[.slice a1 2 2, .slice a2 7 7, .int .i64 1] w fun e w' => e = .returned (.tuple #[.agg #[.int .i64 1, .int .i64 4, .int .i64 4, .int .i64 4, .int .i64 4], .int .i64 0]) ∧ Below w.heap.size w w' := by
  have h := plate_any a1 a2 2 7 bs0 ls0 1 (fun x hx => (bs0_da x hx).1) w hT h1 h2
  rw [lat_1, prio_1] at h
  exact h
theorem awS {w : World} {a1 a2 : Option Addr} (hT : FTab w) (hH : HTab w) (h1 : SRow bn 9 w a1 2 bs0) (h2 : SRow oc 7 w a2 7 ls0) : Calls Tryd.prog 22 #[.slice a1 2 2, .slice a2 7 7, .int .i64 2] w fun e w' => ∃ a cap, e = .returned (.tuple #[.slice a 2 cap, .int .i64 0]) ∧ SRow lc 2 w' a cap [(3, 13), (5, 0)] ∧ Below w.heap.size w w' := by
  have h := psteps2_any a1 a2 2 7 bs0 ls0 2 bs0_da w hT hH h1 h2
  rw [stp_2, nod_2] at h
  refine h.mono ?_
  rintro e w' ⟨v, rfl, ho, hb⟩
  obtain ⟨a, c, rfl, hs, _⟩ := srow_of_owns lc_len ho
  exact ⟨a, c, rfl, hs, hb⟩
theorem awI {w : World} {a : Option Addr} {c g : Nat} (h1 : SRow ic 1 w a c [1, 0, 1, 0, 0, 0]) (hb : blk w g = some #[.int .i64 1, .int .i64 0, .int .i64 1, .int .i64 0, .int .i64 0, .int .i64 0]) : Calls Tryd.prog 17 #[.slice a 6 c, .slice (some ⟨g, 0, none⟩) 6 6] w fun e w' => e = .returned (.bool true) ∧ Below w.heap.size w w' :=
  sameZ_any a (some ⟨g, 0, none⟩) c 6 [1, 0, 1, 0, 0, 0] [1, 0, 1, 0, 0, 0] (by decide) (by decide) w h1 (srow_blkG ic_len hb rfl (by decide))
theorem awD {w : World} {a : Option Addr} {c g : Nat} (h1 : SRow lc 2 w a c [(3, 13), (5, 0)]) (hb : blk w g = some #[.int .i64 3, .int .u64 13, .int .i64 5, .int .u64 0]) : Calls Tryd.prog 27 #[.slice a 2 c, .slice (some ⟨g, 0, none⟩) 2 2] w fun e w' => e = .returned (.bool true) ∧ Below w.heap.size w w' :=
  sameLd_any a (some ⟨g, 0, none⟩) c 2 [(3, 13), (5, 0)] [(3, 13), (5, 0)] (by decide) (by decide) w h1 (srow_blkG lc_len hb rfl (by decide))
set_option maxRecDepth 100000 in
set_option maxHeartbeats 3200000 in
theorem awake_any (w : World) (hT : FTab w) (hH : HTab w) : Calls Tryd.prog 8 #[] w fun e w' => e = .returned (.bool true) ∧ Below w.heap.size w w' := by
  have HT := Lib.hid hT; have HH := Lib.hid hH
  clear hT hH
  go_enter Tryd.func8, Tryd.ntmps8
  go_upto_region 2 with (first | (go_at_call 20; (with_reducible refine (bundles_any _).mono ?_); rintro e w1 ⟨a1, rfl, hs1, h1⟩) | (go_at_call 21; (with_reducible refine (outcomes_any _).mono ?_); rintro e w2 ⟨a2, rfl, hs2, h2⟩) | (go_at_call 13; (with_reducible refine (awC (HT.out.on (bt h1 h2)) (hs1.below h2) hs2).mono ?_); rintro e w3 ⟨a3, c3, rfl, hs3, h3⟩))
  have HS3 := Lib.hid hs3
  have B3 := bt (bt h1 h2) h3
  clear h1 h2 h3 hs1 hs2 hs3
  go_upto_region 3 with (first | (go_at_call 20; (with_reducible refine (bundles_any _).mono ?_); rintro e w4 ⟨a4, rfl, hs4, h4⟩) | (go_at_call 21; (with_reducible refine (outcomes_any _).mono ?_); rintro e w5 ⟨a5, rfl, hs5, h5⟩) | (go_at_call 15; (with_reducible refine (awL (HT.out.on (bt B3 (bt h4 h5))) (hs4.below h5) hs5).mono ?_); rintro e w6 ⟨rfl, h6⟩))
  have B6 := bt h4 (bt h5 h6)
  have HS6 := Lib.hid (HS3.out.below B6)
  have B6w := bt B3 B6
  clear h4 h5 h6 hs4 hs5 HS3 B6 B3
  obtain ⟨u, hu⟩ : ∃ u, u = w6.alloc (.cells #[.int .i64 1, .int .i64 4, .int .i64 4, .int .i64 4, .int .i64 4] 35) := ⟨_, rfl⟩
  obtain ⟨d, hd⟩ : ∃ d, d = w6.heap.size := ⟨_, rfl⟩
  have kb : blk u d = some #[.int .i64 1, .int .i64 4, .int .i64 4, .int .i64 4, .int .i64 4] := by rw [hu, hd]; exact blk_alloc_new _ _ _ rfl
  have Bu : Below w6.heap.size w6 u := by rw [hu]; exact (Below.refl _ _).alloc (Nat.le_refl _) _
  have HSu := Lib.hid (HS6.out.below Bu)
  have B7 := bt B6w Bu
  rw [← hu, ← hd]
  clear hu hd Bu HS6 B6w
  go_upto_region 4 with (first | (go_at_call 20; (with_reducible refine (bundles_any _).mono ?_); rintro e w7 ⟨a7, rfl, hs7, h7⟩) | (go_at_call 21; (with_reducible refine (outcomes_any _).mono ?_); rintro e w8 ⟨a8, rfl, hs8, h8⟩) | (go_at_call 22; (with_reducible refine (awS (HT.out.on (bt B7 (bt h7 h8))) (HH.out.on (bt B7 (bt h7 h8))) (hs7.below h8) hs8).mono ?_); rintro e w9 ⟨a9, c9, rfl, hs9, h9⟩))
  have B9 := bt h7 (bt h8 h9)
  have kb9 := blk_below B9 kb
  have HS3 := Lib.hid (HSu.out.below B9)
  have HS9 := Lib.hid hs9
  have B9w := bt B7 B9
  have KB9 := Lib.hid kb9
  clear h7 h8 h9 hs7 hs8 hs9 B9 B7 HSu kb kb9
  have nb := kn KB9.out
  go_wp2_with (first
    | (go_at_call 17; (with_reducible refine (awI (g := w9.heap.size) (HS3.out.below ((Below.refl _ _).alloc (Nat.le_refl _) _)) (blk_alloc_new _ _ _ rfl)).mono ?_); rintro e w10 ⟨rfl, h10⟩; (have B10 : Below w9.heap.size w9 w10 := (by (repeat (first | (with_reducible assumption) | (with_reducible exact Below.refl _ _) | (with_reducible refine beld_drew ?_) | ((with_reducible refine bset' ?_ ?_); (first | (focus (dsimp only; assumption)) | (focus (simp; done)) | (focus (dsimp only; omega)))) | (with_reducible refine belt_alloc ?_) | ((with_reducible refine zeroed_below' ?_ ?_); (first | (focus (simp; done)) | (focus (dsimp only; omega)))) | (with_reducible refine bt ?_ (by assumption)))))); (have kb10 := blk_below B10 KB9.out); clear nb h10; (have nb := kn kb10); (have HS10 := Lib.hid (HS9.out.below B10)); (have B10w := bt B9w B10); clear B10)
    | (go_at_call 27; (with_reducible refine (awD (g := w10.heap.size) (HS10.out.below ((Below.refl _ _).alloc (Nat.le_refl _) _)) (blk_alloc_new _ _ _ rfl)).mono ?_); rintro e w11 ⟨rfl, h11⟩; (have B11w : Below w.heap.size w w11 := (by (repeat (first | (with_reducible assumption) | (with_reducible exact Below.refl _ _) | (with_reducible refine beld_drew ?_) | ((with_reducible refine bset' ?_ ?_); (first | (focus (dsimp only; assumption)) | (focus (simp; done)) | (focus (dsimp only; omega)))) | (with_reducible refine belt_alloc ?_) | ((with_reducible refine zeroed_below' ?_ ?_); (first | (focus (simp; done)) | (focus (dsimp only; omega)))) | (with_reducible refine bt ?_ (by assumption))))))))
  go_ret
  exact ⟨rfl, B11w⟩
end Go.Proofs.YthfmkkkdjgkaoaaDoor
namespace Go.Proofs.YthfmkkkdjgkaoaaDoor
open Go.RowKit
theorem couR_len (b : List Bn) (l : List Oc) (prio : Int) : (couR b l prio).length ≤ 100000 := by
  unfold couR
  split
  · simp [couO]
  · simp
theorem sameL_self (l : List Bn) : sameL l l = true := (sameL_iff l l).2 rfl
theorem sameG_self {l : List Oc} : sameG eqO l l = true := (sameG_iff eqO_iff l l).2 rfl
set_option maxRecDepth 100000 in
set_option maxHeartbeats 6400000 in
theorem reportCounts_walk (ab : Option Addr) (cb : Nat) (b : List Bn) (al : Option Addr) (cl : Nat) (l : List Oc) (prio : Int) (w : World) (hb : SRow bn 9 w ab cb b) (hG : ∀ x ∈ b, GdB x) (hl : SRow oc 7 w al cl l) (hGo : ∀ x ∈ l, GdO x) (hT : FTab w) (hH : HTab w) :
    Calls Tryd.prog 3 #[.slice ab b.length cb, .slice al l.length cl, .int .i64 prio] w fun e w' => e = .returned (.bool true) ∧ Below w.heap.size w w' := by
  have hd : ∀ x ∈ b, x.da.size ≤ maxLen := fun x hx => (hG x hx).1
  have HD := Lib.hid hd; have HB := Lib.hid hb; have HL := Lib.hid hl; have HT := Lib.hid hT; have HH := Lib.hid hH
  have GLI := Lib.hid (light_any ab al cb cl b l w hb hl)
  have GA := Lib.hid (fun W (hB : Below w.heap.size w W) => awake_any W (hT.on hB) (hH.on hB))
  clear hb hl hT hH hG hGo hd
  go_enter Tryd.func3, Tryd.ntmps3
  go_upto_if 22 with (go_at_call 7; (with_reducible refine (GLI.out).mono ?_); rintro e w1 ⟨p, rfl, hp, B1⟩)
  cases p
  · go_wp2_with (go_at_call 8; (with_reducible refine (GA.out _ B1).mono ?_); rintro e w2 ⟨rfl, h2⟩)
    go_ret
    exact ⟨rfl, bt B1 h2⟩
  · obtain ⟨hlb, hll⟩ := hp rfl
    clear GLI hp
    have HLB := Lib.hid hlb; have HLL := Lib.hid hll
    clear hlb hll
    go_upto_region 4 with (first
      | (go_at_call 9; (with_reducible refine (own_any ab cb b (by have := HLB.out; omega) _ (HB.out.below B1)).mono ?_); rintro e w2 ⟨v2, rfl, ho2, h2⟩; (obtain ⟨a2, c2, rfl, hS2, _⟩ := srow_of_owns bn_len ho2); (have B2 := bt B1 h2); clear ho2 h2)
      | (go_at_call 10; (with_reducible refine (lownO_any al cl l (by have := HLL.out; omega) _ (HL.out.below B2)).mono ?_); rintro e w3 ⟨v3, rfl, ho3, h3⟩; (obtain ⟨a3, c3, rfl, hS3, _⟩ := srow_of_owns oc_len ho3); (have B3 := bt B2 h3); (have HS2 := Lib.hid (hS2.below h3)); (have HS3 := Lib.hid hS3); clear ho3 h3 hS2 hS3))
    obtain ⟨r1, hr1⟩ : ∃ r, (runC b l).1 = r := ⟨_, rfl⟩
    obtain ⟨r2, hr2⟩ : ∃ r, (runC b l).2 = r := ⟨_, rfl⟩
    have g1 := rcheck_any a2 a3 c2 c3 b l HD.out w3 (HT.out.on B3) HS2.out HS3.out
    have g2 := fun W (hW : Below w.heap.size w W) => rrcheck_any ab al cb cl b l HD.out W (HB.out.below hW) (HL.out.below hW)
    rw [hr1, hr2] at g1
    simp only [hr1, hr2] at g2
    have G1 := Lib.hid g1; have G2 := Lib.hid g2
    clear g1 g2 hr1 hr2 B1 B2
    go_upto_region 8 with (first
      | (go_at_call 11; (with_reducible refine (G1.out).mono ?_); rintro e w4 ⟨rfl, h4⟩; (have B4 := bt B3 h4); (have HS4 := Lib.hid (And.intro (HS2.out.below h4) (HS3.out.below h4))); clear h4 G1 HS2 HS3)
      | (go_at_call 12; (with_reducible refine (G2.out _ B4).mono ?_); rintro e w5 ⟨rfl, h5⟩; (have B5 := bt B4 h5); (have HS5 := Lib.hid (And.intro (HS4.out.1.below h5) (HS4.out.2.below h5))); clear h5 G2 HS4))
    clear B3 B4
    obtain ⟨p, hp⟩ : ∃ p, prioC b l prio = p := ⟨_, rfl⟩
    obtain ⟨C, hC⟩ : ∃ C, couR b l prio = C := ⟨_, rfl⟩
    obtain ⟨D, hD⟩ : ∃ D, latD b l prio = D := ⟨_, rfl⟩
    have hCl := couR_len b l prio
    have g1 := pcounts_any a2 a3 c2 c3 b l prio HD.out w5 (HT.out.on B5) HS5.out.1 HS5.out.2
    have g2 := fun W (hW : Below w.heap.size w W) => rcounts_any ab al cb cl b l prio HD.out W (HB.out.below hW) (HL.out.below hW)
    have g3 := fun W (hW : Below w.heap.size w W) (h1 : SRow bn 9 W a2 c2 b) (h2 : SRow oc 7 W a3 c3 l) => plate_any a2 a3 c2 c3 b l prio HD.out W (HT.out.on hW) h1 h2
    have g4 := fun W (hW : Below w.heap.size w W) => rplate_any ab al cb cl b l prio HD.out W (HB.out.below hW) (HL.out.below hW)
    rw [hp, hC] at g1
    simp only [hp, hC] at g2
    simp only [hp, hD] at g3 g4
    rw [hC] at hCl
    obtain ⟨n, su, le, gr, me⟩ := D
    simp only [dv] at g3 g4
    have G1 := Lib.hid g1; have G2 := Lib.hid g2; have G3 := Lib.hid g3; have G4 := Lib.hid g4
    have HCL := Lib.hid hCl
    clear g1 g2 g3 g4 hp hC hD hCl
    go_upto_region 10 with (first
      | (go_at_call 13; (with_reducible refine (G1.out).mono ?_); rintro e w6 ⟨a6, c6, rfl, hs6, h6⟩; (have B6 := bt B5 h6); (have HS6 := Lib.hid (And.intro (HS5.out.1.below h6) (And.intro (HS5.out.2.below h6) hs6))); clear h6 hs6 G1 HS5)
      | (go_at_call 14; (with_reducible refine (G2.out _ B6).mono ?_); rintro e w7 ⟨a7, c7, rfl, hs7, h7⟩; (have B7 := bt B6 h7); (have HS7 := Lib.hid (And.intro (HS6.out.1.below h7) (And.intro (HS6.out.2.1.below h7) (And.intro (HS6.out.2.2.below h7) hs7)))); clear h7 hs7 G2 HS6))
    clear B5 B6
    go_upto_region 11 with (go_at_call 15; (with_reducible refine (G3.out _ B7 HS7.out.1 HS7.out.2.1).mono ?_); rintro e w8 ⟨rfl, h8⟩)
    obtain ⟨d1, hd1⟩ : ∃ d, d = w8.heap.size := ⟨_, rfl⟩
    obtain ⟨u1, hu1⟩ : ∃ u, u = w8.alloc (.cells #[.int .i64 n, .int .i64 su, .int .i64 le, .int .i64 gr, .int .i64 me] 35) := ⟨_, rfl⟩
    have hb8 : Below w7.heap.size w7 u1 := by rw [hu1]; exact h8.alloc h8.size _
    have B8 := bt B7 hb8
    have kb1 : blk u1 d1 = some #[.int .i64 n, .int .i64 su, .int .i64 le, .int .i64 gr, .int .i64 me] := by rw [hu1, hd1]; exact blk_alloc_new _ _ _ rfl
    have HS8 := Lib.hid (And.intro (HS7.out.1.below hb8) (And.intro (HS7.out.2.1.below hb8) (And.intro (HS7.out.2.2.1.below hb8) (HS7.out.2.2.2.below hb8))))
    rw [← hu1, ← hd1]
    clear hu1 hd1 hb8 h8 HS7 B7 G3
    go_upto_region 12 with (go_at_call 16; (with_reducible refine (G4.out _ B8).mono ?_); rintro e w9 ⟨rfl, h9⟩)
    obtain ⟨d2, hd2⟩ : ∃ d, d = w9.heap.size := ⟨_, rfl⟩
    obtain ⟨u2, hu2⟩ : ∃ u, u = w9.alloc (.cells #[.int .i64 n, .int .i64 su, .int .i64 le, .int .i64 gr, .int .i64 me] 35) := ⟨_, rfl⟩
    have hb9 : Below u1.heap.size u1 u2 := by rw [hu2]; exact h9.alloc h9.size _
    have B9 := bt B8 hb9
    have kb2 : blk u2 d1 = some #[.int .i64 n, .int .i64 su, .int .i64 le, .int .i64 gr, .int .i64 me] ∧ blk u2 d2 = some #[.int .i64 n, .int .i64 su, .int .i64 le, .int .i64 gr, .int .i64 me] := by
      refine ⟨blk_below hb9 kb1, ?_⟩
      rw [hu2, hd2]; exact blk_alloc_new _ _ _ rfl
    have HS9 := Lib.hid (And.intro (HS8.out.1.below hb9) (And.intro (HS8.out.2.1.below hb9) (And.intro (HS8.out.2.2.1.below hb9) (HS8.out.2.2.2.below hb9))))
    rw [← hu2, ← hd2]
    have KB := Lib.hid kb2
    clear hu2 hd2 hb9 h9 HS8 B8 G4 kb1 kb2
    have g1 := sameZ_any a6 a7 c6 c7 C C HCL.out HCL.out u2 HS9.out.2.2.1 HS9.out.2.2.2
    rw [decide_eq_true (rfl : C = C)] at g1
    have g2 := fun W (hW : Below w.heap.size w W) (h1 : SRow bn 9 W a2 c2 b) => sameB_any a2 ab c2 cb b b (by have := HLB.out; omega) (by have := HLB.out; omega) W h1 (HB.out.below hW)
    have g3 := fun W (hW : Below w.heap.size w W) (h1 : SRow oc 7 W a3 c3 l) => unch_any a3 al c3 cl l l (by have := HLL.out; omega) (by have := HLL.out; omega) W h1 (HL.out.below hW)
    simp only [sameL_self] at g2
    simp only [sameG_self] at g3
    have G1 := Lib.hid g1; have G2 := Lib.hid g2; have G3 := Lib.hid g3
    clear g1 g2 g3
    have n1 := kn KB.out.1
    have n2 := kn KB.out.2
    go_wp2_with (first
      | (go_at_call 17; (with_reducible refine (G1.out).mono ?_); rintro e w10 ⟨rfl, h10⟩; (have B10 := bt B9 h10); clear n1 n2; (have n1 := kn (blk_below h10 KB.out.1)); (have n2 := kn (blk_below h10 KB.out.2)); (have HS10 := Lib.hid (And.intro (HS9.out.1.below h10) (HS9.out.2.1.below h10))); clear h10)
      | (go_at_call 18; (with_reducible refine (G2.out _ B10 HS10.out.1).mono ?_); rintro e w11 ⟨rfl, h11⟩; (have B11 := bt B10 h11); (have HS11 := Lib.hid (HS10.out.2.below h11)); clear h11)
      | (go_at_call 19; (with_reducible refine (G3.out _ B11 HS11.out).mono ?_); rintro e w12 ⟨rfl, h12⟩; (have B12 := bt B11 h12); clear h12)
      | (go_at_call 8; (with_reducible refine (GA.out _ B12).mono ?_); rintro e w13 ⟨rfl, h13⟩; (have B13 := bt B12 h13); clear h13))
    go_ret
    exact ⟨rfl, B13⟩
theorem reportCounts_at (ab : Option Addr) (cb : Nat) (b : List Bn) (al : Option Addr) (cl : Nat) (l : List Oc) (prio : Int) (w : World) (hb : SRow bn 9 w ab cb b) (hG : ∀ x ∈ b, GdB x) (hl : SRow oc 7 w al cl l) (hGo : ∀ x ∈ l, GdO x) (hH : Lib.TabIs Tryd.prog w headsNm .u8 headsTab) (hT : PairIs Tryd.prog w facesNm facesT) :
    Calls Tryd.prog 3 #[.slice ab b.length cb, .slice al l.length cl, .int .i64 prio] w fun e w' => e = .returned (.bool true) ∧ Below w.heap.size w w' :=
  reportCounts_walk ab cb b al cl l prio w hb hG hl hGo (ftab_of hT) (htab_of hH)
end Go.Proofs.YthfmkkkdjgkaoaaDoor
