/- Parts of a proof, printed by a program of mine out of my texts: RpLsP, RpLawS. -/
import Derived.Test.YthfmkkkdjgkaoaaDoorMAB
import Derived.Test.YthfmkkkdjgkaoaaDoorMK
import Derived.Test.YthfmkkkdjgkaoaaDoorMX
import Derived.Test.YthfmkkkdjgkaoaaDoorMX9
set_option linter.unusedSimpArgs false
set_option linter.unusedVariables false
namespace Go.Proofs.YthfmkkkdjgkaoaaDoor
open Go.RowKit
theorem prioC_in {b : List Bn} {l : List Oc} {p : Int} (h : (runC b l).1 = 0) (h1 : -1 ≤ p) (h2 : p ≤ 2) : prioC b l p = 0 := by
  rcases prioC_cases b l p with ⟨h3, _⟩ | ⟨_, h4, _⟩ | ⟨_, _, h4, _⟩ | ⟨_, _, _, h4⟩
  · exact absurd h h3
  · omega
  · omega
  · exact h4
set_option maxRecDepth 100000 in
set_option maxHeartbeats 1600000 in
theorem pcounts_new (ab al : Option Addr) (cb cl : Nat) (b : List Bn) (l : List Oc) (prio : Int) (hv : RunV b l) (h1 : -1 ≤ prio) (h2 : prio ≤ 2) (hd : ∀ x ∈ b, x.da.size ≤ maxLen) (w : World) (hT : FTab w) (hb : SRow bn 9 w ab cb b) (hl : SRow oc 7 w al cl l) :
    Calls Tryd.prog 13 #[.slice ab b.length cb, .slice al l.length cl, .int .i64 prio] w fun e w' => ∃ g, e = .returned (.tuple #[.slice (some ⟨g, 0, none⟩) 6 6, .int .i64 0]) ∧ w.heap.size ≤ g ∧ blk w' g = some (outI (cntO b l prio)) ∧ Below w.heap.size w w' := by
  have hr := runC_ok hv
  have go : ∀ W, Below w.heap.size w W → Calls Tryd.prog 36 #[.slice ab b.length cb, .slice al l.length cl] W fun e w' => e = .returned (.tuple #[.agg #[.slice ab b.length cb, .slice al l.length cl], .int .i64 0]) ∧ Below W.heap.size W w' := fun W hB => by
    have h := open_any ab al cb cl b l hd W (hT.on hB) (hb.below hB) (hl.below hB)
    rwa [hr] at h
  have gc : ∀ W, Below w.heap.size w W → Calls Tryd.prog 37 #[.agg #[.slice ab b.length cb, .slice al l.length cl], .int .i64 prio] W fun e w' => e = .returned (.agg (outI (cntO b l prio))) ∧ Below W.heap.size W w' := fun W hB => counts_any ab al cb cl b l prio hv.len hv.kinds W (hb.below hB) (hl.below hB)
  obtain ⟨f, hf⟩ : ∃ f, cntO b l prio = f := ⟨_, rfl⟩
  rw [hf] at gc ⊢
  have GO := Lib.hid go; have GC := Lib.hid gc
  have q0 : ((0 : Int) != 0) = false := rfl
  have q1 : decide (prio < -1) = false := decide_eq_false (by omega)
  have q2 : decide (2 < prio) = false := decide_eq_false (by omega)
  clear go gc hf hr hd hT hb hl hv
  unfold outI at GC
  go_enter Tryd.func13, Tryd.ntmps13
  go_wp2_with (first | (go_at_call 36; (with_reducible refine (GO.out _ (by (repeat (first | (with_reducible assumption) | (with_reducible exact Below.refl _ _) | (with_reducible refine beld_drew ?_) | ((with_reducible refine bset' ?_ ?_); (first | (focus (dsimp only; assumption)) | (focus (simp; done)) | (focus (dsimp only; omega)))) | (with_reducible refine belt_alloc ?_) | ((with_reducible refine zeroed_below' ?_ ?_); (first | (focus (simp; done)) | (focus (dsimp only; omega)))) | (with_reducible refine bt ?_ (by assumption)))))).mono ?_); rintro e w2 ⟨rfl, h2⟩; (have B2 : Below w.heap.size w w2 := (by (repeat (first | (with_reducible assumption) | (with_reducible exact Below.refl _ _) | (with_reducible refine beld_drew ?_) | ((with_reducible refine bset' ?_ ?_); (first | (focus (dsimp only; assumption)) | (focus (simp; done)) | (focus (dsimp only; omega)))) | (with_reducible refine belt_alloc ?_) | ((with_reducible refine zeroed_below' ?_ ?_); (first | (focus (simp; done)) | (focus (dsimp only; omega)))) | (with_reducible refine bt ?_ (by assumption))))))) | (go_at_call 37; (with_reducible refine (GC.out _ (by (repeat (first | (with_reducible assumption) | (with_reducible exact Below.refl _ _) | (with_reducible refine beld_drew ?_) | ((with_reducible refine bset' ?_ ?_); (first | (focus (dsimp only; assumption)) | (focus (simp; done)) | (focus (dsimp only; omega)))) | (with_reducible refine belt_alloc ?_) | ((with_reducible refine zeroed_below' ?_ ?_); (first | (focus (simp; done)) | (focus (dsimp only; omega)))) | (with_reducible refine bt ?_ (by assumption)))))).mono ?_); rintro e w3 ⟨rfl, h3⟩))
  have hB3 : w2.heap.size + 1 ≤ w3.heap.size := by have := h3.size; simpa using this
  have hB2 := B2.size
  go_ret2
  exact ⟨_, rfl, by omega, blk_alloc_new _ _ _ rfl, by (repeat (first | (with_reducible assumption) | (with_reducible exact Below.refl _ _) | (with_reducible refine beld_drew ?_) | ((with_reducible refine bset' ?_ ?_); (first | (focus (dsimp only; assumption)) | (focus (simp; done)) | (focus (dsimp only; omega)))) | (with_reducible refine belt_alloc ?_) | ((with_reducible refine zeroed_below' ?_ ?_); (first | (focus (simp; done)) | (focus (dsimp only; omega)))) | (with_reducible refine bt ?_ (by assumption))))⟩
def sp (b : List Bn) (l : List Oc) : Nat → Nat → Int
  | 0, _ => 0
  | j + 1, i => sp b l j i + cntO b l (j : Int) i
def mixS (b : List Bn) (l : List Oc) (j k i : Nat) : Int := if i < k then sp b l (j + 1) i else sp b l j i
theorem mixS_0 (b : List Bn) (l : List Oc) (j : Nat) : mixS b l j 0 = sp b l j := by funext i; unfold mixS; rw [if_neg (by omega)]
theorem mixS_6 (b : List Bn) (l : List Oc) (j : Nat) : outI (mixS b l j 6) = outI (sp b l (j + 1)) := by
  unfold outI mixS; simp
theorem mixS_at (b : List Bn) (l : List Oc) (j k : Nat) : mixS b l j k k = sp b l j k := by unfold mixS; rw [if_neg (by omega)]
theorem mixS_succ (b : List Bn) (l : List Oc) (j k : Nat) : (fun i => if i = k then sp b l j k + cntO b l (j : Int) k else mixS b l j k i) = mixS b l j (k + 1) := by
  funext i
  unfold mixS
  by_cases h : i = k
  · subst h; rw [if_pos rfl, if_pos (by omega)]; rfl
  · rw [if_neg h]
    by_cases h2 : i < k
    · rw [if_pos h2, if_pos (by omega)]
    · rw [if_neg h2, if_neg (by omega)]
theorem sp_bd (b : List Bn) (l : List Oc) : ∀ j i, 0 ≤ sp b l j i ∧ sp b l j i ≤ (j : Int) * b.length
  | 0, i => by simp [sp]
  | j + 1, i => by
    have h1 := sp_bd b l j i
    have h2 := cntO_le b l (j : Int) i
    have e : ((j + 1 : Nat) : Int) * (b.length : Int) = (j : Int) * b.length + b.length := by rw [Int.natCast_succ, Int.add_mul, Int.one_mul]
    show 0 ≤ sp b l j i + cntO b l (j : Int) i ∧ sp b l j i + cntO b l (j : Int) i ≤ _
    rw [e]; omega
theorem sp_3 {b : List Bn} {l : List Oc} (h : ∀ x ∈ b, 0 ≤ x.pr ∧ x.pr ≤ 2) (i : Nat) : sp b l 3 i = cntO b l (-1) i := by
  rw [cntO_parts l i h]
  show 0 + cntO b l ((0 : Nat) : Int) i + cntO b l ((1 : Nat) : Int) i + cntO b l ((2 : Nat) : Int) i = _
  simp
def mn (b : List Bn) (l : List Oc) : Nat → Int
  | 0 => 0
  | j + 1 => mn b l j + (dlyO (allO b l (j : Int))).n
def ms (b : List Bn) (l : List Oc) : Nat → Int
  | 0 => 0
  | j + 1 => ms b l j + (dlyO (allO b l (j : Int))).su
theorem mn_bd {b : List Bn} {l : List Oc} (hv : RunV b l) : ∀ j : Nat, 0 ≤ mn b l j ∧ mn b l j ≤ (j : Int) * 1000
  | 0 => by simp [mn]
  | j + 1 => by
    have h1 := mn_bd hv j
    obtain ⟨h2, _⟩ := dly_bd hv (j : Int)
    show 0 ≤ mn b l j + _ ∧ mn b l j + _ ≤ _
    omega
theorem ms_bd {b : List Bn} {l : List Oc} (hv : RunV b l) : ∀ j : Nat, 0 ≤ ms b l j ∧ ms b l j ≤ (j : Int) * 1099511627776000
  | 0 => by simp [ms]
  | j + 1 => by
    have h1 := ms_bd hv j
    obtain ⟨_, h2, _⟩ := dly_bd hv (j : Int)
    show 0 ≤ ms b l j + _ ∧ ms b l j + _ ≤ _
    omega
theorem mn_3 {b : List Bn} {l : List Oc} (h : ∀ x ∈ b, 0 ≤ x.pr ∧ x.pr ≤ 2) : mn b l 3 = (dlyO (allO b l (-1))).n := by
  have h1 := (allO_parts b l h).1
  show 0 + (dlyO (allO b l ((0 : Nat) : Int))).n + (dlyO (allO b l ((1 : Nat) : Int))).n + (dlyO (allO b l ((2 : Nat) : Int))).n = _
  rw [(dlyO_n _).1, (dlyO_n _).1, (dlyO_n _).1, (dlyO_n _).1, h1]
  simp
theorem ms_3 {b : List Bn} {l : List Oc} (h : ∀ x ∈ b, 0 ≤ x.pr ∧ x.pr ≤ 2) : ms b l 3 = (dlyO (allO b l (-1))).su := by
  have h1 := (allO_parts b l h).2
  show 0 + (dlyO (allO b l ((0 : Nat) : Int))).su + (dlyO (allO b l ((1 : Nat) : Int))).su + (dlyO (allO b l ((2 : Nat) : Int))).su = _
  rw [(dlyO_n _).2, (dlyO_n _).2, (dlyO_n _).2, (dlyO_n _).2, h1]
  simp
theorem prod_bd {x y Y : Int} (h1 : 0 ≤ x ∧ x ≤ 1000) (h2 : 0 ≤ y ∧ y ≤ Y) : 0 ≤ x * y ∧ x * y ≤ 1000 * Y :=
  ⟨Int.mul_nonneg h1.1 h2.1, Int.mul_le_mul h1.2 h2.2 h2.1 (by omega)⟩
end Go.Proofs.YthfmkkkdjgkaoaaDoor
namespace Go.Proofs.YthfmkkkdjgkaoaaDoor
open Go.RowKit
structure SumI (u0 : World) (s gc dd : Nat) (f c : Nat → Int) (D : Array Value) (W : World) : Prop where
  bel : Below u0.heap.size u0 W
  sums : blk W s = some (outI f)
  row : blk W gc = some (outI c)
  del : blk W dd = some D
theorem SumI.below {u0 W W' : World} {s gc dd : Nat} {f c : Nat → Int} {D : Array Value} (h : SumI u0 s gc dd f c D W) (hb : Below W.heap.size W W') : SumI u0 s gc dd f c D W' :=
  ⟨bt h.bel hb, blk_below hb h.sums, blk_below hb h.row, blk_below hb h.del⟩
theorem SumI.put {u0 W : World} {s gc dd k : Nat} {f c f' : Nat → Int} {D : Array Value} {v : Int} (h : SumI u0 s gc dd f c D W) (hs : u0.heap.size ≤ s) (h1 : s ≠ gc) (h2 : s ≠ dd) (hk : k < 6) (e : (fun i => if i = k then v else f i) = f') : SumI u0 s gc dd f' c D (W.setCell ⟨s, k, none⟩ (.int .i64 v)) :=
  ⟨h.bel.setCell hs _, by rw [← e, ← outI_set f hk]; exact blk_set h.sums, blk_other h.row (Ne.symm h1), blk_other h.del (Ne.symm h2)⟩
theorem wp_fresh2 {P : Program} {cd : Code} {Q : Exit → Act → World → Prop} {a : Act} {W w0 : World} {B : Nat} (b1 b2 : Nat) (c1 c2 : Array Value) (h1 : blk W b1 = some c1) (h2 : blk W b2 = some c2) (hB : Below B w0 W)
    (h : ∀ w', blk w' b1 = some c1 → blk w' b2 = some c2 → Below B w0 w' → cd.wp P Q a w') : cd.wp P Q a W := h W h1 h2 hB
theorem wp_freshP {P : Program} {cd : Code} {Q : Exit → Act → World → Prop} {a : Act} {W : World} (C : World → Prop) (h1 : C W) (h : ∀ w', C w' → cd.wp P Q a w') : cd.wp P Q a W := h W h1
set_option maxRecDepth 100000 in
set_option maxHeartbeats 6400000 in
theorem reportSums_walk (a : Option Addr) (cap : Nat) (zs : List Int) (w : World) (hT : FTab w) (hH : HTab w) (hP : Lib.TabBelow Tryd.prog w.heap.size w powNm .u64 Lib.pow10Tab) (hrow : Row .i64 w a cap zs) :
    Calls Tryd.prog 5 #[.slice a zs.length cap] w fun e w' => e = .returned (.bool true) ∧ Below w.heap.size w w' := by
  have GK := Lib.hid (reportKnown_any w hT hH hP)
  have GM := Lib.hid (fun W (hB : Below w.heap.size w W) => madeB_any a cap zs W (hrow.below hB))
  have HT : Hid (∀ W, Below w.heap.size w W → FTab W) := Lib.hid fun W hB => hT.on hB
  clear hT hH hP hrow
  go_enter Tryd.func5, Tryd.ntmps5
  go_upto_region 3 with (first
    | (go_at_call 4; (with_reducible refine (GK.out).mono ?_); rintro e w1 ⟨rfl, h1⟩)
    | (go_at_call 28; (with_reducible refine (GM.out _ h1).mono ?_); rintro e w2 ⟨b, l, a1, c1, a2, c2, rfl, hb, hl, hs1, hs2, h2⟩))
  obtain ⟨hv, hd⟩ := made_len b l hb hl
  have hpr := made_prio hb.1
  have hr0 := runC_ok hv
  have hr1 : (runC b l).1 = 0 := by rw [hr0]
  have B2 := bt h1 h2
  have GC : Hid (∀ (p : Int) W, -1 ≤ p → p ≤ 2 → Below w2.heap.size w2 W → Calls Tryd.prog 13 #[.slice a1 6 c1, .slice a2 l.length c2, .int .i64 p] W fun e w' => ∃ g, e = .returned (.tuple #[.slice (some ⟨g, 0, none⟩) 6 6, .int .i64 0]) ∧ W.heap.size ≤ g ∧ blk w' g = some (outI (cntO b l p)) ∧ Below W.heap.size W w') := Lib.hid fun p W p1 p2 hB => by
    have h := pcounts_new a1 a2 c1 c2 b l p hv p1 p2 (fun x hx => (hd x hx).1) W (HT.out _ (bt B2 hB)) (hs1.below hB) (hs2.below hB)
    rwa [hb.2.1] at h
  have GL : Hid (∀ (p : Int) W, -1 ≤ p → p ≤ 2 → Below w2.heap.size w2 W → Calls Tryd.prog 15 #[.slice a1 6 c1, .slice a2 l.length c2, .int .i64 p] W fun e w' => e = .returned (.tuple #[.agg (dv (dlyO (allO b l p))), .int .i64 0]) ∧ Below W.heap.size W w') := Lib.hid fun p W p1 p2 hB => by
    have h := plate_any a1 a2 c1 c2 b l p (fun x hx => (hd x hx).1) W (HT.out _ (bt B2 hB)) (hs1.below hB) (hs2.below hB)
    have hz := prioC_in hr1 p1 p2
    have e : latD b l p = dlyO (allO b l p) := by unfold latD; rw [if_pos hz]
    rwa [hb.2.1, hz, e] at h
  have HV := Lib.hid hv
  have HPR := Lib.hid hpr
  have hlb : b.length = 6 := hb.2.1
  have HLB := Lib.hid hlb
  have HB2 := Lib.hid B2
  clear hb hl hs1 hs2 hd hpr hr0 hr1 h1 h2 GK GM HT hv hlb B2
  have gl := GL.out (-1)
  obtain ⟨wD, hwD⟩ : ∃ D, dlyO (allO b l (-1)) = D := ⟨_, rfl⟩
  rw [hwD] at gl
  obtain ⟨wn, ws, wle, wgr, wme⟩ := wD
  simp only [dv] at gl
  have GLW := Lib.hid gl
  have HWD := Lib.hid hwD
  clear gl hwD
  have q0 : ((0 : Int) != 0) = false := rfl
  go_upto_region 5 with (first
    | (go_at_call 13; (with_reducible refine (GC.out _ _ (by decide) (by decide) (Below.refl _ _)).mono ?_); rintro e w3 ⟨gA, rfl, lA, kA, h3⟩)
    | (go_at_call 15; (with_reducible refine (GLW.out _ (by decide) (by decide) h3).mono ?_); rintro e w4 ⟨rfl, h4⟩))
  have kA4 := blk_below h4 kA
  have b4 := bt h3 h4
  clear h3 h4 kA lA
  refine wp_fresh2 gA w4.heap.size (outI (cntO b l (-1))) #[.int .i64 wn, .int .i64 ws, .int .i64 wle, .int .i64 wgr, .int .i64 wme] (by exact blk_alloc kA4 _) (by exact blk_alloc_new _ _ _ rfl) (by exact b4.alloc b4.size _) ?_
  intro u kA5 kD5 b5
  obtain ⟨dw, hdw⟩ : ∃ d, d = w4.heap.size := ⟨_, rfl⟩
  rw [← hdw] at kD5 ⊢
  clear hdw kA4 b4
  go_upto_region 8 with fail
  obtain ⟨s, hs⟩ : ∃ d, d = u.heap.size := ⟨_, rfl⟩
  obtain ⟨u1, hu1⟩ : ∃ d, d = u.alloc (.cells #[.int .i64 0, .int .i64 0, .int .i64 0, .int .i64 0, .int .i64 0, .int .i64 0] 60) := ⟨_, rfl⟩
  have ks : blk u1 s = some (outI (sp b l 0)) := by rw [hu1, hs]; exact blk_alloc_new _ _ _ rfl
  have bu : Below u.heap.size u u1 := by rw [hu1]; exact (Below.refl _ _).alloc (Nat.le_refl _) _
  have hsu : u.heap.size ≤ s := by omega
  rw [← hu1, ← hs]
  have HK := Lib.hid (And.intro kA5 (And.intro kD5 b5))
  have HKS := Lib.hid (And.intro ks bu)
  clear hu1 hs ks bu kA5 kD5 b5
  go_wp2
  go_loopw [11, 12, 13] (fun s11 s12 s13 wr => ∃ j : Nat, s13 = .int .i64 j ∧ j ≤ 3 ∧ s11 = .int .i64 (mn b l j) ∧ s12 = .int .i64 (ms b l j) ∧ Hid (blk wr s = some (outI (sp b l j)) ∧ Below u.heap.size u wr)) (fun _ _ s13 _ => 3 - (intOf s13).toNat)
  case atStart => exact ⟨0, rfl, by omega, rfl, rfl, HKS⟩
  case round =>
    clear HKS
    obtain ⟨j, rfl, hj, rfl, rfl, HR⟩ := hrel
    by_cases hlt : j < 3
    · have hltz : (j : Int) < 3 := by omega
      have gc := GC.out (j : Int)
      have gl := GL.out (j : Int)
      have hbd := dly_bd HV.out (j : Int)
      have hbo := dlyO_bounds (allO b l (j : Int))
      have hmn := mn_bd HV.out j
      have hms := ms_bd HV.out j
      have hmn1 : mn b l (j + 1) = mn b l j + (dlyO (allO b l (j : Int))).n := rfl
      have hms1 : ms b l (j + 1) = ms b l j + (dlyO (allO b l (j : Int))).su := rfl
      obtain ⟨D, hD⟩ : ∃ D, dlyO (allO b l (j : Int)) = D := ⟨_, rfl⟩
      rw [hD] at gl hbd hbo hmn1 hms1
      obtain ⟨n, su, le, gr, me⟩ := D
      simp only [dv] at gl
      simp only at hbd hbo hmn1 hms1
      obtain ⟨d1, d2, d3, d4, d5⟩ := hbd
      obtain ⟨o1, o2, o3, o4, o5⟩ := hbo
      have p1 := prod_bd d1 d3
      have p2 := prod_bd d1 d4
      have GCJ := Lib.hid gc; have GLJ := Lib.hid gl
      have x1 : decide (n < 0) = false := decide_eq_false (by omega)
      have x2 : decide (me < le) = false := decide_eq_false (by omega)
      have x3 : decide (gr < me) = false := decide_eq_false (by omega)
      have x4 : IntKind.i64.wrap (n * le) = n * le := IntWalk.i64_in _ (by omega)
      have x5 : IntKind.i64.wrap (n * gr) = n * gr := IntWalk.i64_in _ (by omega)
      have x6 : decide (su < n * le) = false := decide_eq_false (by omega)
      have x7 : decide (n * gr < su) = false := decide_eq_false (by omega)
      have x8 : IntKind.i64.wrap (mn b l j + n) = mn b l (j + 1) := by rw [hmn1]; exact IntWalk.i64_in _ (by omega)
      have x9 : IntKind.i64.wrap (ms b l j + su) = ms b l (j + 1) := by rw [hms1]; exact IntWalk.i64_in _ (by omega)
      clear hD gc gl hmn hms hmn1 hms1 d1 d2 d3 d4 d5 o1 o2 o3 o4 o5 p1 p2
      obtain ⟨MN, hMN⟩ : ∃ x, mn b l (j + 1) = x := ⟨_, rfl⟩
      obtain ⟨MS, hMS⟩ : ∃ x, ms b l (j + 1) = x := ⟨_, rfl⟩
      rw [hMN] at x8
      rw [hMS] at x9
      have HMN := Lib.hid hMN; have HMS := Lib.hid hMS
      clear hMN hMS
      obtain ⟨mj, hmj⟩ : ∃ x, mn b l j = x := ⟨_, rfl⟩
      obtain ⟨sj, hsj⟩ : ∃ x, ms b l j = x := ⟨_, rfl⟩
      rw [hmj] at x8 ⊢
      rw [hsj] at x9 ⊢
      clear hmj hsj
      go_upto_region 14 with (first
        | (go_at_call 13; (with_reducible refine (GCJ.out _ (by omega) (by omega) (bt HK.out.2.2 HR.out.2)).mono ?_); rintro e v3 ⟨gC, rfl, lC, kC, h3⟩)
        | (go_at_call 15; (with_reducible refine (GLJ.out _ (by omega) (by omega) (bt HK.out.2.2 (bt HR.out.2 h3))).mono ?_); rintro e v4 ⟨rfl, h4⟩))
      have hsl := blk_lt HR.out.1
      have F4 : SumI u s gC v4.heap.size (mixS b l j 0) (cntO b l (j : Int)) #[.int .i64 n, .int .i64 su, .int .i64 le, .int .i64 gr, .int .i64 me] (v4.alloc (.cells #[.int .i64 n, .int .i64 su, .int .i64 le, .int .i64 gr, .int .i64 me] 35)) := by
        rw [mixS_0]
        have h9 : Below v4.heap.size v4 (v4.alloc (.cells #[.int .i64 n, .int .i64 su, .int .i64 le, .int .i64 gr, .int .i64 me] 35)) := (Below.refl _ _).alloc (Nat.le_refl _) _
        exact ⟨bt HR.out.2 (bt h3 (bt h4 h9)), blk_below h9 (blk_below h4 (blk_below h3 HR.out.1)), blk_below h9 (blk_below h4 kC), blk_alloc_new _ _ _ rfl⟩
      have hne1 : s ≠ gC := by omega
      have hne2 : s ≠ v4.heap.size := by have h7 := h3.size; have h8 := h4.size; omega
      refine wp_freshP (SumI u s gC v4.heap.size (mixS b l j 0) (cntO b l (j : Int)) #[.int .i64 n, .int .i64 su, .int .i64 le, .int .i64 gr, .int .i64 me]) F4 ?_
      intro v F5
      obtain ⟨dd, hdd⟩ : ∃ d, d = v4.heap.size := ⟨_, rfl⟩
      rw [← hdd] at F5 hne2 ⊢
      have HF5 := Lib.hid F5
      clear F4 F5 hdd h3 h4 kC lC hsl HR GCJ GLJ
      have nd := kn HF5.out.del
      go_upto_region 16 with fail
      clear x1 x2 x3 x4 x5 x6 x7 nd
      go_wp2
      go_loopw [18] (fun s18 wr => ∃ i : Nat, s18 = .int .i64 i ∧ i ≤ 6 ∧ Hid (SumI u s gC dd (mixS b l j i) (cntO b l (j : Int)) #[.int .i64 n, .int .i64 su, .int .i64 le, .int .i64 gr, .int .i64 me] wr)) (fun s18 _ => 6 - (intOf s18).toNat)
      case atStart => exact ⟨0, rfl, by omega, HF5⟩
      case round =>
        clear HF5
        obtain ⟨i, rfl, hi, HF⟩ := hrel
        by_cases hi6 : i < 6
        · have hiz : (i : Int) < 6 := by omega
          have k1 := (blk_cell HF.out.sums i).trans (outI_at _ hi6)
          have k2 := (blk_cell HF.out.row i).trans (outI_at _ hi6)
          rw [mixS_at] at k1
          have hb1 := sp_bd b l j i
          have hb2 := cntO_le b l (j : Int) i
          have hln := HLB.out
          rw [hln] at hb1 hb2
          have hnew := HF.out.put (k := i) hsu hne1 hne2 hi6 (mixS_succ b l j i)
          obtain ⟨A, hA⟩ : ∃ x, sp b l j i = x := ⟨_, rfl⟩
          obtain ⟨C, hC⟩ : ∃ x, cntO b l (j : Int) i = x := ⟨_, rfl⟩
          rw [hA] at k1 hb1 hnew
          rw [hC] at k2 hb2 hnew
          have e1 : IntKind.i64.wrap (A + C) = A + C := IntWalk.i64_in _ (by omega)
          have HN : Hid (∀ W, Below wr.heap.size wr W → W.frozen? ⟨s, i, none⟩ = false ∧ W.cell? ⟨s, i, none⟩ = some (.int .i64 A) ∧ SumI u s gC dd (mixS b l j (i + 1)) (cntO b l (j : Int)) #[.int .i64 n, .int .i64 su, .int .i64 le, .int .i64 gr, .int .i64 me] (W.setCell ⟨s, i, none⟩ (.int .i64 (A + C)))) := Lib.hid fun W hW => by
            have h9 := HF.out.below hW
            refine ⟨blk_frozen h9.sums _, (hW.cell (p := ⟨s, i, none⟩) (blk_lt HF.out.sums)).trans k1, ?_⟩
            have h8 := h9.put (k := i) hsu hne1 hne2 hi6 (mixS_succ b l j i)
            rw [hA, hC] at h8
            exact h8
          have hsl := blk_lt HF.out.sums
          have hgl := blk_lt HF.out.row
          clear hA hC hnew hb1 hb2 hln HF
          go_upto_region 19 with fail
          refine wp_region_tail 10 (by kernel_rfl) (by kernel_rfl) ?_
          intro W0 hE hN
          have q1 := calm_cellR (W0 := W0) (by rw [hE.out]; exact hsl) (by rw [hE.out]; exact k1)
          have q2 := calm_cellR (W0 := W0) (by rw [hE.out]; exact hgl) (by rw [hE.out]; exact k2)
          clear k1 k2 hsl hgl
          simp only [List.take_succ_cons, List.take_zero, List.drop_succ_cons, List.drop_zero]
          repeat (go_big_quiet_step (fail))
          refine wpQuiet_nil ?_
          rintro _ ⟨x', rfl⟩
          obtain ⟨fz, c9, hF9⟩ := HN.out x'.wd (by rw [← hE.out]; exact x'.ok)
          have HF9 := Lib.hid hF9
          clear HN q1 q2 hE hN hF9
          obtain ⟨v9, hv9⟩ : ∃ v, v = x'.wd := ⟨_, rfl⟩
          rw [← hv9] at fz c9 HF9 ⊢
          clear hv9 x'
          go_wp2
          go_roundw
          case rel => exact ⟨i + 1, by go_num, by omega, HF9⟩
          case measure => simp [intOf]; omega
        · have hiz : ¬ (i : Int) < 6 := by omega
          have hi9 : i = 6 := by omega
          have nd := kn HF.out.del
          have HNX : Hid (blk wr s = some (outI (sp b l (j + 1))) ∧ Below u.heap.size u wr) := Lib.hid ⟨by rw [← mixS_6, ← hi9]; exact HF.out.sums, HF.out.bel⟩
          clear HF hi9
          go_wp2
          go_roundw
          case rel => exact ⟨j + 1, by go_num, by omega, by rw [HMN.out], by rw [HMS.out], HNX⟩
          case measure => simp [intOf]; omega
    · have hltz : ¬ (j : Int) < 3 := by omega
      have hj3 : j = 3 := by omega
      have HS : Hid (blk wr s = some (outI (cntO b l (-1)))) := Lib.hid (by
        have h9 := HR.out.1
        have e : sp b l j = cntO b l (-1) := by rw [hj3]; funext i; exact sp_3 HPR.out i
        rwa [e] at h9)
      have em : mn b l j = wn := by rw [hj3, mn_3 HPR.out, HWD.out]
      have es : ms b l j = ws := by rw [hj3, ms_3 HPR.out, HWD.out]
      rw [em, es]
      have kA := Lib.hid (blk_below HR.out.2 HK.out.1)
      have kD := Lib.hid (blk_below HR.out.2 HK.out.2.1)
      have BW := Lib.hid (bt HB2.out (bt HK.out.2.2 HR.out.2))
      have hbd := fun i => cntO_le b l (-1) i
      have htw := cntO_two b l (-1)
      have hal := allO_le b l (-1)
      have hwn := (dlyO_n (allO b l (-1))).1
      rw [HWD.out] at hwn
      simp only at hwn
      rw [← hwn] at hal
      simp only [HLB.out] at hbd htw
      have HBD := Lib.hid hbd; have HTW := Lib.hid htw; have HAL := Lib.hid hal
      clear em es hj3 HR HK HPR HWD HLB HB2 HV GC GL GLW hbd htw hal hwn
      obtain ⟨f, hf⟩ : ∃ f, cntO b l (-1) = f := ⟨_, rfl⟩
      rw [hf] at HS kA HBD HTW HAL
      clear hf
      obtain ⟨U, hU⟩ : ∃ U, U = wr := ⟨_, rfl⟩
      rw [← hU] at HS kA kD BW
      have B0 : Below U.heap.size U wr := by rw [hU]; exact Below.refl _ _
      clear hU
      go_wp2
      go_loopw [19] (fun s19 wq => ∃ i : Nat, s19 = .int .i64 i ∧ i ≤ 6 ∧ Below U.heap.size U wq) (fun s19 _ => 6 - (intOf s19).toNat)
      case atStart => exact ⟨0, rfl, by omega, B0⟩
      case round =>
        clear B0
        obtain ⟨i, rfl, hi, hB⟩ := hrel
        by_cases hi6 : i < 6
        · have hiz : (i : Int) < 6 := by omega
          have k1 := (blk_cell (blk_below hB HS.out) i).trans (outI_at _ hi6)
          have k2 := (blk_cell (blk_below hB kA.out) i).trans (outI_at _ hi6)
          have hsl := blk_lt (blk_below hB HS.out)
          have hgl := blk_lt (blk_below hB kA.out)
          have hb1 := HBD.out i
          obtain ⟨A, hA⟩ : ∃ x, f i = x := ⟨_, rfl⟩
          rw [hA] at k1 k2 hb1
          have y1 : (A != A) = false := by simp
          have y2 : decide (A < 0) = false := decide_eq_false (by omega)
          have y3 : decide (6 < A) = false := decide_eq_false (by omega)
          clear hA hb1
          go_upto_region 25 with fail
          refine wp_region_in (by kernel_rfl) (by kernel_rfl) ?_
          intro W0 hE hN
          have q1 := calm_cellR (W0 := W0) (by rw [hE.out]; exact hsl) (by rw [hE.out]; exact k1)
          have q2 := calm_cellR (W0 := W0) (by rw [hE.out]; exact hgl) (by rw [hE.out]; exact k2)
          clear k1 k2 hsl hgl
          repeat (go_big_quiet_step (fail))
          refine wpQuiet_nil ?_
          rintro _ ⟨x', rfl⟩
          have hB9 : Below U.heap.size U x'.wd := bt hB (by rw [← hE.out]; exact x'.ok)
          clear q1 q2 hE hN
          obtain ⟨v9, hv9⟩ : ∃ v, v = x'.wd := ⟨_, rfl⟩
          rw [← hv9] at hB9 ⊢
          clear hv9 x'
          go_wp2
          go_roundw
          case rel => exact ⟨i + 1, by go_num, by omega, hB9⟩
          case measure => simp [intOf]; omega
        · have hiz : ¬ (i : Int) < 6 := by omega
          have k0 := (blk_cell (blk_below hB kA.out) 0).trans (outI_at _ (by omega))
          have k2 := (blk_cell (blk_below hB kA.out) 2).trans (outI_at _ (by omega))
          have k5 := (blk_cell (blk_below hB kA.out) 5).trans (outI_at _ (by omega))
          have hgl := blk_lt (blk_below hB kA.out)
          have hdl := blk_lt (blk_below hB kD.out)
          have d0 : wr.cell? ⟨dw, 0, none⟩ = some (.int .i64 wn) := blk_cell (blk_below hB kD.out) 0
          have d1 : wr.cell? ⟨dw, 1, none⟩ = some (.int .i64 ws) := blk_cell (blk_below hB kD.out) 1
          have b0 := HBD.out 0; have b5 := HBD.out 5
          have htw := HTW.out; have hal := HAL.out
          obtain ⟨A0, h0⟩ : ∃ x, f 0 = x := ⟨_, rfl⟩
          obtain ⟨A2, h2⟩ : ∃ x, f 2 = x := ⟨_, rfl⟩
          obtain ⟨A5, h5⟩ : ∃ x, f 5 = x := ⟨_, rfl⟩
          rw [h0] at k0 b0 htw
          rw [h2] at k2 hal
          rw [h5] at k5 b5 htw
          have y1 : IntKind.i64.wrap (A0 + A5) = A0 + A5 := IntWalk.i64_in _ (by omega)
          have y2 : decide (A0 + A5 ≤ 6) = true := decide_eq_true (by omega)
          have y3 : decide (wn ≤ A2) = true := decide_eq_true hal
          have y4 : (wn == wn) = true := by simp
          have y5 : (ws == ws) = true := by simp
          clear h0 h2 h5 b0 b5 htw hal
          go_upto_region 27 with fail
          refine wp_region_in (by kernel_rfl) (by kernel_rfl) ?_
          intro W0 hE hN
          have q0 := calm_cellR (W0 := W0) (by rw [hE.out]; exact hgl) (by rw [hE.out]; exact k0)
          have q2 := calm_cellR (W0 := W0) (by rw [hE.out]; exact hgl) (by rw [hE.out]; exact k2)
          have q5 := calm_cellR (W0 := W0) (by rw [hE.out]; exact hgl) (by rw [hE.out]; exact k5)
          have z0 := calm_cellR (W0 := W0) (by rw [hE.out]; exact hdl) (by rw [hE.out]; exact d0)
          have z1 := calm_cellR (W0 := W0) (by rw [hE.out]; exact hdl) (by rw [hE.out]; exact d1)
          clear k0 k2 k5 d0 d1 hdl hgl
          repeat (go_big_quiet_step (fail))
          refine wpQuiet_nil ?_
          rintro _ ⟨x', rfl⟩
          have hB9 : Below U.heap.size U x'.wd := bt hB (by rw [← hE.out]; exact x'.ok)
          clear q0 q2 q5 z0 z1 hE hN
          obtain ⟨v9, hv9⟩ : ∃ v, v = x'.wd := ⟨_, rfl⟩
          rw [← hv9] at hB9 ⊢
          clear hv9 x'
          go_wp2
          go_ret
          exact ⟨rfl, bt BW.out hB9⟩
theorem reportSums_row (a : Option Addr) (len cap : Nat) (zs : List Int) (w : World) (h : IsRow .i64 w a len cap zs) (hP : Lib.TabIs Tryd.prog w powNm .u64 Lib.pow10Tab) (hH : Lib.TabIs Tryd.prog w headsNm .u8 headsTab) (hT : PairIs Tryd.prog w facesNm facesT) :
    Calls Tryd.prog 5 #[.slice a len cap] w fun e w' => e = .returned (.bool true) ∧ Below w.heap.size w w' := by
  obtain ⟨e, hr⟩ := row_of h
  have := reportSums_walk a cap (zs.take len) w (ftab_of hT) (htab_of hH) (Lib.tabBelow_of_tabIs hP) hr
  rw [← e] at this
  exact this
end Go.Proofs.YthfmkkkdjgkaoaaDoor
