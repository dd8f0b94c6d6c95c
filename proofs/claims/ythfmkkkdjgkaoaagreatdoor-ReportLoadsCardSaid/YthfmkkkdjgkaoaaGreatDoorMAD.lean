/- Parts of a proof, printed by a program of mine out of my texts: RpLtP, RpLawT. -/
import Derived.Test.YthfmkkkdjgkaoaaGreatDoorMAA
import Derived.Test.YthfmkkkdjgkaoaaGreatDoorMAC
import Derived.Test.YthfmkkkdjgkaoaaGreatDoorMD
import Derived.Test.YthfmkkkdjgkaoaaGreatDoorMI
import Derived.Test.YthfmkkkdjgkaoaaGreatDoorMM
import Derived.Test.YthfmkkkdjgkaoaaGreatDoorMX
import Derived.Test.YthfmkkkdjgkaoaaGreatDoorMZ
set_option linter.unusedSimpArgs false
set_option linter.unusedVariables false
namespace Go.Proofs.YthfmkkkdjgkaoaaGreatDoor
open Go.RowKit
theorem stepsW {b : List Bn} {l : List Oc} (hv : RunV b l) (node : Int) : ∃ t last, StpW (stepsO b szB node l) t last :=
  ⟨_, _, (stpS_ok (b := b) (sz := szB) (node := node) hv.ord (fun i hi => (ti_bd hv _ (List.getElem_mem hi)).1) l.length (Nat.le_refl _)).1⟩
theorem lastB_succ {s : List (Int × Int)} {i : Nat} (h : i < s.length) : lastB (s.take (i + 1)) = s[i].2 := by
  unfold lastB
  rw [List.take_succ_eq_append_getElem h, List.getLast?_concat]
  rfl
theorem lastB_ne {s : List (Int × Int)} {t last : Int} (w : StpW s t last) {i : Nat} (h : i < s.length) : s[i].2 ≠ lastB (s.take i) := by
  cases i with
  | zero => exact w.first h
  | succ k => rw [lastB_succ (by omega)]; exact w.ne k h
theorem asc_lt {s : List (Int × Int)} {t last : Int} (w : StpW s t last) {i : Nat} (h : i < s.length) (h0 : 0 < i) : (s[i - 1]'(by omega)).1 < s[i].1 :=
  List.pairwise_iff_getElem.1 w.asc (i - 1) i (by omega) h (by omega)
def wtB (b : List Bn) (l : List Oc) (node : Int) (i : Nat) : Int := sumI (((b.take i).filter fun x => heldB x.de node (ofO l (bid x))).map szB)
theorem wtB_succ {b : List Bn} {l : List Oc} {node : Int} {i : Nat} (h : i < b.length) : wtB b l node (i + 1) = wtB b l node i + if heldB b[i].de node (ofO l (bid b[i])) then szB b[i] else 0 := by
  unfold wtB
  rw [List.take_succ_eq_append_getElem h, List.filter_append, List.map_append, sumI_app]
  congr 1
  cases hh : heldB b[i].de node (ofO l (bid b[i])) <;> simp [hh, sumI]
theorem wtB_bd {b : List Bn} {l : List Oc} (hv : RunV b l) (node : Int) : ∀ i, i ≤ b.length → 0 ≤ wtB b l node i ∧ wtB b l node i ≤ (i : Int) * 1200
  | 0, _ => by simp [wtB, sumI]
  | i + 1, h => by
    have h1 := wtB_bd hv node i (by omega)
    have h2 := szB_bd (hv.bun i (by omega))
    rw [wtB_succ (by omega)]
    split <;> omega
theorem wtB_all {b : List Bn} {l : List Oc} (hv : RunV b l) (node : Int) : wtB b l node b.length = lastB (stepsO b szB node l) := by
  rw [stepsO_last hv.ord (fun i hi => (ti_bd hv _ (List.getElem_mem hi)).1), ldO_eq hv]
  unfold wtB
  rw [List.take_length]
theorem heldB_succ (de node : Int) {F : List Oc} {k : Nat} (h : k < F.length) : heldB de node (F.take (k + 1)) = heB de node (heldB de node (F.take k)) F[k] := by
  unfold heldB
  rw [List.take_succ_eq_append_getElem h, List.foldl_append]
  rfl
theorem ofO_len (l : List Oc) (k : Id3) : (ofO l k).length ≤ l.length := List.length_filter_le _ _
theorem rSz_any (x : Bn) (hda : x.da.size ≤ maxLen) (hsq : 0 ≤ x.sq) (w : World) : Calls Tryz.prog 24 #[.agg #[.int .i64 x.no, .int .u64 x.sq, .int .i64 x.of, .int .i64 x.de, .int .i64 x.pr, .int .i64 x.bo, .int .i64 x.li, .int .i64 x.to, .string x.da]] w fun e w' => ∃ z, e = .returned (.tuple #[.int .i64 (szB x), .int .i64 z]) ∧ Below w.heap.size w w' :=
  (refSizeB_any x.no x.sq x.of x.de x.pr x.bo x.li x.to x.da hda hsq w).mono fun e w' h => ⟨_, h.1, h.2⟩
end Go.Proofs.YthfmkkkdjgkaoaaGreatDoor
namespace Go.Proofs.YthfmkkkdjgkaoaaGreatDoor
open Go.RowKit
theorem made_lenT (b : List Bn) (l : List Oc) (hb : MkBs b ∧ b.length = 6 ∧ ∀ x ∈ b, x.da.size ≤ 6) (hl : (∃ t, MkOs b l t) ∧ l.length ≤ 30) : RunV b l ∧ ∀ x ∈ b, x.da.size ≤ maxLen ∧ 0 ≤ x.sq := by
  obtain ⟨t, ht⟩ := hl.1
  refine ⟨made_run hb.1 ht (by omega) (by omega), fun x hx => ⟨by have := hb.2.2 x hx; unfold maxLen; omega, ?_⟩⟩
  obtain ⟨i, hi, rfl⟩ := List.getElem_of_mem hx
  rw [hb.1.sq i hi]
  omega
theorem trc_zero {b : List Bn} {l : List Oc} (hv : RunV b l) : (trcC l).1 = 0 := by rw [trcC_ok hv.tlen hv.one hv.ord]
set_option maxRecDepth 100000 in
set_option maxHeartbeats 6400000 in
theorem reportSteps_walk (a : Option Addr) (cap : Nat) (zs : List Int) (node : Int) (w : World) (hT : FTab w) (hH : HTab w) (hP : Lib.TabBelow Tryz.prog w.heap.size w powNm .u64 Lib.pow10Tab) (hrow : Row .i64 w a cap zs) :
    Calls Tryz.prog 4 #[.slice a zs.length cap, .int .i64 node] w fun e w' => e = .returned (.bool true) ∧ Below w.heap.size w w' := by
  have GK := Lib.hid (reportKnown_any w hT hH hP)
  have GM := Lib.hid (fun W (hB : Below w.heap.size w W) => madeB_any a cap zs W (hrow.below hB))
  have HT : Hid (∀ W, Below w.heap.size w W → FTab W) := Lib.hid fun W hB => hT.on hB
  have HH : Hid (∀ W, Below w.heap.size w W → HTab W) := Lib.hid fun W hB => hH.on hB
  clear hT hH hP hrow
  have GMD := Lib.hid (fun w => mod_any node 4 w (by decide) (by decide))
  have r0 := Int.emod_nonneg node (show (4 : Int) ≠ 0 by decide)
  have r1 := Int.emod_lt_of_pos node (show (0 : Int) < 4 by decide)
  obtain ⟨m, hm⟩ : ∃ m, node % 4 = m := ⟨_, rfl⟩
  rw [hm] at GMD r0 r1
  have q1 : IntKind.i64.wrap (1 + m) = 1 + m := IntWalk.i64_in _ (by omega)
  obtain ⟨N, hN⟩ : ∃ N, 1 + m = N := ⟨_, rfl⟩
  have hN4 : 1 ≤ N ∧ N ≤ 4 := by omega
  rw [hN] at q1
  go_enter Tryz.func4, Tryz.ntmps4
  go_upto_region 4 with (first
    | (go_at_call 20; (with_reducible refine (GK.out).mono ?_); rintro e w1 ⟨rfl, h1⟩)
    | (go_at_call 21; (with_reducible refine (GM.out _ h1).mono ?_); rintro e w2 ⟨b, l, a1, c1, a2, c2, rfl, hb, hl, hs1, hs2, h2⟩)
    | (go_at_call 22; (with_reducible refine (GMD.out _).mono ?_); rintro e wx ⟨rfl, rfl⟩))
  clear hN hm q1 r0 r1 GMD
  obtain ⟨hv, hd⟩ := made_lenT b l hb hl
  have hr0 := runC_ok hv
  have B2 := bt h1 h2
  have hnd : nodC b l N = 0 := by
    rcases nodC_cases b l N with ⟨h3, _⟩ | ⟨_, h4, _⟩ | ⟨_, _, h4, _⟩ | ⟨_, _, _, h4⟩
    · rw [hr0] at h3; exact absurd rfl h3
    · omega
    · omega
    · exact h4
  have hst : stpR b l N = stepsO b szB N l := by unfold stpR; rw [if_pos hnd]
  have gs : ∀ W, Below w2.heap.size w2 W → Calls Tryz.prog 9 #[.slice a1 6 c1, .slice a2 l.length c2, .int .i64 N] W fun e w' => ∃ a cap, e = .returned (.tuple #[.slice a (stepsO b szB N l).length cap, .int .i64 0]) ∧ SRow lc 2 w' a cap (stepsO b szB N l) ∧ Below W.heap.size W w' := fun W hB => by
    have h := psteps2_any a1 a2 c1 c2 b l N hd W (HT.out _ (bt B2 hB)) (HH.out _ (bt B2 hB)) (hs1.below hB) (hs2.below hB)
    rw [hst, hnd, hb.2.1] at h
    refine h.mono ?_
    rintro e w' ⟨v, rfl, ho, hb'⟩
    obtain ⟨a, c, rfl, hs, _⟩ := srow_of_owns lc_len ho
    exact ⟨a, c, rfl, hs, hb'⟩
  have gp : ∀ W, Below w2.heap.size w2 W → Calls Tryz.prog 12 #[.slice a1 6 c1, .slice a2 l.length c2, .int .i64 N] W fun e w' => e = .returned (.tuple #[.agg #[.int .i64 (pkO (stepsO b szB N l)).1, .int .u64 (pkO (stepsO b szB N l)).2], .int .i64 0]) ∧ Below W.heap.size W w' := fun W hB => by
    have h := ppeak_any a1 a2 c1 c2 b l N hd W (HT.out _ (bt B2 hB)) (HH.out _ (bt B2 hB)) (hs1.below hB) (hs2.below hB)
    unfold pkR at h
    rw [hst, hnd, hb.2.1] at h
    exact h
  obtain ⟨tt, last, hw⟩ := stepsW hv N
  have hpg := pkO_ge (stepsO b szB N l)
  have hwa := wtB_all hv N
  obtain ⟨S, hS⟩ : ∃ S, stepsO b szB N l = S := ⟨_, rfl⟩
  rw [hS] at gs gp hw hpg hwa
  obtain ⟨p1, hp1⟩ : ∃ p, (pkO S).1 = p := ⟨_, rfl⟩
  obtain ⟨p2, hp2⟩ : ∃ p, (pkO S).2 = p := ⟨_, rfl⟩
  rw [hp1, hp2] at gp
  rw [hp2] at hpg
  have GS := Lib.hid gs; have GP := Lib.hid gp; have HW := Lib.hid hw; have HPG := Lib.hid hpg
  have hwl : wtB b l N 6 = lastB S := by rw [← hb.2.1]; exact hwa
  have HWA := Lib.hid hwl
  have HV := Lib.hid hv; have HD := Lib.hid hd; have HLB := Lib.hid hb.2.1
  have HB2 := Lib.hid B2; have HS1 := Lib.hid hs1; have HS2 := Lib.hid hs2
  have GOF : Hid (∀ (x : Bn) W, bcode x = 0 → Below w2.heap.size w2 W → Calls Tryz.prog 23 #[.slice a2 l.length c2, .agg #[.int .i64 x.no, .int .u64 x.sq, .int .i64 x.of]] W (RetO (ofO l (bid x)) 0 W)) := Lib.hid fun x W hx hB => ofok_any a2 c2 l (bid x) hv.tlen (trc_zero hv) (if_pos (buC_ok (show buC x.no x.sq x.of x.de x.pr x.bo x.li x.to x.da.size = 0 from hx)).1) W (HT.out _ (bt B2 hB)) (hs2.below hB)
  clear hb hl hs1 hs2 hd hr0 h1 h2 GK GM HT HH hv B2 hnd hst gs gp hw hpg hwa hwl hS hp1 hp2
  have q0 : ((0 : Int) != 0) = false := rfl
  go_upto_region 6 with (first
    | (go_at_call 9; (with_reducible refine (GS.out _ (Below.refl _ _)).mono ?_); rintro e w3 ⟨a3, c3, rfl, hs3, h3⟩)
    | (go_at_call 12; (with_reducible refine (GP.out _ h3).mono ?_); rintro e w4 ⟨rfl, h4⟩))
  have hs4 := hs3.below h4
  have b4 := bt h3 h4
  clear GS GP h3 hs3
  refine wp_freshT w4.heap.size #[.int .i64 p1, .int .u64 p2] (by (apply blk_to; (focus (repeat (first | (with_reducible assumption) | (with_reducible apply blk_drew) | (with_reducible apply blk_set) | ((with_reducible apply blk_other'); (first | (focus (dsimp only; assumption)) | (focus (simp; done)) | (focus (dsimp only; omega)))) | ((with_reducible apply blk_alloc_new); (first | (with_reducible rfl) | (focus (simp; done)) | (focus (simp; omega)))) | (with_reducible apply blk_alloc) | ((with_reducible apply blk_below); (with_reducible assumption))))); rfl)) (by (repeat (first | (with_reducible assumption) | (with_reducible exact Below.refl _ _) | (with_reducible refine beld_drew ?_) | ((with_reducible refine bset' ?_ ?_); (first | (focus (dsimp only; assumption)) | (focus (simp; done)) | (focus (dsimp only; omega)))) | (with_reducible refine belt_alloc ?_) | ((with_reducible refine zeroed_below' ?_ ?_); (first | (focus (simp; done)) | (focus (dsimp only; omega)))) | (with_reducible refine bt ?_ (by assumption)))) : Below w4.heap.size w4 _) ?_
  intro u kp hbu
  obtain ⟨dp, hdp⟩ : ∃ d, d = w4.heap.size := ⟨_, rfl⟩
  rw [← hdp] at kp ⊢
  have HS := Lib.hid (hs4.below hbu); have HKP := Lib.hid kp; have BU := Lib.hid (bt b4 hbu)
  clear hs4 b4 kp hbu hdp h4
  have B0 : Below u.heap.size u u := Below.refl _ _
  go_wp2
  go_loopw [12, 13] (fun s12 s13 wr => ∃ i : Nat, s13 = .int .i64 i ∧ i ≤ S.length ∧ s12 = .int .u64 (lastB (S.take i)) ∧ Below u.heap.size u wr) (fun _ s13 _ => S.length - (intOf s13).toNat)
  case atStart => exact ⟨0, rfl, by omega, rfl, B0⟩
  case round =>
    clear B0
    obtain ⟨i, rfl, hi, rfl, hB⟩ := hrel
    by_cases hlt : i < S.length
    · by_cases h0 : 0 < i
      · have hiz : (i : Int) < (S.length : Int) := by omega
        have hun : undef = Value.tuple #[] := rfl
        obtain ⟨g, off, e3, hgl, hcs⟩ := (HS.out.below hB).2.2.2 (by omega)
        subst e3
        have hr := hcs i hlt
        have hcap := HS.out.1
        have hmax := HS.out.2.1
        unfold maxLen at hmax
        have k1 : wr.cell? ⟨g, off + i * 2, none⟩ = some (.int .i64 S[i].1) := hr 0 _ rfl
        have k2 : wr.cell? ⟨g, off + i * 2 + 1, none⟩ = some (.int .u64 S[i].2) := hr 1 _ rfl
        have kp : wr.cell? ⟨dp, 1, none⟩ = some (.int .u64 p2) := blk_cell (blk_below hB HKP.out) 1
        have hdl := blk_lt (blk_below hB HKP.out)
        have hne := lastB_ne HW.out hlt
        have hle := HPG.out S[i] (List.getElem_mem _)
        have HLS := Lib.hid (lastB_succ hlt)
        have hr9 := hcs (i - 1) (by omega)
        have hlt9 := asc_lt HW.out hlt h0
        obtain ⟨ip, hip⟩ : ∃ ip, i - 1 = ip := ⟨_, rfl⟩
        have k0 : wr.cell? ⟨g, off + (i - 1) * 2, none⟩ = some (.int .i64 (S[i - 1]'(by omega)).1) := hr9 0 _ rfl
        obtain ⟨t0, ht0⟩ : ∃ t, (S[i - 1]'(by omega)).1 = t := ⟨_, rfl⟩
        rw [ht0] at k0 hlt9
        rw [hip] at k0
        have m3 : IntKind.i64.wrap ((i : Int) - 1) = (ip : Int) := by rw [IntWalk.i64_in _ (by omega)]; omega
        have hipz : (ip : Int) < (S.length : Int) := by omega
        obtain ⟨t1, ht1⟩ : ∃ t, S[i].1 = t := ⟨_, rfl⟩
        obtain ⟨y, hy⟩ : ∃ t, S[i].2 = t := ⟨_, rfl⟩
        obtain ⟨la, hla⟩ : ∃ t, lastB (S.take i) = t := ⟨_, rfl⟩
        rw [ht1] at k1 hlt9
        rw [hy] at k2 hne hle HLS
        rw [hla] at hne ⊢
        have x2 : (y == la) = false := by simpa using hne
        have x3 : decide (p2 < y) = false := decide_eq_false (by omega)
        have x0 : decide (0 < (i : Int)) = true := decide_eq_true (by omega)
        have x1 : decide (t1 ≤ t0) = false := decide_eq_false (by omega)
        clear hr hcs hne hle ht1 hy hla hr9 hlt9 ht0 hip
        go_upto_region 12 with fail
        refine wp_region_in (by kernel_rfl) (by kernel_rfl) ?_
        intro W0 hE hN
        have z1 := calm_cellR (W0 := W0) (by rw [hE.out]; exact hgl) (by rw [hE.out]; exact k1)
        have z2 := calm_cellR (W0 := W0) (by rw [hE.out]; exact hgl) (by rw [hE.out]; exact k2)
        have z3 := calm_cellR (W0 := W0) (by rw [hE.out]; exact hdl) (by rw [hE.out]; exact kp)
        have z0 := calm_cellR (W0 := W0) (by rw [hE.out]; exact hgl) (by rw [hE.out]; exact k0)
        clear k1 k2 kp k0
        repeat (go_big_quiet_step (fail))
        refine wpQuiet_nil ?_
        rintro _ ⟨x', rfl⟩
        have hB9 : Below u.heap.size u x'.wd := bt hB (by rw [← hE.out]; exact x'.ok)
        have c9 := z2 x'
        clear z1 z2 z3 hE hN z0
        obtain ⟨v9, hv9⟩ : ∃ v, v = x'.wd := ⟨_, rfl⟩
        rw [← hv9] at hB9 c9 ⊢
        clear hv9 x'
        (try simp only [← hun])
        clear hun
        go_wp2
        go_roundw
        case rel => exact ⟨i + 1, by go_num, by omega, by rw [HLS.out], hB9⟩
        case measure => simp [intOf]; omega
      · have hiz : (i : Int) < (S.length : Int) := by omega
        have hun : undef = Value.tuple #[] := rfl
        obtain ⟨g, off, e3, hgl, hcs⟩ := (HS.out.below hB).2.2.2 (by omega)
        subst e3
        have hr := hcs i hlt
        have hcap := HS.out.1
        have hmax := HS.out.2.1
        unfold maxLen at hmax
        have k1 : wr.cell? ⟨g, off + i * 2, none⟩ = some (.int .i64 S[i].1) := hr 0 _ rfl
        have k2 : wr.cell? ⟨g, off + i * 2 + 1, none⟩ = some (.int .u64 S[i].2) := hr 1 _ rfl
        have kp : wr.cell? ⟨dp, 1, none⟩ = some (.int .u64 p2) := blk_cell (blk_below hB HKP.out) 1
        have hdl := blk_lt (blk_below hB HKP.out)
        have hne := lastB_ne HW.out hlt
        have hle := HPG.out S[i] (List.getElem_mem _)
        have HLS := Lib.hid (lastB_succ hlt)
        obtain ⟨t1, ht1⟩ : ∃ t, S[i].1 = t := ⟨_, rfl⟩
        obtain ⟨y, hy⟩ : ∃ t, S[i].2 = t := ⟨_, rfl⟩
        obtain ⟨la, hla⟩ : ∃ t, lastB (S.take i) = t := ⟨_, rfl⟩
        rw [ht1] at k1
        rw [hy] at k2 hne hle HLS
        rw [hla] at hne ⊢
        have x2 : (y == la) = false := by simpa using hne
        have x3 : decide (p2 < y) = false := decide_eq_false (by omega)
        have x0 : decide (0 < (i : Int)) = false := decide_eq_false (by omega)
        clear hr hcs hne hle ht1 hy hla
        go_upto_region 12 with fail
        refine wp_region_in (by kernel_rfl) (by kernel_rfl) ?_
        intro W0 hE hN
        have z1 := calm_cellR (W0 := W0) (by rw [hE.out]; exact hgl) (by rw [hE.out]; exact k1)
        have z2 := calm_cellR (W0 := W0) (by rw [hE.out]; exact hgl) (by rw [hE.out]; exact k2)
        have z3 := calm_cellR (W0 := W0) (by rw [hE.out]; exact hdl) (by rw [hE.out]; exact kp)
        clear k1 k2 kp
        repeat (go_big_quiet_step (fail))
        refine wpQuiet_nil ?_
        rintro _ ⟨x', rfl⟩
        have hB9 : Below u.heap.size u x'.wd := bt hB (by rw [← hE.out]; exact x'.ok)
        have c9 := z2 x'
        clear z1 z2 z3 hE hN
        obtain ⟨v9, hv9⟩ : ∃ v, v = x'.wd := ⟨_, rfl⟩
        rw [← hv9] at hB9 c9 ⊢
        clear hv9 x'
        (try simp only [← hun])
        clear hun
        go_wp2
        go_roundw
        case rel => exact ⟨i + 1, by go_num, by omega, by rw [HLS.out], hB9⟩
        case measure => simp [intOf]; omega
    · have hiz : ¬ (i : Int) < (S.length : Int) := by omega
      have hiS : i = S.length := by omega
      have hls : lastB (S.take i) = lastB S := by rw [hiS, List.take_length]
      obtain ⟨la, hla⟩ : ∃ t, lastB S = t := ⟨_, rfl⟩
      have hwl := HWA.out
      rw [hla] at hwl
      rw [hls, hla]
      have HWL := Lib.hid hwl
      obtain ⟨g, off, e3, hgl, hcs⟩ := HS1.out.2.2.2 (by have := HLB.out; omega)
      subst e3
      have hgu : g < u.heap.size := Nat.lt_of_lt_of_le hgl BU.out.size
      have HCS : Hid (∀ i (h : i < b.length) W, Below u.heap.size u W → W.rangeAt g (off + i * 9) (bn b[i])) := Lib.hid fun i h W hW => range_below hgu (range_below hgl (hcs i h) BU.out) hW
      clear hwl hls hla hiS HWA HW HPG HS HKP hcs hgl HS1
      have hcap := 0
      go_wp2
      go_loopw [14, 15] (fun s14 s15 wr => ∃ i : Nat, s15 = .int .i64 i ∧ i ≤ 6 ∧ s14 = .int .u64 (wtB b l N i) ∧ Below u.heap.size u wr) (fun _ s15 _ => 6 - (intOf s15).toNat)
      case atStart => exact ⟨0, rfl, by omega, rfl, hB⟩
      case round =>
        clear hB hi hiz hlt
        obtain ⟨i, rfl, hi, rfl, hB⟩ := hrel
        by_cases hlt : i < 6
        · have hiz : (i : Int) < 6 := by omega
          have hil : i < b.length := by rw [HLB.out]; exact hlt
          have hsc := wtB_succ (l := l) (node := N) hil
          have hwb := wtB_bd HV.out N i (by omega)
          obtain ⟨x, hx⟩ : ∃ x, x = b[i] := ⟨_, rfl⟩
          have hxm : x ∈ b := by rw [hx]; exact List.getElem_mem _
          have hxc : bcode x = 0 := by rw [hx]; exact HV.out.bun i hil
          have hcx := HCS.out i hil
          rw [← hx] at hcx hsc
          have HCX := Lib.hid hcx
          have hsz := szB_bd hxc
          have GOX := Lib.hid (fun W hB => GOF.out x W hxc hB)
          have GSX := Lib.hid (fun W => rSz_any x (HD.out x hxm).1 (HD.out x hxm).2 W)
          have hr := hcx wr hB
          have k0 : wr.cell? ⟨g, off + i * 9, none⟩ = some (.int .i64 x.no) := hr 0 _ rfl
          have k1 : wr.cell? ⟨g, off + i * 9 + 1, none⟩ = some (.int .u64 x.sq) := hr 1 _ rfl
          have k2 : wr.cell? ⟨g, off + i * 9 + 2, none⟩ = some (.int .i64 x.of) := hr 2 _ rfl
          have hol := ofO_len l (bid x)
          have htl := HV.out.tlen
          obtain ⟨F, hF⟩ : ∃ F, ofO l (bid x) = F := ⟨_, rfl⟩
          rw [hF] at hsc hol GOX
          obtain ⟨sx, hsx⟩ : ∃ s, szB x = s := ⟨_, rfl⟩
          rw [hsx] at hsc hsz GSX
          have HSC := Lib.hid hsc
          obtain ⟨wa, hwa⟩ : ∃ t, wtB b l N i = t := ⟨_, rfl⟩
          rw [hwa] at hwb HSC ⊢
          have x1 : IntKind.u64.wrap sx = sx := IntWalk.u64_in _ (by omega)
          have x2 : IntKind.u64.wrap (wa + sx) = wa + sx := IntWalk.u64_in _ (by omega)
          clear hcx hx hxm hxc hr hsc hF hsx hwa hil
          go_upto_region 22 with (go_at_call 23; (with_reducible refine (GOX.out _ (bt BU.out hB)).mono ?_); rintro e v4 ⟨vv, rfl, ho4, h4⟩; (obtain ⟨a4, c4, rfl, hs4, _⟩ := srow_of_owns oc_len ho4))
          have b4 := bt hB h4
          have HS4 := Lib.hid hs4
          have hcap4 := hs4.1
          have hmax4 := hs4.2.1
          unfold maxLen at hmax4
          clear k0 k1 k2 ho4 h4 hs4 GOX
          have B4 : Below v4.heap.size v4 v4 := Below.refl _ _
          go_wp2
          go_loopw [18, 19] (fun s18 s19 wr => ∃ k : Nat, s19 = .int .i64 k ∧ k ≤ F.length ∧ s18 = .bool (heldB x.de N (F.take k)) ∧ Below v4.heap.size v4 wr) (fun _ s19 _ => F.length - (intOf s19).toNat)
          case atStart => exact ⟨0, rfl, by omega, rfl, B4⟩
          case round =>
            clear B4 hB
            obtain ⟨k, rfl, hk, rfl, hB3⟩ := hrel
            by_cases hkl : k < F.length
            · have hkz : (k : Int) < (F.length : Int) := by omega
              have hun : undef = Value.tuple #[] := rfl
              obtain ⟨g4, o4, e4, hg4, hc4⟩ := (HS4.out.below hB3).2.2.2 (by omega)
              subst e4
              have hr := hc4 k hkl
              have hhs := heldB_succ x.de N hkl
              obtain ⟨⟨ti, no, ki, ino, isq, iof, ot⟩, ho⟩ : ∃ o, o = F[k] := ⟨_, rfl⟩
              rw [← ho] at hr hhs
              have j0 : wr.cell? ⟨g4, o4 + k * 7, none⟩ = some (.int .i64 ti) := hr 0 _ rfl
              have j1 : wr.cell? ⟨g4, o4 + k * 7 + 1, none⟩ = some (.int .i64 no) := hr 1 _ rfl
              have j2 : wr.cell? ⟨g4, o4 + k * 7 + 2, none⟩ = some (.int .i64 ki) := hr 2 _ rfl
              have j3 : wr.cell? ⟨g4, o4 + k * 7 + 3, none⟩ = some (.int .i64 ino) := hr 3 _ rfl
              have j4 : wr.cell? ⟨g4, o4 + k * 7 + 4, none⟩ = some (.int .u64 isq) := hr 4 _ rfl
              have j5 : wr.cell? ⟨g4, o4 + k * 7 + 5, none⟩ = some (.int .i64 iof) := hr 5 _ rfl
              have j6 : wr.cell? ⟨g4, o4 + k * 7 + 6, none⟩ = some (.int .i64 ot) := hr 6 _ rfl
              obtain ⟨h, hh⟩ : ∃ h, heldB x.de N (F.take k) = h := ⟨_, rfl⟩
              rw [hh] at hhs ⊢
              have HHS := Lib.hid hhs
              clear hc4 hr ho hh hhs
              go_upto_region 27 with fail
              refine wp_freshT wr.heap.size #[.int .i64 ti, .int .i64 no, .int .i64 ki, .int .i64 ino, .int .u64 isq, .int .i64 iof, .int .i64 ot] (by (apply blk_to; (focus (repeat (first | (with_reducible assumption) | (with_reducible apply blk_drew) | (with_reducible apply blk_set) | ((with_reducible apply blk_other'); (first | (focus (dsimp only; assumption)) | (focus (simp; done)) | (focus (dsimp only; omega)))) | ((with_reducible apply blk_alloc_new); (first | (with_reducible rfl) | (focus (simp; done)) | (focus (simp; omega)))) | (with_reducible apply blk_alloc) | ((with_reducible apply blk_below); (with_reducible assumption))))); rfl)) (by (repeat (first | (with_reducible assumption) | (with_reducible exact Below.refl _ _) | (with_reducible refine beld_drew ?_) | ((with_reducible refine bset' ?_ ?_); (first | (focus (dsimp only; assumption)) | (focus (simp; done)) | (focus (dsimp only; omega)))) | (with_reducible refine belt_alloc ?_) | ((with_reducible refine zeroed_below' ?_ ?_); (first | (focus (simp; done)) | (focus (dsimp only; omega)))) | (with_reducible refine bt ?_ (by assumption)))) : Below wr.heap.size wr _) ?_
              intro q kq hq
              have nq := kn kq
              have hB9 := bt hB3 hq
              have kde : q.cell? ⟨g, off + i * 9 + 3, none⟩ = some (.int .i64 x.de) := HCX.out q (bt b4 hB9) 3 _ rfl
              clear j0 j1 j2 j3 j4 j5 j6 hq hB3 kq
              by_cases hn : no = N
              · have t1 : (no != N) = false := by simpa using hn
                by_cases hs6 : ki = 6
                · have s6 : (ki == 6) = true := by simpa using hs6
                  have HE : Hid (heldB x.de N (F.take (k + 1)) = true) := Lib.hid (by rw [HHS.out]; unfold heB; rw [if_neg (fun h => h hn), if_pos (.inl hs6)])
                  clear HHS hs6 hn
                  go_wp2
                  (try simp only [← hun])
                  clear hun
                  go_roundw
                  case rel => exact ⟨k + 1, by go_num, by omega, by rw [HE.out], hB9⟩
                  case measure => simp [intOf]; omega
                · have s6 : (ki == 6) = false := by simpa using hs6
                  by_cases hs1 : ki = 1
                  · have s1 : (ki == 1) = true := by simpa using hs1
                    by_cases hde : x.de = N
                    · have sd : (x.de != N) = false := by simpa using hde
                      have s7 : (ki == 7) = false := by simp; omega
                      have s9 : (ki == 9) = false := by simp; omega
                      have HE : Hid (heldB x.de N (F.take (k + 1)) = h) := Lib.hid (by rw [HHS.out]; unfold heB; rw [if_neg (fun h => h hn), if_neg (by rintro (h9 | ⟨_, h9⟩); exact hs6 h9; exact h9 hde), if_neg (by simp only; omega)])
                      clear HHS hs6 hn hs1 hde
                      go_wp2
                      (try simp only [← hun])
                      clear hun
                      go_roundw
                      case rel => exact ⟨k + 1, by go_num, by omega, by rw [HE.out], hB9⟩
                      case measure => simp [intOf]; omega
                    · have sd : (x.de != N) = true := by simpa using hde
                      have HE : Hid (heldB x.de N (F.take (k + 1)) = true) := Lib.hid (by rw [HHS.out]; unfold heB; rw [if_neg (fun h => h hn), if_pos (.inr ⟨hs1, hde⟩)])
                      clear HHS hs6 hn hs1 hde
                      go_wp2
                      (try simp only [← hun])
                      clear hun
                      go_roundw
                      case rel => exact ⟨k + 1, by go_num, by omega, by rw [HE.out], hB9⟩
                      case measure => simp [intOf]; omega
                  · have s1 : (ki == 1) = false := by simpa using hs1
                    by_cases hs7 : ki = 7
                    · have s7 : (ki == 7) = true := by simpa using hs7
                      have HE : Hid (heldB x.de N (F.take (k + 1)) = false) := Lib.hid (by rw [HHS.out]; unfold heB; rw [if_neg (fun h => h hn), if_neg (by rintro (h9 | ⟨h9, _⟩); exact hs6 h9; exact hs1 h9), if_pos (.inl hs7)])
                      clear HHS hs6 hn hs1 hs7
                      go_wp2
                      (try simp only [← hun])
                      clear hun
                      go_roundw
                      case rel => exact ⟨k + 1, by go_num, by omega, by rw [HE.out], hB9⟩
                      case measure => simp [intOf]; omega
                    · have s7 : (ki == 7) = false := by simpa using hs7
                      by_cases hs9 : ki = 9
                      · have s9 : (ki == 9) = true := by simpa using hs9
                        have HE : Hid (heldB x.de N (F.take (k + 1)) = false) := Lib.hid (by rw [HHS.out]; unfold heB; rw [if_neg (fun h => h hn), if_neg (by rintro (h9 | ⟨h9, _⟩); exact hs6 h9; exact hs1 h9), if_pos (.inr hs9)])
                        clear HHS hs6 hn hs1 hs7 hs9
                        go_wp2
                        (try simp only [← hun])
                        clear hun
                        go_roundw
                        case rel => exact ⟨k + 1, by go_num, by omega, by rw [HE.out], hB9⟩
                        case measure => simp [intOf]; omega
                      · have s9 : (ki == 9) = false := by simpa using hs9
                        have HE : Hid (heldB x.de N (F.take (k + 1)) = h) := Lib.hid (by rw [HHS.out]; unfold heB; rw [if_neg (fun h => h hn), if_neg (by rintro (h9 | ⟨h9, _⟩); exact hs6 h9; exact hs1 h9), if_neg (by rintro (h9 | h9); exact hs7 h9; exact hs9 h9)])
                        clear HHS hs6 hn hs1 hs7 hs9
                        go_wp2
                        (try simp only [← hun])
                        clear hun
                        go_roundw
                        case rel => exact ⟨k + 1, by go_num, by omega, by rw [HE.out], hB9⟩
                        case measure => simp [intOf]; omega
              · have t1 : (no != N) = true := by simpa using hn
                have HE : Hid (heldB x.de N (F.take (k + 1)) = h) := Lib.hid (by rw [HHS.out]; unfold heB; rw [if_pos hn])
                clear HHS hn
                go_wp2
                (try simp only [← hun])
                clear hun
                go_roundw
                case rel => exact ⟨k + 1, by go_num, by omega, by rw [HE.out], hB9⟩
                case measure => simp [intOf]; omega
            · have hkz : ¬ (k : Int) < (F.length : Int) := by omega
              have hkF : k = F.length := by omega
              have hh : heldB x.de N (F.take k) = heldB x.de N F := by rw [hkF, List.take_length]
              rw [hh]
              obtain ⟨h, hh9⟩ : ∃ h, heldB x.de N F = h := ⟨_, rfl⟩
              have hsc := HSC.out
              rw [hh9] at hsc ⊢
              have HSC9 := Lib.hid hsc
              have B9 := bt b4 hB3
              have hr := HCX.out wr B9
              have k0 : wr.cell? ⟨g, off + i * 9, none⟩ = some (.int .i64 x.no) := hr 0 _ rfl
              have k1 : wr.cell? ⟨g, off + i * 9 + 1, none⟩ = some (.int .u64 x.sq) := hr 1 _ rfl
              have k2 : wr.cell? ⟨g, off + i * 9 + 2, none⟩ = some (.int .i64 x.of) := hr 2 _ rfl
              have k3 : wr.cell? ⟨g, off + i * 9 + 3, none⟩ = some (.int .i64 x.de) := hr 3 _ rfl
              have k4 : wr.cell? ⟨g, off + i * 9 + 4, none⟩ = some (.int .i64 x.pr) := hr 4 _ rfl
              have k5 : wr.cell? ⟨g, off + i * 9 + 5, none⟩ = some (.int .i64 x.bo) := hr 5 _ rfl
              have k6 : wr.cell? ⟨g, off + i * 9 + 6, none⟩ = some (.int .i64 x.li) := hr 6 _ rfl
              have k7 : wr.cell? ⟨g, off + i * 9 + 7, none⟩ = some (.int .i64 x.to) := hr 7 _ rfl
              have k8 : wr.cell? ⟨g, off + i * 9 + 8, none⟩ = some (.string x.da) := hr 8 _ rfl
              clear hr hsc hh hh9 hkF HSC
              cases h
              · go_wp2_with (go_at_call 24; (with_reducible refine (GSX.out _).mono ?_); rintro e v5 ⟨zz, rfl, h5⟩)
                go_roundw
                case rel => exact ⟨i + 1, by go_num, by omega, by rw [HSC9.out]; simp, bt B9 h5⟩
                case measure => simp [intOf]; omega
              · go_wp2_with (go_at_call 24; (with_reducible refine (GSX.out _).mono ?_); rintro e v5 ⟨zz, rfl, h5⟩)
                go_roundw
                case rel => exact ⟨i + 1, by go_num, by omega, by rw [HSC9.out]; simp, bt B9 h5⟩
                case measure => simp [intOf]; omega
        · have hiz : ¬ (i : Int) < 6 := by omega
          have hi6 : i = 6 := by omega
          have hwe : wtB b l N i = la := by rw [hi6]; exact HWL.out
          have y1 : (la == la) = true := by simp
          rw [hwe]
          have BE := Lib.hid (bt HB2.out (bt BU.out hB))
          clear hwe hi6 HWL
          go_wp2
          go_ret
          exact ⟨rfl, BE.out⟩
theorem reportSteps_row (a : Option Addr) (len cap : Nat) (zs : List Int) (node : Int) (w : World) (h : IsRow .i64 w a len cap zs) (hP : Lib.TabIs Tryz.prog w powNm .u64 Lib.pow10Tab) (hH : Lib.TabIs Tryz.prog w headsNm .u8 headsTab) (hT : PairIs Tryz.prog w facesNm facesT) :
    Calls Tryz.prog 4 #[.slice a len cap, .int .i64 node] w fun e w' => e = .returned (.bool true) ∧ Below w.heap.size w w' := by
  obtain ⟨e, hr⟩ := row_of h
  have := reportSteps_walk a cap (zs.take len) node w (ftab_of hT) (htab_of hH) (Lib.tabBelow_of_tabIs hP) hr
  rw [← e] at this
  exact this
end Go.Proofs.YthfmkkkdjgkaoaaGreatDoor
