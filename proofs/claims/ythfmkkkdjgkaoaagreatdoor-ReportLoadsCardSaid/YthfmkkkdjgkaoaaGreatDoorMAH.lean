/- Parts of a proof, printed by a program of mine out of my texts: RpRTx. -/
import Derived.Test.YthfmkkkdjgkaoaaGreatDoorMAC
import Derived.Test.YthfmkkkdjgkaoaaGreatDoorMAG
import Derived.Test.YthfmkkkdjgkaoaaGreatDoorMQ
import Derived.Test.YthfmkkkdjgkaoaaGreatDoorMZ
import Derived.Test.YthfmkkkdjgkaoaaGreatDoorMX10
set_option linter.unusedSimpArgs false
set_option linter.unusedVariables false
namespace Go.Proofs.YthfmkkkdjgkaoaaGreatDoor
open Go.RowKit
open Go.Lib (decDigits nDigits)
theorem prisR_len {b : List Bn} {l : List Oc} (hv : RunV b l) : ∀ j, j ≤ 3 → (prisR b l j).length ≤ j * 1000
  | 0, _ => by simp [prisR]
  | j + 1, h => by
    have h1 := prisR_len hv j (by omega)
    have h2 := priR_len hv (show j ≤ 3 by omega)
    rw [prisR_succ, List.length_append]
    omega
theorem nodsR_len {b : List Bn} {l : List Oc} (hv : RunV b l) : ∀ n, n ≤ 16 → (nodsR b szB l n).length ≤ n * 1000
  | 0, _ => by simp [nodsR]
  | n + 1, h => by
    have h1 := nodsR_len hv n (by omega)
    have h2 := nodR_len hv (show n + 1 ≤ 16 by omega)
    rw [nodsR_succ, List.length_append]
    omega
theorem sz_list (A : ByteArray) : A.size = A.data.toList.length := Array.length_toList.symm
theorem app_list (A B : ByteArray) : (A ++ B).data.toList = A.data.toList ++ B.data.toList := by rw [ByteArray.data_append]; simp
theorem Builtin_cap11 : Builtin.nextslicecap (6 + 5) 6 * 8 ≤ 281474976710656 := by decide
theorem wpList_append_five {ops : Array Oper} {rest : List Oper} {o : Oper} {a : Act} {w : World} {Q : Exit → Act → World → Prop} (hg : o.guard = none) (s x : Operand)
    (ho : o.op = .call { callee := .builtin .append, args := #[s, x], argTypes := #[45, 45] }) (hty : o.type = 45) (g hb : Nat) (f : Nat → Int) (n su le gr me : Int)
    (hs : a.eval s = .slice (some ⟨g, 0, none⟩) 6 6) (hx : a.eval x = .slice (some ⟨hb, 0, none⟩) 5 5) (kg : blk w g = some (outI f)) (kh : blk w hb = some #[.int .i64 n, .int .i64 su, .int .i64 le, .int .i64 gr, .int .i64 me])
    (h : ∀ (b cap : Nat) (w' : World), SRow ic 1 w' (some ⟨b, 0, none⟩) cap [f 0, f 1, f 2, f 3, f 4, f 5, n, su, le, gr, me] → Below w.heap.size w w' → wpList Tryz.prog ops Q rest (a.put o.dst (.slice (some ⟨b, 0, none⟩) 11 cap)) w') : wpList Tryz.prog ops Q (o :: rest) a w := by
  obtain ⟨i0, hi, hz0, hz1, hz2⟩ := info_parts infoIn
  refine wpList_plain hg fun K' hK' => ?_
  have hrun := run_append_grow (P := Tryz.prog) w 45 45 3 i0 (.int .i64 0) Tryz.underlying45 hi hz0 ⟨g, 0, none⟩ 6 6 [.int .i64 (f 0), .int .i64 (f 1), .int .i64 (f 2), .int .i64 (f 3), .int .i64 (f 4), .int .i64 (f 5)] (by rw [hz1]; rfl)
    (fun j v hj => by rw [Addr.add_mid, Nat.zero_add, blk_cell kg]; simpa [outI] using hj) ⟨hb, 0, none⟩ 5 5 [.int .i64 n, .int .i64 su, .int .i64 le, .int .i64 gr, .int .i64 me] (by rw [hz1]; rfl)
    (fun j v hj => by rw [Addr.add_mid, Nat.zero_add, blk_cell kh]; simpa using hj) (by omega) (by omega) (by rw [hz2]; exact Builtin_cap11)
  unfold Oper.wp execOp
  simp only [ho, hty, resolve, invoke, builtin, Sem.run_bind, Sem.run_pure, Result.andThen_ok, List.map_toArray, List.map_cons, List.map_nil, hs, hx, hrun]
  refine hK' _ _ (h w.heap.size _ _ ?_ ((Below.refl _ _).drew.alloc (Nat.le_refl _) _))
  have hc1 := grownCap_ge w 11 6 3
  have hc2 := grownCap_le_maxLen w 11 6 3 (by unfold maxLen; omega)
  refine ⟨hc1, hc2, (fun h => by cases h), fun _ => ⟨w.heap.size, 0, rfl, by simp, fun i hi => ?_⟩⟩
  have hnew : blk (w.drew.alloc (.cells (([.int .i64 (f 0), .int .i64 (f 1), .int .i64 (f 2), .int .i64 (f 3), .int .i64 (f 4), .int .i64 (f 5)] : List Value).toArray ++ ([.int .i64 n, .int .i64 su, .int .i64 le, .int .i64 gr, .int .i64 me] : List Value).toArray ++ Builtin.zeroCells (Value.cells (.int .i64 0)) (grownCap w (6 + 5) 6 3 - (6 + 5))) 3)) w.heap.size = some (rowC ic [f 0, f 1, f 2, f 3, f 4, f 5, n, su, le, gr, me] ++ (Builtin.zeroCells (Value.cells (.int .i64 0)) (grownCap w (6 + 5) 6 3 - (6 + 5))).toList).toArray := by
    refine (blk_alloc_new w.drew _ _ rfl).trans (congrArg some ?_)
    apply Array.ext'
    simp [rowC_ic]
  rw [Nat.zero_add]
  exact range_row ic_len hnew (List.getElem?_eq_getElem hi)
theorem wp_freshQ {P : Program} {cd : Code} {Q : Exit → Act → World → Prop} {a : Act} {W w0 : World} {B : Nat} (b : Nat) (c : Array Value) (h1 : blk W b = some c) (hB : Below B w0 W)
    (h : ∀ w', blk w' b = some c → Below B w0 w' → cd.wp P Q a w') : cd.wp P Q a W := h W h1 hB
theorem icell_at {w : World} {o cap : Nat} {L : List Int} (h : SRow ic 1 w (some ⟨o, 0, none⟩) cap L) {i : Nat} (hi : i < L.length) : w.cell? ⟨o, i, none⟩ = some (.int .i64 L[i]) := by
  obtain ⟨b', o', e, g, r⟩ := h.2.2.2 (by omega)
  cases e
  simpa using r i hi 0 _ rfl
theorem bdrT {w w' : World} (h : Below w.drew.heap.size w.drew w') : Below w.heap.size w w' := ((Below.refl _ _).drew).trans h
theorem ba_eq {D : ByteArray} {L : List UInt8} (h : D.data.toList = L) : D = ⟨L.toArray⟩ := by
  subst h
  rfl
set_option maxRecDepth 100000 in
set_option maxHeartbeats 12800000 in
theorem rtext_ok (ab al : Option Addr) (cb cl : Nat) (b : List Bn) (l : List Oc) (h0 : (runC b l).1 = 0) (hd : ∀ x ∈ b, x.da.size ≤ maxLen ∧ 0 ≤ x.sq) (w : World) (hb : SRow bn 9 w ab cb b) (hl : SRow oc 7 w al cl l) :
    Calls Tryz.prog 17 #[.slice ab b.length cb, .slice al l.length cl] w fun e w' => e = .returned (.tuple #[.string ⟨(txtO b szB l).toArray⟩, .int .i64 0]) ∧ Below w.heap.size w w' := by
  have hv := runC_zero h0
  have GCK : Hid (Calls Tryz.prog 32 #[.slice ab b.length cb, .slice al l.length cl] w fun e w' => e = .returned (.tuple #[.int .i64 0, .int .i64 0]) ∧ Below w.heap.size w w') := Lib.hid (by have h := rrcheck_any ab al cb cl b l (fun x hx => (hd x hx).1) w hb hl; rwa [runC_ok hv] at h)
  have GCO : Hid (∀ (j : Nat) W, j < 3 → Below w.heap.size w W → Calls Tryz.prog 44 #[.slice ab b.length cb, .slice al l.length cl, .int .i64 (j : Int)] W fun e w' => ∃ (o : Nat) (f : Nat → Int), e = .returned (.tuple #[.slice (some ⟨o, 0, none⟩) 6 6, .int .i64 0]) ∧ blk w' o = some (outI f) ∧ couO b l j = [f 0, f 1, f 2, f 3, f 4, f 5] ∧ Below W.heap.size W w') := Lib.hid fun j W hj hB => rcounts_blk ab al cb cl b l j (prioC_in h0 (by omega) (by omega)) (fun x hx => (hd x hx).1) W (hb.below hB) (hl.below hB)
  have GLA : Hid (∀ (j : Nat) W, j < 3 → Below w.heap.size w W → Calls Tryz.prog 45 #[.slice ab b.length cb, .slice al l.length cl, .int .i64 (j : Int)] W fun e w' => e = .returned (.tuple #[.agg (dv (dlyO (allO b l j))), .int .i64 0]) ∧ Below W.heap.size W w') := Lib.hid fun j W hj hB => by
    have h := rplate_any ab al cb cl b l j (fun x hx => (hd x hx).1) W (hb.below hB) (hl.below hB)
    have hp : prioC b l (j : Int) = 0 := prioC_in h0 (by omega) (by omega)
    have e : latD b l (j : Int) = dlyO (allO b l j) := by unfold latD; rw [if_pos hp]
    rwa [e, hp] at h
  have GST : Hid (∀ (n : Nat) W, 1 ≤ n → n ≤ 16 → Below w.heap.size w W → Calls Tryz.prog 10 #[.slice ab b.length cb, .slice al l.length cl, .int .i64 (n : Int)] W (RetL (stepsO b szB n l) 0 W)) := Lib.hid fun n W h1 h2 hB => rsteps43_ok ab al cb cl b l n hv (by omega) (by omega) hd W (hb.below hB) (hl.below hB)
  have GPK : Hid (∀ (n : Nat) W, 1 ≤ n → n ≤ 16 → Below w.heap.size w W → Calls Tryz.prog 13 #[.slice ab b.length cb, .slice al l.length cl, .int .i64 (n : Int)] W fun e w' => e = .returned (.tuple #[.agg #[.int .i64 (pkO (stepsO b szB n l)).1, .int .u64 (pkO (stepsO b szB n l)).2], .int .i64 0]) ∧ Below W.heap.size W w') := Lib.hid fun n W h1 h2 hB => by
    have h := rpeak43_any ab al cb cl b l n hd W (hb.below hB) (hl.below hB)
    have hn : nodC b l (n : Int) = 0 := by unfold nodC; rw [if_neg (by rw [h0]; decide), if_neg (by omega)]
    have e : pkR b l (n : Int) = pkO (stepsO b szB n l) := by unfold pkR stpR; rw [if_pos hn]
    rwa [e, hn] at h
  have GFA : Hid (∀ W, Below w.heap.size w W → Calls Tryz.prog 15 #[.slice ab b.length cb, .slice al l.length cl] W fun e w' => e = .returned (.tuple #[.int .u64 (faiO b l).1, .int .u64 (faiO b l).2, .int .i64 0]) ∧ Below W.heap.size W w') := Lib.hid fun W hB => rfair43_ok ab al cb cl b l hv (fun x hx => (hd x hx).1) W (hb.below hB) (hl.below hB)
  have GDI : Hid (∀ (n : Int) W, 0 ≤ n → n < 9223372036854775808 → Calls Tryz.prog 46 #[.int .u64 n] W fun e w' => ∃ D : ByteArray, e = .returned (.string D) ∧ D.data.toList = decDigits n.toNat ∧ D.size ≤ 20 ∧ Below W.heap.size W w') := Lib.hid fun n W h1 h2 => by
    have h := rdig_any n.toNat (by omega) W
    rw [Int.toNat_of_nonneg h1] at h
    refine h.mono ?_
    rintro e w' ⟨D, rfl, hD, hB⟩
    exact ⟨D, rfl, hD, by rw [sz_list, hD]; exact dec20 (by omega), hB⟩
  have HV := Lib.hid hv
  have q0 : ((0 : Int) != 0) = false := rfl
  clear hv h0 hd hb hl
  go_enter Tryz.func17, Tryz.ntmps17
  go_wp2_with (go_at_call 32; (with_reducible refine (GCK.out).mono ?_); rintro e w1 ⟨rfl, h1⟩)
  have B1 := Lib.hid h1
  clear h1 GCK
  go_loopw [8, 9] (fun s8 s9 wr => ∃ (j : Nat) (A : ByteArray), s8 = .string A ∧ s9 = .int .i64 j ∧ j ≤ 3 ∧ Hid (A.data.toList = prisR b l j) ∧ Hid (Below w.heap.size w wr)) (fun _ s9 _ => 3 - (intOf s9).toNat)
  case atStart => exact ⟨0, ⟨#[]⟩, rfl, rfl, Nat.zero_le _, Lib.hid rfl, B1⟩
  case round =>
    clear B1
    obtain ⟨j, A, rfl, rfl, hj, HA, HB⟩ := hrel
    by_cases hlt : j < 3
    · have hltz : (j : Int) < 3 := by omega
      have hAs : A.size ≤ 3000 := by rw [sz_list, HA.out]; have := prisR_len HV.out j hj; omega
      have q1 : IntKind.u64.wrap (j : Int) = (j : Int) := IntWalk.u64_in _ (by omega)
      have hnn := priN_bd HV.out hj
      have hpr := priR_eq b l j
      unfold priN at hnn hpr
      have hcc : ∀ f : Nat → Int, couO b l j = [f 0, f 1, f 2, f 3, f 4, f 5] → cntO b l j 0 = f 0 ∧ cntO b l j 1 = f 1 ∧ cntO b l j 2 = f 2 ∧ cntO b l j 3 = f 3 ∧ cntO b l j 4 = f 4 ∧ cntO b l j 5 = f 5 := fun f hf => by
        unfold couO at hf
        simp only [List.cons.injEq, and_true] at hf
        exact hf
      have g2 := GLA.out j
      obtain ⟨D, hD⟩ : ∃ c, dlyO (allO b l (j : Int)) = c := ⟨_, rfl⟩
      rw [hD] at hnn hpr
      simp only [hD] at g2
      clear hD
      obtain ⟨n, su, le, gr, me⟩ := D
      simp only [dv] at g2
      have G2 := Lib.hid g2; have HNN := Lib.hid hnn; have HPR := Lib.hid hpr; have HCC := Lib.hid hcc
      clear g2 hnn hpr hcc
      go_upto_region 10 with (first
        | (go_at_call 44; (with_reducible refine (GCO.out _ _ hlt HB.out).mono ?_); rintro e w2 ⟨o2, f, rfl, k2, hcf, h2⟩; (have K2 := Lib.hid k2); (have HCF := Lib.hid hcf); (have B2 := Lib.hid (bt HB.out h2)); clear k2 hcf h2)
        | (go_at_call 45; (with_reducible refine (G2.out _ hlt B2.out).mono ?_); rintro e w3 ⟨rfl, h3⟩; (have K3 := Lib.hid (blk_below h3 K2.out)); (have B3 := Lib.hid (bt B2.out h3)); clear h3))
      refine wp_freshQ w3.heap.size #[.int .i64 n, .int .i64 su, .int .i64 le, .int .i64 gr, .int .i64 me] (by (apply blk_to; (focus (repeat (first | (with_reducible assumption) | (with_reducible apply blk_drew) | (with_reducible apply blk_set) | ((with_reducible apply blk_other'); (first | (focus (dsimp only; assumption)) | (focus (simp; done)) | (focus (dsimp only; omega)))) | ((with_reducible apply blk_alloc_new); (first | (with_reducible rfl) | (focus (simp; done)) | (focus (simp; omega)))) | (with_reducible apply blk_alloc) | ((with_reducible apply blk_below); (with_reducible assumption))))); rfl)) (by (repeat (first | (with_reducible assumption) | (with_reducible exact Below.refl _ _) | (with_reducible refine beld_drew ?_) | ((with_reducible refine bset' ?_ ?_); (first | (focus (dsimp only; assumption)) | (focus (simp; done)) | (focus (dsimp only; omega)))) | (with_reducible refine belt_alloc ?_) | ((with_reducible refine zeroed_below' ?_ ?_); (first | (focus (simp; done)) | (focus (dsimp only; omega)))) | (with_reducible refine bt ?_ (by assumption)))) : Below w3.heap.size w3 _) ?_
      intro u ku hu
      have B4 := Lib.hid (bt B3.out hu)
      have K4 := Lib.hid (blk_below hu K3.out)
      have nu := kn ku
      clear G2 B2 B3 K2 K3 hu
      have k4 := K4.out
      go_upto_region 11 with (at_builtin; go_loud ((refine wpList_append_five rfl _ _ rfl rfl o2 u.heap.size f n su le gr me rfl rfl (by (apply blk_to; (focus (repeat (first | (with_reducible assumption) | (with_reducible apply blk_drew) | (with_reducible apply blk_set) | ((with_reducible apply blk_other'); (first | (focus (dsimp only; assumption)) | (focus (simp; done)) | (focus (dsimp only; omega)))) | ((with_reducible apply blk_alloc_new); (first | (with_reducible rfl) | (focus (simp; done)) | (focus (simp; omega)))) | (with_reducible apply blk_alloc) | ((with_reducible apply blk_below); (with_reducible assumption))))); rfl)) (blk_alloc_new _ _ _ rfl) ?_); (intro o5 cap5 w5 hs5 h5)))
      have B5 := Lib.hid (bt B4.out (bt ((Below.refl _ _).alloc (Nat.le_refl _) _) h5))
      have S5 := Lib.hid hs5
      clear hs5 h5 nu ku k4 K4 B4
      go_upto_region 12 with (go_at_call 46; (with_reducible refine (GDI.out _ _ (by omega) (by omega)).mono ?_); rintro e w6 ⟨D6, rfl, hD6, hz6, h6⟩)
      have S6 := Lib.hid (S5.out.below h6)
      have B6 := Lib.hid (bt B5.out h6)
      have hnx : prisR b l (j + 1) = prisR b l j ++ (rowB priW ((j : Int) :: [f 0, f 1, f 2, f 3, f 4, f 5, n, su, le, gr, me]) ++ [10]) := by
        obtain ⟨e0, e1, e2, e3, e4, e5⟩ := HCC.out f HCF.out
        rw [prisR_succ, HPR.out, rowT_eq, e0, e1, e2, e3, e4, e5]
      have hLb : ∀ x ∈ [f 0, f 1, f 2, f 3, f 4, f 5, n, su, le, gr, me], 0 ≤ x ∧ x < 9223372036854775808 := fun x hx => by
        obtain ⟨e0, e1, e2, e3, e4, e5⟩ := HCC.out f HCF.out
        have h := HNN.out x
        rw [e0, e1, e2, e3, e4, e5] at h
        exact h (List.mem_cons_of_mem _ hx)
      have hLl : [f 0, f 1, f 2, f 3, f 4, f 5, n, su, le, gr, me].length = 11 := rfl
      obtain ⟨L, hL⟩ : ∃ L, [f 0, f 1, f 2, f 3, f 4, f 5, n, su, le, gr, me] = L := ⟨_, rfl⟩
      rw [hL] at hnx hLb hLl S6
      have HNX := Lib.hid hnx; have HLB := Lib.hid hLb; have HLL := Lib.hid hLl
      obtain ⟨X, hX⟩ : ∃ X, A ++ ⟨#[112, 114, 105, 111, 32]⟩ ++ D6 = X := ⟨_, rfl⟩
      have hXl : X.data.toList = prisR b l j ++ rowB priW ((j : Int) :: L.take 0) := by rw [← hX, app_list, app_list, HA.out, hD6]; simp [rowB, priW]
      have hXs : X.size ≤ 3100 := by
        have h5 : (⟨#[112, 114, 105, 111, 32]⟩ : ByteArray).size = 5 := rfl
        rw [← hX, ByteArray.size_append, ByteArray.size_append, h5]; omega
      rw [hX]
      have HXL := Lib.hid hXl; have HXS := Lib.hid hXs
      clear hX hXl hXs hL hnx hLb hLl HCC HCF HPR HNN HA hD6 hz6 h6 S5 B5 hAs
      go_wp2
      go_loopw [8, 15] (fun s8 s15 wq => ∃ (i : Nat) (Y : ByteArray), s8 = .string Y ∧ s15 = .int .i64 i ∧ i ≤ 11 ∧ Hid (Y.size ≤ 3100 + i * 100) ∧ Hid (Y.data.toList = prisR b l j ++ rowB priW ((j : Int) :: L.take i)) ∧ Hid (Below w6.heap.size w6 wq)) (fun _ s15 _ => 11 - (intOf s15).toNat)
      case atStart => exact ⟨0, X, rfl, rfl, Nat.zero_le _, HXS, HXL, Lib.hid (Below.refl _ _)⟩
      case round =>
        clear HXL HXS
        obtain ⟨i, Y, rfl, rfl, hi, HYS, HY, HQ⟩ := hrel
        by_cases hil : i < 11
        · have hiz : (i : Int) < 11 := by omega
          have hYs : Y.size ≤ 4200 := by have := HYS.out; omega
          have hiL : i < L.length := by have := HLL.out; omega
          have c0 := icell_at (S6.out.below HQ.out) hiL
          have hxb := HLB.out _ (List.getElem_mem hiL)
          have htk : L.take (i + 1) = L.take i ++ [L[i]] := List.take_succ_eq_append_getElem hiL
          obtain ⟨x, hx⟩ : ∃ x, L[i] = x := ⟨_, rfl⟩
          rw [hx] at c0 hxb htk
          have q2 : IntKind.u64.wrap x = x := IntWalk.u64_in _ (by omega)
          have HTK := Lib.hid htk
          clear hx htk hiL
          go_upto_region 14 with (go_at_call 46; (with_reducible refine (GDI.out _ _ (by omega) (by omega)).mono ?_); rintro e w7 ⟨D7, rfl, hD7, hz7, h7⟩)
          obtain ⟨Z, hZ⟩ : ∃ Z, Y ++ ⟨#[32]⟩ ++ D7 = Z := ⟨_, rfl⟩
          have hZl : Z.data.toList = prisR b l j ++ rowB priW ((j : Int) :: L.take (i + 1)) := by
            rw [← hZ, app_list, app_list, HY.out, hD7, HTK.out, ← List.cons_append, rowB_snoc]; simp
          have hZs : Z.size ≤ 3100 + (i + 1) * 100 := by
            have h5 : (⟨#[32]⟩ : ByteArray).size = 1 := rfl
            have := HYS.out
            rw [← hZ, ByteArray.size_append, ByteArray.size_append, h5]; omega
          rw [hZ]
          have HZL := Lib.hid hZl; have HZS := Lib.hid hZs; have HQ7 := Lib.hid (bt HQ.out h7)
          clear hZ hZl hZs hD7 hz7 HY HYS HQ h7 hYs q2 c0
          go_wp2
          go_roundw
          case rel => exact ⟨i + 1, Z, rfl, by go_num, by omega, HZS, HZL, HQ7⟩
          case measure => simp [intOf]; omega
        · obtain rfl : i = 11 := by omega
          have hYs : Y.size ≤ 4200 := by have := HYS.out; omega
          go_upto_region 7 with fail
          obtain ⟨Z, hZ⟩ : ∃ Z, Y ++ ⟨#[10]⟩ = Z := ⟨_, rfl⟩
          have hZl : Z.data.toList = prisR b l (j + 1) := by
            rw [← hZ, app_list, HY.out, HNX.out, List.take_of_length_le (by rw [HLL.out]; omega)]; simp
          rw [hZ]
          have HZL := Lib.hid hZl
          have HB9 := Lib.hid (bt B6.out HQ.out)
          clear hZ hZl HY HYS HQ
          go_wp2
          go_roundw
          case rel => exact ⟨j + 1, Z, rfl, by go_num, by omega, HZL, HB9⟩
          case measure => simp [intOf]; omega
    · have hltz : ¬ (j : Int) < 3 := by omega
      have F0 : Hid (A.data.toList = prisR b l 3 ++ nodsR b szB l (1 - 1)) := Lib.hid (by rw [HA.out, show j = 3 by omega]; exact (List.append_nil _).symm)
      clear HA GCO GLA hlt
      go_wp2
      go_loopw [8, 16] (fun s8 s16 wq => ∃ (n : Nat) (Y : ByteArray), s8 = .string Y ∧ s16 = .int .i64 n ∧ 1 ≤ n ∧ n ≤ 17 ∧ Hid (Y.data.toList = prisR b l 3 ++ nodsR b szB l (n - 1)) ∧ Hid (Below w.heap.size w wq)) (fun _ s16 _ => 17 - (intOf s16).toNat)
      case atStart => exact ⟨1, A, rfl, rfl, Nat.le_refl _, by omega, F0, HB⟩
      case round =>
        clear F0 HB hj hltz
        obtain ⟨n, Y, rfl, rfl, hn1, hn, HY, HQ⟩ := hrel
        have hYs : Y.size ≤ 19000 := by
          have h1 := prisR_len HV.out 3 (Nat.le_refl _)
          have h2 := nodsR_len HV.out (n - 1) (by omega)
          rw [sz_list, HY.out, List.length_append]
          omega
        by_cases hlt : n < 17
        · have hltz : (n : Int) ≤ 16 := by omega
          have hn16 : n ≤ 16 := by omega
          have hsc := nodsR_succ b szB l (n - 1)
          rw [Nat.sub_add_cancel hn1] at hsc
          have gs := fun W => GST.out n W hn1 hn16
          have gp := fun W => GPK.out n W hn1 hn16
          have hpk := pk_bd HV.out (n : Int)
          have hnr : nodR b szB l n = if stepsO b szB (n : Int) l = [] then [] else rowT nodW [n, (pkO (stepsO b szB (n : Int) l)).1.toNat, (pkO (stepsO b szB (n : Int) l)).2.toNat] := rfl
          obtain ⟨T, hT⟩ : ∃ T, stepsO b szB (n : Int) l = T := ⟨_, rfl⟩
          rw [hT] at hpk hnr
          simp only [hT] at gs gp
          obtain ⟨p1, e1⟩ : ∃ p, (pkO T).1 = p := ⟨_, rfl⟩
          obtain ⟨p2, e2⟩ : ∃ p, (pkO T).2 = p := ⟨_, rfl⟩
          rw [e1, e2] at hpk hnr
          simp only [e1, e2] at gp
          have q1 : IntKind.u64.wrap (n : Int) = (n : Int) := IntWalk.u64_in _ (by omega)
          have q2 : IntKind.u64.wrap p1 = p1 := IntWalk.u64_in _ (by omega)
          have GS := Lib.hid gs; have GP := Lib.hid gp; have HNR := Lib.hid hnr; have HSC := Lib.hid hsc
          obtain ⟨⟨hp1, hp2⟩, hp3, hp4⟩ := hpk
          clear hT e1 e2 gs gp hnr hsc GST GPK GFA
          go_upto_region 22 with (first
            | (go_at_call 10; (with_reducible refine (GS.out _ HQ.out).mono ?_); rintro e w2 ⟨v2, rfl, ho2, h2⟩; (obtain ⟨a2, c2, rfl, hS2, _⟩ := srow_of_owns lc_len ho2); (have B2 := Lib.hid (bt HQ.out h2)); clear ho2 h2 hS2)
            | (go_at_call 13; (with_reducible refine (GP.out _ B2.out).mono ?_); rintro e w3 ⟨rfl, h3⟩; (have B3 := Lib.hid (bt B2.out h3)); clear h3))
          refine wp_freshQ w3.heap.size #[.int .i64 p1, .int .u64 p2] (by (apply blk_to; (focus (repeat (first | (with_reducible assumption) | (with_reducible apply blk_drew) | (with_reducible apply blk_set) | ((with_reducible apply blk_other'); (first | (focus (dsimp only; assumption)) | (focus (simp; done)) | (focus (dsimp only; omega)))) | ((with_reducible apply blk_alloc_new); (first | (with_reducible rfl) | (focus (simp; done)) | (focus (simp; omega)))) | (with_reducible apply blk_alloc) | ((with_reducible apply blk_below); (with_reducible assumption))))); rfl)) (by (repeat (first | (with_reducible assumption) | (with_reducible exact Below.refl _ _) | (with_reducible refine beld_drew ?_) | ((with_reducible refine bset' ?_ ?_); (first | (focus (dsimp only; assumption)) | (focus (simp; done)) | (focus (dsimp only; omega)))) | (with_reducible refine belt_alloc ?_) | ((with_reducible refine zeroed_below' ?_ ?_); (first | (focus (simp; done)) | (focus (dsimp only; omega)))) | (with_reducible refine bt ?_ (by assumption)))) : Below w3.heap.size w3 _) ?_
          intro u ku hu
          have B4 := Lib.hid (bt B3.out hu)
          clear GS GP B2 B3 HQ hu
          by_cases hTn : T = []
          · subst hTn
            rw [if_pos rfl] at HNR
            go_wp2
            go_roundw
            case rel => exact ⟨n + 1, Y, rfl, by go_num, by omega, by omega, Lib.hid (by rw [Nat.add_sub_cancel, HSC.out, HNR.out, List.append_nil]; exact HY.out), B4⟩
            case measure => simp [intOf]; omega
          · have hTl : (0 : Int) < (T.length : Int) := by have := List.length_pos_iff.2 hTn; omega
            have HNR : Hid (nodR b szB l n = rowT nodW [n, p1.toNat, p2.toNat]) := Lib.hid (by rw [HNR.out, if_neg hTn])
            have HE := Lib.hid hTn
            have nu := kn ku
            clear hTn
            go_upto_region 23 with fail
            have s0 : ¬ 9223372036854775807 < Y.size + 5 := by omega
            go_region_held3 (fun W => ∀ o, W.cell? ⟨w3.heap.size, o, none⟩ = (#[.int .i64 p1, .int .u64 p2] : Array Value)[o]?) (exact fun o => blk_cell (by (apply blk_to; (focus (repeat (first | (with_reducible assumption) | (with_reducible apply blk_drew) | (with_reducible apply blk_set) | ((with_reducible apply blk_other'); (first | (focus (dsimp only; assumption)) | (focus (simp; done)) | (focus (dsimp only; omega)))) | ((with_reducible apply blk_alloc_new); (first | (with_reducible rfl) | (focus (simp; done)) | (focus (simp; omega)))) | (with_reducible apply blk_alloc) | ((with_reducible apply blk_below); (with_reducible assumption))))); rfl)) o) (first
              | (go_at_call 46; (with_reducible refine (GDI.out (n : Int) _ (by omega) (by omega)).mono ?_); rintro e v1 ⟨D1, rfl, hD1, hz1, h1⟩; (have k1 : blk v1 w3.heap.size = some #[.int .i64 p1, .int .u64 p2] := (by (apply blk_to; (focus (repeat (first | (with_reducible assumption) | (with_reducible apply blk_drew) | (with_reducible apply blk_set) | ((with_reducible apply blk_other'); (first | (focus (dsimp only; assumption)) | (focus (simp; done)) | (focus (dsimp only; omega)))) | ((with_reducible apply blk_alloc_new); (first | (with_reducible rfl) | (focus (simp; done)) | (focus (simp; omega)))) | (with_reducible apply blk_alloc) | ((with_reducible apply blk_below); (with_reducible assumption))))); rfl))); (have n1 := kn k1); (have s1 : ¬ 9223372036854775807 < Y.size + 5 + D1.size := by omega); (have s2 : ¬ 9223372036854775807 < Y.size + 5 + D1.size + 1 := by omega))
              | (go_at_call 46; (with_reducible refine (GDI.out p1 _ (by omega) (by omega)).mono ?_); rintro e v2 ⟨D2, rfl, hD2, hz2, h2⟩; (have k2 : blk v2 w3.heap.size = some #[.int .i64 p1, .int .u64 p2] := (by (apply blk_to; (focus (repeat (first | (with_reducible assumption) | (with_reducible apply blk_drew) | (with_reducible apply blk_set) | ((with_reducible apply blk_other'); (first | (focus (dsimp only; assumption)) | (focus (simp; done)) | (focus (dsimp only; omega)))) | ((with_reducible apply blk_alloc_new); (first | (with_reducible rfl) | (focus (simp; done)) | (focus (simp; omega)))) | (with_reducible apply blk_alloc) | ((with_reducible apply blk_below); (with_reducible assumption))))); rfl))); (have n2 := kn k2); (have s3 : ¬ 9223372036854775807 < Y.size + 5 + D1.size + 1 + D2.size := by omega); (have s4 : ¬ 9223372036854775807 < Y.size + 5 + D1.size + 1 + D2.size + 1 := by omega))
              | (go_at_call 46; (with_reducible refine (GDI.out p2 _ (by omega) (by omega)).mono ?_); rintro e v3 ⟨D3, rfl, hD3, hz3, h3⟩; (have s5 : ¬ 9223372036854775807 < Y.size + 5 + D1.size + 1 + D2.size + 1 + D3.size := by omega); (have s6 : ¬ 9223372036854775807 < Y.size + 5 + D1.size + 1 + D2.size + 1 + D3.size + 1 := by omega)))
            have B9 := Lib.hid (bt B4.out (bdrT (bt h1 (bt h2 h3))))
            clear h1 h2 h3 k1 k2 n1 n2 s1 s2 s3 s4 s5 s6 B4
            obtain ⟨Z, hZ⟩ : ∃ Z, Y ++ ⟨#[110, 111, 100, 101, 32]⟩ ++ D1 ++ ⟨#[32]⟩ ++ D2 ++ ⟨#[32]⟩ ++ D3 ++ ⟨#[10]⟩ = Z := ⟨_, rfl⟩
            have hZl : Z.data.toList = prisR b l 3 ++ nodsR b szB l n := by
              rw [← hZ]
              simp only [app_list]
              rw [HY.out, hD1, hD2, hD3, HSC.out, HNR.out]
              simp [rowT, nodW]
            rw [hZ]
            have HZL := Lib.hid hZl
            clear hZ hZl hD1 hD2 hD3 hz1 hz2 hz3
            go_wp2
            go_roundw
            case rel => exact ⟨n + 1, Z, rfl, by go_num, by omega, by omega, HZL, B9⟩
            case measure => simp [intOf]; omega
        · have hltz : ¬ (n : Int) ≤ 16 := by omega
          have hn17 : n - 1 = 16 := by omega
          have hfb := fai_bd HV.out
          have hfr : faiR b l = rowT faiW [(faiO b l).1.toNat, (faiO b l).2.toNat] := rfl
          have hE : txtO b szB l = prisR b l 3 ++ nodsR b szB l 16 ++ faiR b l := by unfold txtO prisR; simp [List.range_succ]
          have gf := GFA.out
          obtain ⟨f1, e1⟩ : ∃ p, (faiO b l).1 = p := ⟨_, rfl⟩
          obtain ⟨f2, e2⟩ : ∃ p, (faiO b l).2 = p := ⟨_, rfl⟩
          rw [e1, e2] at hfb hfr
          simp only [e1, e2] at gf
          have HY : Hid (Y.data.toList = prisR b l 3 ++ nodsR b szB l 16) := Lib.hid (by rw [HY.out, hn17])
          have GF := Lib.hid gf
          have HE := Lib.hid hE
          have HFR := Lib.hid hfr
          obtain ⟨⟨hf1, hf2⟩, hf3, hf4⟩ := hfb
          clear e1 e2 hfr hE gf GST GPK GFA HV hn17 hlt hn hn1
          have s0 : ¬ 9223372036854775807 < Y.size + 10 := by omega
          go_upto_region 25 with (go_at_call 15; (with_reducible refine (GF.out _ HQ.out).mono ?_); rintro e w2 ⟨rfl, h2⟩; (have B2 := Lib.hid (bt HQ.out h2)); clear h2)
          go_upto_region 26 with (first
            | (go_at_call 46; (with_reducible refine (GDI.out f1 _ (by omega) (by omega)).mono ?_); rintro e v1 ⟨D1, rfl, hD1, hz1, h1⟩)
            | (go_at_call 46; (with_reducible refine (GDI.out f2 _ (by omega) (by omega)).mono ?_); rintro e v2 ⟨D2, rfl, hD2, hz2, h2⟩))
          have B9 := Lib.hid (bt B2.out (bt h1 h2))
          clear h1 h2 B2
          obtain ⟨Z, hZ⟩ : ∃ Z, Y ++ ⟨#[102, 97, 105, 114, 110, 101, 115, 115, 32]⟩ ++ D1 ++ ⟨#[32]⟩ ++ D2 ++ ⟨#[10]⟩ = Z := ⟨_, rfl⟩
          have hZl : Z.data.toList = txtO b szB l := by
            rw [← hZ]
            simp only [app_list]
            rw [HY.out, hD1, hD2, HE.out, HFR.out]
            simp [rowT, faiW]
          rw [hZ]
          have HZL := Lib.hid hZl
          clear hZ hZl hD1 hD2 hz1 hz2
          go_wp2
          go_ret2
          clear GDI GF HY HFR HE
          exact ⟨by rw [ba_eq HZL.out] <;> rfl, B9.out⟩
set_option maxRecDepth 100000 in
set_option maxHeartbeats 1600000 in
theorem rtext_any (ab al : Option Addr) (cb cl : Nat) (b : List Bn) (l : List Oc) (hd : ∀ x ∈ b, x.da.size ≤ maxLen ∧ 0 ≤ x.sq) (w : World) (hb : SRow bn 9 w ab cb b) (hl : SRow oc 7 w al cl l) :
    Calls Tryz.prog 17 #[.slice ab b.length cb, .slice al l.length cl] w fun e w' => e = .returned (.tuple #[.string ⟨(txtR b l).toArray⟩, .int .i64 (runC b l).1]) ∧ Below w.heap.size w w' := by
  unfold txtR
  by_cases h0 : (runC b l).1 = 0
  · rw [if_pos h0, h0]
    exact rtext_ok ab al cb cl b l h0 hd w hb hl
  · rw [if_neg h0]
    have GC := Lib.hid (rrcheck_any ab al cb cl b l (fun x hx => (hd x hx).1) w hb hl)
    obtain ⟨r1, hr1⟩ : ∃ r, (runC b l).1 = r := ⟨_, rfl⟩
    obtain ⟨r2, hr2⟩ : ∃ r, (runC b l).2 = r := ⟨_, rfl⟩
    rw [hr1] at h0 ⊢
    rw [hr1, hr2] at GC
    have q0 : (r1 != 0) = true := by simpa using h0
    clear hr1 hr2 h0 hd hb hl
    go_enter Tryz.func17, Tryz.ntmps17
    go_wp2_with (go_at_call 32; (with_reducible refine (GC.out).mono ?_); rintro e w1 ⟨rfl, h1⟩)
    go_ret2
    exact ⟨rfl, h1⟩
end Go.Proofs.YthfmkkkdjgkaoaaGreatDoor
