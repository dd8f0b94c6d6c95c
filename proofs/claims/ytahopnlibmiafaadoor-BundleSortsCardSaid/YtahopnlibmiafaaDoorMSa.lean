/- Parts of a proof, printed by a program of mine out of my texts: SoRotB, SoSymB. -/
import Derived.Test.YtahopnlibmiafaaDoorMRa
import Derived.Test.YtahopnlibmiafaaDoorMU
set_option linter.unusedSimpArgs false
set_option linter.unusedVariables false
namespace Go.Proofs.YtahopnlibmiafaaDoor
open Go.RowKit
set_option maxRecDepth 100000 in
set_option maxHeartbeats 16000000 in
theorem swapB_any (g cap n : Nat) (P X Y Z S : List Bn) (sp : List Value) (cf : Value) (hXZ : X.length = Z.length) (hn : n = (P ++ X ++ Y ++ Z ++ S).length) (hlen : n ≤ 1000000) (hcap : n ≤ cap)
    (Hd : World → Prop) (hS : ∀ W o vs, Hd W → Hd (W.setCells g o vs)) (hD : ∀ W, Hd W → Hd W.drew) (a b k0 : Nat) (ha : a = P.length) (hb : b = P.length + X.length + Y.length) (hk0 : k0 = X.length) (w : World) (h0 : Hd w) (hbk : blk w g = some (rowC bn (P ++ X ++ Y ++ Z ++ S) ++ sp).toArray) :
    Calls Tryd.prog 140 #[.slice (some ⟨g, 0, none⟩) n cap, .int .i64 a, .int .i64 b, .int .i64 k0, cf] w fun e w' =>
      e = .returned (.tuple #[]) ∧ w.grownBy w' (some g) ∧ blk w' g = some (rowC bn (P ++ Z ++ Y ++ X ++ S) ++ sp).toArray ∧ Hd w' := by
  replace hS := Lib.hid hS; replace hD := Lib.hid hD
  have HBK := Lib.hid hbk; have H0 := Lib.hid h0
  have hn2 : n = P.length + X.length + Y.length + Z.length + S.length := by rw [hn]; simp; omega
  have HN := Lib.hid hn2
  have HA := Lib.hid ha; have HBB := Lib.hid hb; have HK0 := Lib.hid hk0; have HXZ := Lib.hid hXZ
  have bk : k0 ≤ 1000000 := by omega
  have ba : a ≤ 1000000 := by omega
  have bb : b ≤ 1000000 := by omega
  clear hbk h0 hn hn2 ha hb hk0 hXZ
  go_enter Tryd.func140, Tryd.ntmps140
  go_wp2
  go_loopw [10] (fun vi wr => ∃ X1 X2 Z1 Z2 : List Bn, vi = .int .i64 (X1.length : Int) ∧ w.grownBy wr (some g) ∧ Hid (X = X1 ++ X2 ∧ Z = Z1 ++ Z2 ∧ X1.length = Z1.length ∧ blk wr g = some (rowC bn (P ++ (Z1 ++ X2) ++ Y ++ (X1 ++ Z2) ++ S) ++ sp).toArray ∧ Hd wr)) (fun vi _ => k0 - (intOf vi).toNat)
  case atStart => exact ⟨[], X, [], Z, rfl, igrown_self w g, Lib.hid ⟨rfl, rfl, rfl, HBK.out, H0.out⟩⟩
  case round =>
    clear HBK H0
    obtain ⟨X1, X2, Z1, Z2, rfl, hgr, HQ⟩ := hrel
    obtain ⟨i, hi⟩ : ∃ i, i = X1.length := ⟨_, rfl⟩
    rw [← hi]
    have lx : X.length = X1.length + X2.length := by rw [HQ.out.1]; simp
    have lz : Z.length = Z1.length + Z2.length := by rw [HQ.out.2.1]; simp
    cases X2 with
    | nil =>
      have hz2 : Z2 = [] := by
        have := HQ.out.2.2.1; have := HXZ.out
        exact List.length_eq_zero_iff.1 (by simp at lx; omega)
      subst hz2
      have hik : i = k0 := by have := HK0.out; simp at lx; omega
      have t1 : decide ((i : Int) < (k0 : Int)) = false := decide_eq_false (by omega)
      have l0 : ¬ ((i : Int) < (k0 : Int)) := by omega
      have l00 : ¬ (i < k0) := by omega
      clear lx lz hik
      go_wp2
      go_end0
      refine ⟨rfl, hgr, ?_, HQ.out.2.2.2.2⟩
      have hq := HQ.out.2.2.2.1
      have e1 : X = X1 := by rw [HQ.out.1, List.append_nil]
      have e2 : Z = Z1 := by rw [HQ.out.2.1, List.append_nil]
      rw [List.append_nil, List.append_nil] at hq
      rw [e1, e2]
      simp only [List.append_assoc] at hq ⊢
      exact hq
    | cons x X2 =>
      cases Z2 with
      | nil =>
        exfalso
        have := HQ.out.2.2.1; have := HXZ.out
        simp at lx lz; omega
      | cons z Z2 =>
        have hik : i < k0 := by have := HK0.out; simp at lx; omega
        obtain ⟨j, hj⟩ : ∃ j, j = a + i := ⟨_, rfl⟩
        obtain ⟨k, hk⟩ : ∃ k, k = b + i := ⟨_, rfl⟩
        have t1 : decide ((i : Int) < (k0 : Int)) = true := decide_eq_true (by omega)
        have l0 : (i : Int) < (k0 : Int) := by omega
        have m1 : IntKind.i64.wrap ((a : Int) + (i : Int)) = j := (IntWalk.i64_in _ (by omega)).trans (by omega)
        have m2 : IntKind.i64.wrap ((b : Int) + (i : Int)) = k := (IntWalk.i64_in _ (by omega)).trans (by omega)
        have m1' : (a : Int) + (i : Int) = j := by omega
        have m2' : (b : Int) + (i : Int) = k := by omega
        obtain ⟨M, hM⟩ : ∃ M, M = (P ++ Z1) ++ x :: (X2 ++ Y ++ X1) ++ z :: (Z2 ++ S) := ⟨_, rfl⟩
        have eM : P ++ (Z1 ++ x :: X2) ++ Y ++ (X1 ++ z :: Z2) ++ S = M := by rw [hM]; simp
        have q3 := HQ.out.2.2.1
        have hjU : (P ++ Z1).length = j := by have := HA.out; simp; omega
        have hkU : (P ++ Z1).length + 1 + (X2 ++ Y ++ X1).length = k := by have := HBB.out; simp at lx ⊢; omega
        have hMx : M[j]? = some x := by rw [hM, ← hjU]; exact sw_x _ _ _ _ _
        have hMz : M[k]? = some z := by rw [hM, ← hkU]; exact sw_z _ _ _ _ _
        have hne : j ≠ k := by omega
        have hMz2 : (M.set j z)[k]? = some z := by rw [List.getElem?_set_ne hne]; exact hMz
        have hsw : (M.set j z).set k x = P ++ ((Z1 ++ [z]) ++ X2) ++ Y ++ ((X1 ++ [x]) ++ Z2) ++ S := by rw [hM, ← hjU, ← hkU, sw_set]; simp
        have hbM : blk wr g = some (rowC bn M ++ sp).toArray := by rw [← eM]; exact HQ.out.2.2.2.1
        have lM : M.length = n := by have := HN.out; rw [← eM]; simp at lx lz ⊢; omega
        have m3 : IntKind.i64.wrap (j : Int) = j := IntWalk.i64_in _ (by omega)
        have m4 : IntKind.i64.wrap (k : Int) = k := IntWalk.i64_in _ (by omega)
        have l1 : (j : Int) < (n : Int) := by have := (List.getElem?_eq_some_iff.1 hMx).1; omega
        have l2 : (k : Int) < (n : Int) := by have := (List.getElem?_eq_some_iff.1 hMz).1; omega
        have HSW := Lib.hid hsw; have HI := Lib.hid hik
        have HJ : Hid ((X1 ++ [x]).length = i + 1) := Lib.hid (by rw [hi]; simp)
        have hdr := HQ.out.2.2.2.2
        clear hM eM hjU hkU hsw lM lx lz q3 hi hj hk hne hik
        go_wp2_with fail
        refine wp_region_held_drew (S := fun _ => True) (by kernel_rfl) trivial (fun _ => ?_)
        obtain ⟨d0, ed0⟩ : ∃ v, v = wr.drew := ⟨_, rfl⟩
        have kd : blk d0 g = some (rowC bn M ++ sp).toArray := (by rw [ed0]; exact blk_drew hbM)
        have hgr3 : Hid (w.grownBy d0 (some g)) := Lib.hid (by rw [ed0]; exact igrown_drew hgr)
        have hd0 : Hd d0 := (by rw [ed0]; exact hD.out _ hdr)
        rw [← ed0]
        clear ed0 hgr hbM hdr
        have rX := range_row bn_len kd hMx
        have rY := range_row bn_len kd hMz
        have hk1 : j < M.length := (List.getElem?_eq_some_iff.1 hMx).1
        have hk2 : k < M.length := (List.getElem?_eq_some_iff.1 hMz).1
        have hsz : M.length * 9 ≤ ((rowC bn M ++ sp).toArray).size := by simp [rowC_length bn_len]
        have th1 : d0.there g (j * 9) (bn z).toArray.size := there_of_blk kd (by show j * 9 + 9 ≤ _; omega)
        have hsz2 : M.length * 9 ≤ ((rowC bn (M.set j z) ++ sp).toArray).size := by simp [rowC_length bn_len]
        clear hMx hMz hMz2
        have hTr : True := trivial
        refine wpAnyH_take (i := 0) (oi := _) (v := ?_) rfl (by kernel_rfl) (by kernel_rfl) (by kernel_rfl) (fun _ _ _ h => h) (Or.inl ⟨by rfl, ?_⟩) (by assumption) ?_
        rotate_left
        focus (intro W hSw; (try dsimp only at hSw); go_simp; (try with_reducible rfl))
        (try simp only [Act.put, List.setIfInBounds_toArray, List.set_cons_zero, List.set_cons_succ, List.getElem_toArray, List.getElem_cons_succ, List.getElem_cons_zero])
        refine wpAnyH_take (i := 1) (oi := _) (v := ?_) rfl (by kernel_rfl) (by kernel_rfl) (by kernel_rfl) (fun _ _ _ h => h) (Or.inl ⟨by rfl, ?_⟩) (by assumption) ?_
        rotate_left
        focus (intro W hSw; (try dsimp only at hSw); go_simp; (try with_reducible rfl))
        (try simp only [Act.put, List.setIfInBounds_toArray, List.set_cons_zero, List.set_cons_succ, List.getElem_toArray, List.getElem_cons_succ, List.getElem_cons_zero])
        refine wpAnyH_take (i := 2) (oi := _) (v := ?_) rfl (by kernel_rfl) (by kernel_rfl) (by kernel_rfl) (fun _ _ _ h => h) (Or.inl ⟨by rfl, ?_⟩) (by assumption) ?_
        rotate_left
        focus (intro W hSw; (try dsimp only at hSw); go_simp; (try with_reducible rfl))
        (try simp only [Act.put, List.setIfInBounds_toArray, List.set_cons_zero, List.set_cons_succ, List.getElem_toArray, List.getElem_cons_succ, List.getElem_cons_zero])
        refine wpAnyH_take (i := 3) (oi := _) (v := ?_) rfl (by kernel_rfl) (by kernel_rfl) (by kernel_rfl) (fun _ _ _ h => h) (Or.inl ⟨by rfl, ?_⟩) (by assumption) ?_
        rotate_left
        focus (intro W hSw; (try dsimp only at hSw); go_simp; (try with_reducible rfl))
        (try simp only [Act.put, List.setIfInBounds_toArray, List.set_cons_zero, List.set_cons_succ, List.getElem_toArray, List.getElem_cons_succ, List.getElem_cons_zero])
        refine wpAnyH_take (i := 4) (oi := _) (v := ?_) rfl (by kernel_rfl) (by kernel_rfl) (by kernel_rfl) (fun _ _ _ h => h) (Or.inl ⟨by rfl, ?_⟩) (by assumption) ?_
        rotate_left
        focus (intro W hSw; (try dsimp only at hSw); go_simp; (try with_reducible rfl))
        (try simp only [Act.put, List.setIfInBounds_toArray, List.set_cons_zero, List.set_cons_succ, List.getElem_toArray, List.getElem_cons_succ, List.getElem_cons_zero])
        refine wpAnyH_take (i := 5) (oi := _) (v := ?_) rfl (by kernel_rfl) (by kernel_rfl) (by kernel_rfl) (fun _ _ _ h => h) (Or.inl ⟨by rfl, ?_⟩) (by assumption) ?_
        rotate_left
        focus (intro W hSw; (try dsimp only at hSw); go_simp; (try with_reducible rfl))
        (try simp only [Act.put, List.setIfInBounds_toArray, List.set_cons_zero, List.set_cons_succ, List.getElem_toArray, List.getElem_cons_succ, List.getElem_cons_zero])
        refine wpAnyH_take (i := 6) (oi := _) (v := ?_) rfl (by kernel_rfl) (by kernel_rfl) (by kernel_rfl) (fun _ _ _ h => h) (Or.inl ⟨by rfl, ?_⟩) (by assumption) ?_
        rotate_left
        focus (intro W hSw; (try dsimp only at hSw); go_simp; (try with_reducible rfl))
        (try simp only [Act.put, List.setIfInBounds_toArray, List.set_cons_zero, List.set_cons_succ, List.getElem_toArray, List.getElem_cons_succ, List.getElem_cons_zero])
        refine wpAnyH_take (i := 7) (oi := _) (v := ?_) rfl (by kernel_rfl) (by kernel_rfl) (by kernel_rfl) (fun _ _ _ h => h) (Or.inl ⟨by rfl, ?_⟩) (by assumption) ?_
        rotate_left
        focus (intro W hSw; (try dsimp only at hSw); go_simp; (try with_reducible rfl))
        (try simp only [Act.put, List.setIfInBounds_toArray, List.set_cons_zero, List.set_cons_succ, List.getElem_toArray, List.getElem_cons_succ, List.getElem_cons_zero])
        refine wpAnyH_take (i := 8) (oi := _) (v := ?_) rfl (by kernel_rfl) (by kernel_rfl) (by kernel_rfl) (fun _ _ _ h => h) (Or.inl ⟨by rfl, ?_⟩) (by assumption) ?_
        rotate_left
        focus (intro W hSw; (try dsimp only at hSw); go_simp; (try with_reducible rfl))
        (try simp only [Act.put, List.setIfInBounds_toArray, List.set_cons_zero, List.set_cons_succ, List.getElem_toArray, List.getElem_cons_succ, List.getElem_cons_zero])
        refine wpAnyH_take (i := 9) (oi := _) (v := ?_) rfl (by kernel_rfl) (by kernel_rfl) (by kernel_rfl) (fun _ _ _ h => h) (Or.inl ⟨by rfl, ?_⟩) (by assumption) ?_
        rotate_left
        focus (intro W hSw; (try dsimp only at hSw); go_simp; (try with_reducible rfl))
        (try simp only [Act.put, List.setIfInBounds_toArray, List.set_cons_zero, List.set_cons_succ, List.getElem_toArray, List.getElem_cons_succ, List.getElem_cons_zero])
        refine wpAnyH_take (i := 10) (oi := _) (v := ?_) rfl (by kernel_rfl) (by kernel_rfl) (by kernel_rfl) (fun _ _ _ h => h) (Or.inl ⟨by rfl, ?_⟩) (by assumption) ?_
        rotate_left
        focus (intro W hSw; (try dsimp only at hSw); go_simp; (try with_reducible rfl))
        (try simp only [Act.put, List.setIfInBounds_toArray, List.set_cons_zero, List.set_cons_succ, List.getElem_toArray, List.getElem_cons_succ, List.getElem_cons_zero])
        refine wpAnyH_take (i := 11) (oi := _) (v := ?_) rfl (by kernel_rfl) (by kernel_rfl) (by kernel_rfl) (fun _ _ _ h => h) (Or.inl ⟨by rfl, ?_⟩) (by assumption) ?_
        rotate_left
        focus (intro W hSw; (try dsimp only at hSw); go_simp; (try with_reducible rfl))
        (try simp only [Act.put, List.setIfInBounds_toArray, List.set_cons_zero, List.set_cons_succ, List.getElem_toArray, List.getElem_cons_succ, List.getElem_cons_zero])
        refine wpAnyH_take (i := 12) (oi := _) (v := ?_) rfl (by kernel_rfl) (by kernel_rfl) (by kernel_rfl) (fun _ _ _ h => h) (Or.inl ⟨by rfl, ?_⟩) (by assumption) ?_
        rotate_left
        focus (intro W hSw; (try dsimp only at hSw); go_simp; (try with_reducible rfl))
        (try simp only [Act.put, List.setIfInBounds_toArray, List.set_cons_zero, List.set_cons_succ, List.getElem_toArray, List.getElem_cons_succ, List.getElem_cons_zero])
        refine wpAnyH_take (i := 14) (oi := _) (v := ?_) rfl (by kernel_rfl) (by kernel_rfl) (by kernel_rfl) (fun _ _ _ h => h) (Or.inl ⟨by rfl, ?_⟩) (by assumption) ?_
        rotate_left
        focus (intro W hSw; (try dsimp only at hSw); go_simp; (try with_reducible rfl))
        (try simp only [Act.put, List.setIfInBounds_toArray, List.set_cons_zero, List.set_cons_succ, List.getElem_toArray, List.getElem_cons_succ, List.getElem_cons_zero])
        refine wpAnyH_take (i := 15) (oi := _) (v := ?_) rfl (by kernel_rfl) (by kernel_rfl) (by kernel_rfl) (fun _ _ _ h => h) (Or.inl ⟨by rfl, ?_⟩) (by assumption) ?_
        rotate_left
        focus (intro W hSw; (try dsimp only at hSw); go_simp; (try with_reducible rfl))
        (try simp only [Act.put, List.setIfInBounds_toArray, List.set_cons_zero, List.set_cons_succ, List.getElem_toArray, List.getElem_cons_succ, List.getElem_cons_zero])
        refine wpAnyH_take (i := 16) (oi := _) (v := ?_) rfl (by kernel_rfl) (by kernel_rfl) (by kernel_rfl) (fun _ _ _ h => h) (Or.inl ⟨by rfl, ?_⟩) (by assumption) ?_
        rotate_left
        focus (intro W hSw; (try dsimp only at hSw); go_simp; (try with_reducible rfl))
        (try simp only [Act.put, List.setIfInBounds_toArray, List.set_cons_zero, List.set_cons_succ, List.getElem_toArray, List.getElem_cons_succ, List.getElem_cons_zero])
        refine wpAnyH_take (i := 17) (oi := _) (v := ?_) rfl (by kernel_rfl) (by kernel_rfl) (by kernel_rfl) (fun _ _ _ h => h) (Or.inl ⟨by rfl, ?_⟩) (by assumption) ?_
        rotate_left
        focus (intro W hSw; (try dsimp only at hSw); go_simp; (try with_reducible rfl))
        (try simp only [Act.put, List.setIfInBounds_toArray, List.set_cons_zero, List.set_cons_succ, List.getElem_toArray, List.getElem_cons_succ, List.getElem_cons_zero])
        refine wpAnyH_take (i := 18) (oi := _) (v := ?_) rfl (by kernel_rfl) (by kernel_rfl) (by kernel_rfl) (fun _ _ _ h => h) (Or.inl ⟨by rfl, ?_⟩) (by assumption) ?_
        rotate_left
        focus (intro W hSw; (try dsimp only at hSw); go_simp; (try with_reducible rfl))
        (try simp only [Act.put, List.setIfInBounds_toArray, List.set_cons_zero, List.set_cons_succ, List.getElem_toArray, List.getElem_cons_succ, List.getElem_cons_zero])
        refine wpAnyH_ready (rs := [13, 19]) (by kernel_rfl) (by simp) ?_
        refine AllReadyH.cons rfl (fun K hK => ?_) ?_
        · skip
          rw [if_pos (by rfl)]
          refine wp_load_mid 81 (.tmp 28) rfl g (k * 9) rfl (bn z) _ rY Tryd.underlying81 rfl (by kernel_rfl) ?_
          refine hK.out _ _ trivial (fun _ => ?_)
          clear hK K
          (try simp only [Act.put, List.setIfInBounds_toArray, List.set_cons_zero, List.set_cons_succ, List.getElem_toArray, List.getElem_cons_succ, List.getElem_cons_zero])
          refine wpAnyH_ready (rs := [19]) (by kernel_rfl) (by simp) ?_
          refine AllReadyH.cons rfl (fun K hK => ?_) AllReadyH.nil
          rw [if_pos (by rfl)]
          refine wp_load_mid 81 (.tmp 34) rfl g (j * 9) rfl (bn x) _ rX Tryd.underlying81 rfl (by kernel_rfl) ?_
          refine hK.out _ _ trivial (fun _ => ?_)
          clear hK K
          (try simp only [Act.put, List.setIfInBounds_toArray, List.set_cons_zero, List.set_cons_succ, List.getElem_toArray, List.getElem_cons_succ, List.getElem_cons_zero])
          refine wpAnyH_take (i := 20) (oi := _) (v := ?_) rfl (by kernel_rfl) (by kernel_rfl) (by kernel_rfl) (fun _ _ _ h => h) (Or.inl ⟨by rfl, ?_⟩) (by assumption) ?_
          rotate_left
          focus (intro W hSw; (try dsimp only at hSw); go_simp; (try with_reducible rfl))
          (try simp only [Act.put, List.setIfInBounds_toArray, List.set_cons_zero, List.set_cons_succ, List.getElem_toArray, List.getElem_cons_succ, List.getElem_cons_zero])
          refine wpAnyH_ready (rs := [21]) (by kernel_rfl) (by simp) ?_
          refine AllReadyH.cons rfl (fun K hK => ?_) AllReadyH.nil
          rw [if_pos (by rfl)]
          refine wp_store_mid 81 (.tmp 36) (.tmp 29) rfl g (j * 9) (bn z).toArray rfl rfl th1 (by kernel_rfl) (by kernel_rfl) ?_
          obtain ⟨d1, ed1⟩ : ∃ v, v = d0.setCells g (j * 9) (bn z).toArray.toList := ⟨_, rfl⟩
          have kd2 : blk d1 g = some (rowC bn (M.set j z) ++ sp).toArray := (by rw [ed1]; exact (blk_setCells (bn z) (j * 9) _ _ kd).trans (congrArg some (setMid_row bn_len M j hk1 z sp)))
          have gr2 : w.grownBy d1 (some g) := (by rw [ed1]; exact grown_cells (bn z) (j * 9) _ hgr3.out)
          have hd2 : Hd d1 := (by rw [ed1]; exact hS.out _ _ _ hd0)
          rw [← ed1]
          clear ed1
          have th2 : d1.there g (k * 9) (bn x).toArray.size := there_of_blk kd2 (by show k * 9 + 9 ≤ _; omega)
          refine hK.out _ _ trivial (fun _ => ?_)
          clear hK K
          (try simp only [Act.put, List.setIfInBounds_toArray, List.set_cons_zero, List.set_cons_succ, List.getElem_toArray, List.getElem_cons_succ, List.getElem_cons_zero])
          refine wpAnyH_take (i := 22) (oi := _) (v := ?_) rfl (by kernel_rfl) (by kernel_rfl) (by kernel_rfl) (fun _ _ _ h => h) (Or.inl ⟨by rfl, ?_⟩) (by assumption) ?_
          rotate_left
          focus (intro W hSw; (try dsimp only at hSw); go_simp; (try with_reducible rfl))
          (try simp only [Act.put, List.setIfInBounds_toArray, List.set_cons_zero, List.set_cons_succ, List.getElem_toArray, List.getElem_cons_succ, List.getElem_cons_zero])
          refine wpAnyH_ready (rs := [23]) (by kernel_rfl) (by simp) ?_
          refine AllReadyH.cons rfl (fun K hK => ?_) AllReadyH.nil
          rw [if_pos (by rfl)]
          refine wp_store_mid 81 (.tmp 37) (.tmp 35) rfl g (k * 9) (bn x).toArray rfl rfl th2 (by kernel_rfl) (by kernel_rfl) ?_
          obtain ⟨d2, ed2⟩ : ∃ v, v = d1.setCells g (k * 9) (bn x).toArray.toList := ⟨_, rfl⟩
          have kd3 : blk d2 g = some (rowC bn ((M.set j z).set k x) ++ sp).toArray := (by rw [ed2]; exact (blk_setCells (bn x) (k * 9) _ _ kd2).trans (congrArg some (setMid_row bn_len (M.set j z) k (by simpa using hk2) x sp)))
          have gr3 : w.grownBy d2 (some g) := (by rw [ed2]; exact grown_cells (bn x) (k * 9) _ gr2)
          have hd3 : Hd d2 := (by rw [ed2]; exact hS.out _ _ _ hd2)
          rw [← ed2]
          clear ed2
          replace kd3 := Lib.hid kd3
          replace gr3 := Lib.hid gr3
          clear kd2 gr2 kd th1 th2 rX rY hd2
          refine hK.out _ _ trivial (fun _ => ?_)
          clear hK K
          (try simp only [Act.put, List.setIfInBounds_toArray, List.set_cons_zero, List.set_cons_succ, List.getElem_toArray, List.getElem_cons_succ, List.getElem_cons_zero])
          refine wpAnyH_done (by kernel_rfl) ?_ _
          go_wp2
          go_roundw
          case rel => exact ⟨X1 ++ [x], X2, Z1 ++ [z], Z2, by rw [HJ.out]; go_num, gr3.out, Lib.hid ⟨by rw [HQ.out.1]; simp, by rw [HQ.out.2.1]; simp, by have := HQ.out.2.2.1; simp; omega, by rw [← HSW.out]; exact kd3.out, hd3⟩⟩
          case measure => have := HI.out; simp [intOf]; omega
        refine AllReadyH.cons rfl (fun K hK => ?_) AllReadyH.nil
        rw [if_pos (by rfl)]
        refine wp_load_mid 81 (.tmp 34) rfl g (j * 9) rfl (bn x) _ rX Tryd.underlying81 rfl (by kernel_rfl) ?_
        refine hK.out _ _ trivial (fun _ => ?_)
        clear hK K
        (try simp only [Act.put, List.setIfInBounds_toArray, List.set_cons_zero, List.set_cons_succ, List.getElem_toArray, List.getElem_cons_succ, List.getElem_cons_zero])
        refine wpAnyH_ready (rs := [13]) (by kernel_rfl) (by simp) ?_
        refine AllReadyH.cons rfl (fun K hK => ?_) AllReadyH.nil
        rw [if_pos (by rfl)]
        refine wp_load_mid 81 (.tmp 28) rfl g (k * 9) rfl (bn z) _ rY Tryd.underlying81 rfl (by kernel_rfl) ?_
        refine hK.out _ _ trivial (fun _ => ?_)
        clear hK K
        (try simp only [Act.put, List.setIfInBounds_toArray, List.set_cons_zero, List.set_cons_succ, List.getElem_toArray, List.getElem_cons_succ, List.getElem_cons_zero])
        refine wpAnyH_take (i := 20) (oi := _) (v := ?_) rfl (by kernel_rfl) (by kernel_rfl) (by kernel_rfl) (fun _ _ _ h => h) (Or.inl ⟨by rfl, ?_⟩) (by assumption) ?_
        rotate_left
        focus (intro W hSw; (try dsimp only at hSw); go_simp; (try with_reducible rfl))
        (try simp only [Act.put, List.setIfInBounds_toArray, List.set_cons_zero, List.set_cons_succ, List.getElem_toArray, List.getElem_cons_succ, List.getElem_cons_zero])
        refine wpAnyH_ready (rs := [21]) (by kernel_rfl) (by simp) ?_
        refine AllReadyH.cons rfl (fun K hK => ?_) AllReadyH.nil
        rw [if_pos (by rfl)]
        refine wp_store_mid 81 (.tmp 36) (.tmp 29) rfl g (j * 9) (bn z).toArray rfl rfl th1 (by kernel_rfl) (by kernel_rfl) ?_
        obtain ⟨d1, ed1⟩ : ∃ v, v = d0.setCells g (j * 9) (bn z).toArray.toList := ⟨_, rfl⟩
        have kd2 : blk d1 g = some (rowC bn (M.set j z) ++ sp).toArray := (by rw [ed1]; exact (blk_setCells (bn z) (j * 9) _ _ kd).trans (congrArg some (setMid_row bn_len M j hk1 z sp)))
        have gr2 : w.grownBy d1 (some g) := (by rw [ed1]; exact grown_cells (bn z) (j * 9) _ hgr3.out)
        have hd2 : Hd d1 := (by rw [ed1]; exact hS.out _ _ _ hd0)
        rw [← ed1]
        clear ed1
        have th2 : d1.there g (k * 9) (bn x).toArray.size := there_of_blk kd2 (by show k * 9 + 9 ≤ _; omega)
        refine hK.out _ _ trivial (fun _ => ?_)
        clear hK K
        (try simp only [Act.put, List.setIfInBounds_toArray, List.set_cons_zero, List.set_cons_succ, List.getElem_toArray, List.getElem_cons_succ, List.getElem_cons_zero])
        refine wpAnyH_take (i := 22) (oi := _) (v := ?_) rfl (by kernel_rfl) (by kernel_rfl) (by kernel_rfl) (fun _ _ _ h => h) (Or.inl ⟨by rfl, ?_⟩) (by assumption) ?_
        rotate_left
        focus (intro W hSw; (try dsimp only at hSw); go_simp; (try with_reducible rfl))
        (try simp only [Act.put, List.setIfInBounds_toArray, List.set_cons_zero, List.set_cons_succ, List.getElem_toArray, List.getElem_cons_succ, List.getElem_cons_zero])
        refine wpAnyH_ready (rs := [23]) (by kernel_rfl) (by simp) ?_
        refine AllReadyH.cons rfl (fun K hK => ?_) AllReadyH.nil
        rw [if_pos (by rfl)]
        refine wp_store_mid 81 (.tmp 37) (.tmp 35) rfl g (k * 9) (bn x).toArray rfl rfl th2 (by kernel_rfl) (by kernel_rfl) ?_
        obtain ⟨d2, ed2⟩ : ∃ v, v = d1.setCells g (k * 9) (bn x).toArray.toList := ⟨_, rfl⟩
        have kd3 : blk d2 g = some (rowC bn ((M.set j z).set k x) ++ sp).toArray := (by rw [ed2]; exact (blk_setCells (bn x) (k * 9) _ _ kd2).trans (congrArg some (setMid_row bn_len (M.set j z) k (by simpa using hk2) x sp)))
        have gr3 : w.grownBy d2 (some g) := (by rw [ed2]; exact grown_cells (bn x) (k * 9) _ gr2)
        have hd3 : Hd d2 := (by rw [ed2]; exact hS.out _ _ _ hd2)
        rw [← ed2]
        clear ed2
        replace kd3 := Lib.hid kd3
        replace gr3 := Lib.hid gr3
        clear kd2 gr2 kd th1 th2 rX rY hd2
        refine hK.out _ _ trivial (fun _ => ?_)
        clear hK K
        (try simp only [Act.put, List.setIfInBounds_toArray, List.set_cons_zero, List.set_cons_succ, List.getElem_toArray, List.getElem_cons_succ, List.getElem_cons_zero])
        refine wpAnyH_done (by kernel_rfl) ?_ _
        go_wp2
        go_roundw
        case rel => exact ⟨X1 ++ [x], X2, Z1 ++ [z], Z2, by rw [HJ.out]; go_num, gr3.out, Lib.hid ⟨by rw [HQ.out.1]; simp, by rw [HQ.out.2.1]; simp, by have := HQ.out.2.2.1; simp; omega, by rw [← HSW.out]; exact kd3.out, hd3⟩⟩
        case measure => have := HI.out; simp [intOf]; omega
set_option maxRecDepth 100000 in
set_option maxHeartbeats 3200000 in
theorem rotB_any (g cap n : Nat) (P A B S : List Bn) (sp : List Value) (cf : Value) (hA : 0 < A.length) (hB : 0 < B.length) (hn : n = (P ++ A ++ B ++ S).length) (hlen : n ≤ 1000000) (hcap : n ≤ cap)
    (Hd : World → Prop) (hS : ∀ W o vs, Hd W → Hd (W.setCells g o vs)) (hD : ∀ W, Hd W → Hd W.drew) (a m b : Nat) (ha : a = P.length) (hm : m = P.length + A.length) (hb : b = P.length + A.length + B.length) (w : World) (h0 : Hd w) (hbk : blk w g = some (rowC bn (P ++ A ++ B ++ S) ++ sp).toArray) :
    Calls Tryd.prog 131 #[.slice (some ⟨g, 0, none⟩) n cap, .int .i64 a, .int .i64 m, .int .i64 b, cf] w fun e w' =>
      e = .returned (.tuple #[]) ∧ w.grownBy w' (some g) ∧ blk w' g = some (rowC bn (P ++ B ++ A ++ S) ++ sp).toArray ∧ Hd w' := by
  have hn2 : n = P.length + A.length + B.length + S.length := by rw [hn]; simp; omega
  have g1 : ∀ (P' X Y Z S' : List Bn) (x y k : Nat) (W : World), X.length = Z.length → n = (P' ++ X ++ Y ++ Z ++ S').length → x = P'.length → y = P'.length + X.length + Y.length → k = X.length → Hd W → blk W g = some (rowC bn (P' ++ X ++ Y ++ Z ++ S') ++ sp).toArray →
      Calls Tryd.prog 140 #[.slice (some ⟨g, 0, none⟩) n cap, .int .i64 x, .int .i64 y, .int .i64 k, cf] W fun e w' => e = .returned (.tuple #[]) ∧ W.grownBy w' (some g) ∧ blk w' g = some (rowC bn (P' ++ Z ++ Y ++ X ++ S') ++ sp).toArray ∧ Hd w' :=
    fun P' X Y Z S' x y k W h1 h2 h3 h4 h5 h6 h7 => swapB_any g cap n P' X Y Z S' sp cf h1 h2 hlen hcap Hd hS hD x y k h3 h4 h5 W h6 h7
  have G1 := Lib.hid g1
  have HBK := Lib.hid hbk; have H0 := Lib.hid h0; have HN := Lib.hid hn2
  have HA := Lib.hid ha; have HM := Lib.hid hm; have HB := Lib.hid hb; have LA := Lib.hid hA; have LB := Lib.hid hB
  have bm : m ≤ 1000000 := by omega
  have bb : b ≤ 1000000 := by omega
  have ba : a ≤ 1000000 := by omega
  obtain ⟨i0, hi0⟩ : ∃ i, i = A.length := ⟨_, rfl⟩
  obtain ⟨j0, hj0⟩ : ∃ i, i = B.length := ⟨_, rfl⟩
  have m1 : IntKind.i64.wrap ((m : Int) - (a : Int)) = i0 := (IntWalk.i64_in _ (by omega)).trans (by omega)
  have m2 : IntKind.i64.wrap ((b : Int) - (m : Int)) = j0 := (IntWalk.i64_in _ (by omega)).trans (by omega)
  have HI0 := Lib.hid hi0; have HJ0 := Lib.hid hj0
  clear hbk h0 hn hn2 ha hm hb hA hB g1 hi0 hj0 hS hD
  go_enter Tryd.func131, Tryd.ntmps131
  go_wp2
  go_loopw [10, 11] (fun vi vj wr => ∃ (P' X Y S' : List Bn) (i j p : Nat), vi = .int .i64 i ∧ vj = .int .i64 j ∧ 0 < i ∧ 0 < j ∧ p + i = m ∧ p + i + j ≤ n ∧ w.grownBy wr (some g) ∧ Hid (i = X.length ∧ j = Y.length ∧ p = P'.length ∧ n = (P' ++ X ++ Y ++ S').length ∧ P' ++ Y ++ X ++ S' = P ++ B ++ A ++ S ∧ blk wr g = some (rowC bn (P' ++ X ++ Y ++ S') ++ sp).toArray ∧ Hd wr)) (fun vi vj _ => (intOf vi).toNat + (intOf vj).toNat)
  case atStart =>
    have h1 := HI0.out; have h2 := HJ0.out; have h3 := HM.out; have h4 := LA.out; have h5 := LB.out; have h6 := HN.out
    exact ⟨P, A, B, S, i0, j0, P.length, rfl, rfl, by omega, by omega, by omega, by omega, igrown_self w g, Lib.hid ⟨h1, h2, rfl, by simp; omega, rfl, HBK.out, H0.out⟩⟩
  case round =>
    clear HBK H0
    obtain ⟨P', X, Y, S', i, j, p, rfl, rfl, hi, hj, hpm, hpn, hgr, HQ⟩ := hrel
    obtain ⟨c1, c2, c3, c4, c5, c6, c7⟩ := HQ.out
    have n3 : IntKind.i64.wrap ((m : Int) - (i : Int)) = p := (IntWalk.i64_in _ (by omega)).trans (by omega)
    rcases Nat.lt_trichotomy i j with h | h | h
    · have t1 : ((i : Int) != (j : Int)) = true := by simp; omega
      have t1' : (i != j) = true := by simp; omega
      have t2 : decide ((j : Int) < (i : Int)) = false := decide_eq_false (by omega)
      have t2' : decide (j < i) = false := decide_eq_false (by omega)
      obtain ⟨y, hy⟩ : ∃ y, y = p + j := ⟨_, rfl⟩
      obtain ⟨d, hd⟩ : ∃ d, d = j - i := ⟨_, rfl⟩
      have n4 : IntKind.i64.wrap ((m : Int) + (j : Int)) = ((m + j : Nat) : Int) := (IntWalk.i64_in _ (by omega)).trans (by omega)
      have n5 : IntKind.i64.wrap (((m + j : Nat) : Int) - (i : Int)) = y := (IntWalk.i64_in _ (by omega)).trans (by omega)
      have n5' : IntKind.i64.wrap ((m : Int) + (j : Int) - (i : Int)) = y := (IntWalk.i64_in _ (by omega)).trans (by omega)
      have n6 : IntKind.i64.wrap ((j : Int) - (i : Int)) = d := (IntWalk.i64_in _ (by omega)).trans (by omega)
      obtain ⟨Y1, Y2, hY, l1, l2⟩ : ∃ Y1 Y2, Y = Y1 ++ Y2 ∧ Y1.length = d ∧ Y2.length = i := ⟨Y.take d, Y.drop d, (List.take_append_drop d Y).symm, by simp; omega, by simp; omega⟩
      have g := G1.out P' X Y1 Y2 S' p y i _ (by omega) (by rw [c4, hY]; simp) c3 (by omega) c1 c7 (by rw [show P' ++ X ++ Y1 ++ Y2 ++ S' = P' ++ X ++ Y ++ S' by rw [hY]; simp]; exact c6)
      replace g := Lib.hid g
      have fin : Hid (d = Y1.length ∧ i = Y2.length ∧ n = (P' ++ Y2 ++ Y1 ++ (X ++ S')).length ∧ P' ++ Y1 ++ Y2 ++ (X ++ S') = P ++ B ++ A ++ S) := Lib.hid ⟨l1.symm, l2.symm, by rw [c4, hY]; simp; omega, by rw [← c5, hY]; simp⟩
      have p1 : 0 < d := by omega
      have p2 : p + i + d ≤ n := by omega
      have p3 : i + d < i + j := by omega
      have C3 := Lib.hid c3
      clear c1 c2 c3 c4 c5 c6 c7 HQ hY l1 l2 hy hd
      go_wp2_with (go_at_call 140; (with_reducible refine (g.out).mono ?_); rintro e w1 ⟨rfl, hg, hb, hd⟩)
      have hgr2 := igrown_trans hgr hg
      go_roundw
      case rel => exact ⟨P', Y2, Y1, X ++ S', i, d, p, rfl, by go_num, hi, p1, hpm, p2, hgr2, Lib.hid ⟨fin.out.2.1, fin.out.1, C3.out, fin.out.2.2.1, fin.out.2.2.2, by rw [← List.append_assoc]; exact hb, hd⟩⟩
      case measure => simp [intOf]; omega
    · subst h
      have t1 : ((i : Int) != (i : Int)) = false := by simp
      have g := G1.out P' X [] Y S' p m i _ (by omega) (by rw [c4]; simp) c3 (by simp; omega) c1 c7 (by rw [List.append_nil]; exact c6)
      replace g := Lib.hid g
      have C5 := Lib.hid c5
      clear c1 c2 c3 c4 c5 c6 c7 HQ
      go_wp2_with (go_at_call 140; (with_reducible refine (g.out).mono ?_); rintro e w1 ⟨rfl, hg, hb, hd⟩)
      have hgr2 := igrown_trans hgr hg
      go_end0
      refine ⟨rfl, hgr2, ?_, hd⟩
      rw [List.append_nil] at hb
      have e5 := C5.out
      simp only [List.append_assoc] at hb e5 ⊢
      rw [← e5]
      exact hb
    · have t1 : ((i : Int) != (j : Int)) = true := by simp; omega
      have t1' : (i != j) = true := by simp; omega
      have t2 : decide ((j : Int) < (i : Int)) = true := decide_eq_true (by omega)
      have t2' : decide (j < i) = true := decide_eq_true (by omega)
      obtain ⟨d, hd⟩ : ∃ d, d = i - j := ⟨_, rfl⟩
      have n6 : IntKind.i64.wrap ((i : Int) - (j : Int)) = d := (IntWalk.i64_in _ (by omega)).trans (by omega)
      obtain ⟨X1, X2, hX, l1, l2⟩ : ∃ X1 X2, X = X1 ++ X2 ∧ X1.length = j ∧ X2.length = d := ⟨X.take j, X.drop j, (List.take_append_drop j X).symm, by simp; omega, by simp; omega⟩
      have g := G1.out P' X1 X2 Y S' p m j _ (by omega) (by rw [c4, hX]; simp) c3 (by omega) l1.symm c7 (by rw [show P' ++ X1 ++ X2 ++ Y ++ S' = P' ++ X ++ Y ++ S' by rw [hX]; simp]; exact c6)
      replace g := Lib.hid g
      have fin : Hid (d = X2.length ∧ j = X1.length ∧ p + j = (P' ++ Y).length ∧ n = (P' ++ Y ++ X2 ++ X1 ++ S').length ∧ P' ++ Y ++ X1 ++ X2 ++ S' = P ++ B ++ A ++ S) := Lib.hid ⟨l2.symm, l1.symm, by simp; omega, by rw [c4, hX]; simp; omega, by rw [← c5, hX]; simp⟩
      have p1 : 0 < d := by omega
      have p2 : p + j + d + j ≤ n := by omega
      have p3 : d + j < i + j := by omega
      have p4 : p + j + d = m := by omega
      clear c1 c2 c3 c4 c5 c6 c7 HQ hX l1 l2 hd
      go_wp2_with (go_at_call 140; (with_reducible refine (g.out).mono ?_); rintro e w1 ⟨rfl, hg, hb, hd⟩)
      have hgr2 := igrown_trans hgr hg
      go_roundw
      case rel => exact ⟨P' ++ Y, X2, X1, S', d, j, p + j, by go_num, rfl, p1, hj, p4, p2, hgr2, Lib.hid ⟨fin.out.1, fin.out.2.1, fin.out.2.2.1, fin.out.2.2.2.1, fin.out.2.2.2.2, hb, hd⟩⟩
      case measure => simp [intOf]; omega
end Go.Proofs.YtahopnlibmiafaaDoor
namespace Go.Proofs.YtahopnlibmiafaaDoor
open Go.RowKit
set_option maxRecDepth 100000 in
set_option maxHeartbeats 16000000 in
theorem symB_left (g cap c n : Nat) (P B S : List Bn) (x : Bn) (sp : List Value) (hn : n = (P ++ [x] ++ B ++ S).length) (hlen : n ≤ 1000000) (hcap : n ≤ cap) (Hd : World → Prop) (lt : Bn → Bn → Bool) (cm : Bn → Bn → Int) (hlt : ∀ x y, lt x y = decide (cm x y < 0)) (hB : ∀ W W', Hd W → Below W.heap.size W W' → Hd W') (hS : ∀ W o vs, Hd W → Hd (W.setCells g o vs)) (hD : ∀ W, Hd W → Hd W.drew)
    (D : Bn → Prop) (hcmp : ∀ x y, D x → D y → ∀ W, Hd W → Calls Tryd.prog 56 #[.agg (bn x).toArray, .agg (bn y).toArray] W fun e w' => e = .returned (.int .i64 (cm x y)) ∧ Below W.heap.size W w')
    (asym : ∀ a b, lt a b = true → lt b a = false) (nn : ∀ a b c, lt a b = false → lt b c = false → lt a c = false) (hx : D x) (hBD : ∀ y ∈ B, D y) (hBs : Srt lt B)
    (a m b : Nat) (ha : a = P.length) (hm : m = a + 1) (hb : b = m + B.length) (w : World) (h0 : Hd w) (hbk : blk w g = some (rowC bn (P ++ [x] ++ B ++ S) ++ sp).toArray) :
    Calls Tryd.prog 115 #[.slice (some ⟨g, 0, none⟩) n cap, .int .i64 a, .int .i64 m, .int .i64 b, .func (.func 56) #[] #[]] w fun e w' =>
      e = .returned (.tuple #[]) ∧ w.grownBy w' (some g) ∧ blk w' g = some (rowC bn (P ++ mrg lt [x] B ++ S) ++ sp).toArray ∧ Hd w' := by
  have hn2 : n = P.length + 1 + B.length + S.length := by rw [hn]; simp; omega
  have HI := Lib.hid hcmp; have HBK := Lib.hid hbk; have H0 := Lib.hid h0
  replace hB := Lib.hid hB; replace hS := Lib.hid hS; replace hlt := Lib.hid hlt; replace hD := Lib.hid hD
  have NN := Lib.hid nn; have AS := Lib.hid asym
  have HXD := Lib.hid hx; have HBD := Lib.hid hBD; have HBS := Lib.hid hBs; have HN := Lib.hid hn2; have HA := Lib.hid ha
  obtain ⟨L, hL⟩ : ∃ L, L = P ++ [x] ++ B ++ S := ⟨_, rfl⟩
  obtain ⟨nb, hnb⟩ : ∃ k, k = B.length := ⟨_, rfl⟩
  have HL := Lib.hid hL; have HNB := Lib.hid hnb
  have bm : b = m + nb := by omega
  have bb : b ≤ n := by omega
  clear hcmp hbk h0 nn asym hx hBD hBs hn hn2 hb hL hnb
  have m1 : IntKind.i64.wrap ((m : Int) - (a : Int)) = 1 := (IntWalk.i64_in _ (by omega)).trans (by omega)
  have HM := Lib.hid hm; have BM := Lib.hid bm
  have ba : a ≤ 1000000 := by omega
  have bmm : m ≤ b := by omega
  have b0 : 0 < m := by omega
  clear hm bm ha
  go_enter Tryd.func115, Tryd.ntmps115
  go_upto_region 3 with fail
  go_loopw [10, 11] (fun vi vj wr => ∃ i j : Nat, vi = .int .i64 i ∧ vj = .int .i64 j ∧ m ≤ i ∧ i ≤ j ∧ j ≤ b ∧ w.grownBy wr (some g) ∧ Hid ((∀ t (h : t < B.length), t < i - m → lt B[t] x = true) ∧ (∀ t (h : t < B.length), j - m ≤ t → lt B[t] x = false) ∧ blk wr g = some (rowC bn L ++ sp).toArray ∧ Hd wr)) (fun vi vj _ => (intOf vj).toNat - (intOf vi).toNat)
  case atStart => exact ⟨m, b, rfl, rfl, Nat.le_refl _, bmm, Nat.le_refl _, igrown_self w g, Lib.hid ⟨fun t h h' => by omega, fun t h h' => by have := HNB.out; have := BM.out; omega, by rw [HL.out]; exact HBK.out, H0.out⟩⟩
  case round =>
    clear HBK H0
    obtain ⟨i, j, rfl, rfl, hmi, hij, hjb, hgr, HQ⟩ := hrel
    by_cases hlt' : i < j
    · have t1 : decide ((i : Int) < (j : Int)) = true := decide_eq_true (by omega)
      have t1' : decide (i < j) = true := decide_eq_true (by omega)
      obtain ⟨h, hh⟩ : ∃ h, h = (i + j) / 2 := ⟨_, rfl⟩
      have u1 : ((i : Int) + (j : Int)) / 2 = (h : Int) := by omega
      have u2 : (i + j) / 2 = h := hh.symm
      have hhi : i ≤ h := by omega
      have hhj : h < j := by omega
      have hq : h - m < B.length := by have := HNB.out; have := BM.out; omega
      obtain ⟨y, hy⟩ : ∃ y, y = B[h - m] := ⟨_, rfl⟩
      have lP := HA.out
      have hLy : L[h]? = some y := by
        rw [HL.out, hy, List.append_assoc, List.append_assoc, List.getElem?_append_right (by have := HM.out; omega), List.getElem?_append_right (by have := HM.out; simp; omega), List.getElem?_append_left (by have := HM.out; simp; omega)]
        rw [List.getElem?_eq_getElem (by have := HM.out; simp; omega)]
        congr 2
        have := HM.out; simp; omega
      have hLx : L[a]? = some x := by
        rw [HL.out, List.append_assoc, List.append_assoc, List.getElem?_append_right (by omega), lP, Nat.sub_self]; rfl
      have l1 : (h : Int) < (n : Int) := by omega
      have l2 : (a : Int) < (n : Int) := by have := HM.out; omega
      obtain ⟨d, hc⟩ : ∃ d, cm y x = d := ⟨_, rfl⟩
      have gc : ∀ W, Hd W → Calls Tryd.prog 56 #[.agg (bn y).toArray, .agg (bn x).toArray] W fun e w' => e = .returned (.int .i64 d) ∧ Below W.heap.size W w' := fun W h => by rw [← hc]; exact HI.out y x (HBD.out y (by rw [hy]; exact List.getElem_mem _)) HXD.out W h
      replace gc := Lib.hid gc
      have hbM := HQ.out.2.2.1
      have hd := HQ.out.2.2.2
      have hcl : lt y x = decide (d < 0) := by rw [hlt.out, hc]
      have HC := Lib.hid hcl; have HH := Lib.hid hh; have HQL := Lib.hid hq
      have YE : Hid (y = B[h - m]'(HQL.out)) := Lib.hid hy
      clear hcl hc hy hh lP
      by_cases hc0 : d < 0
      · have tc : decide (d < 0) = true := decide_eq_true hc0
        clear hq
        go_wp2_with fail
        refine wp_region_in (by kernel_rfl) (by kernel_rfl) ?_
        intro W0 hE hN
        have q1 : blk W0 g = some (rowC bn L ++ sp).toArray := (by rw [hE.out]; exact hbM)
        have q2 : w.grownBy W0 (some g) := (by rw [hE.out]; exact hgr)
        have q3 : Hd W0 := (by rw [hE.out]; exact hd)
        clear hE
        have r0 := range_row bn_len q1 hLy
        have r1 := range_row bn_len q1 hLx
        have gl := blk_lt q1
        have gC : ∀ X : Class (Calm W0), _ := fun X => gc.out X.wd (hB.out _ _ q3 X.ok)
        have GC := Lib.hid gC
        clear gC
        refine wpQuiet_split 4 ?_
        simp only [List.take_succ_cons, List.take_zero, List.drop_succ_cons, List.drop_zero]
        repeat (go_big_quiet_step (fail))
        refine wpQuiet_nil ?_
        refine wpQuiet_load_range 81 (.tmp 43) g (h * 9) (bn y) (fun W hW => by obtain ⟨x', rfl⟩ := hW; exact range_below gl r0 x'.ok) _ (by kernel_rfl) rfl (by kernel_rfl) Tryd.underlying81 rfl (by kernel_rfl) ?_
        conv => arg 6; simp [Act.put]
        refine wpQuiet_split 3 ?_
        simp only [List.take_succ_cons, List.take_zero, List.drop_succ_cons, List.drop_zero]
        repeat (go_big_quiet_step (fail))
        refine wpQuiet_nil ?_
        refine wpQuiet_load_range 81 (.tmp 47) g (a * 9) (bn x) (fun W hW => by obtain ⟨x', rfl⟩ := hW; exact range_below gl r1 x'.ok) _ (by kernel_rfl) rfl (by kernel_rfl) Tryd.underlying81 rfl (by kernel_rfl) ?_
        conv => arg 6; simp [Act.put]
        repeat (go_big_quiet_step ((go_at_call 56; (with_reducible refine Class.go _ (GC.out _)))))
        refine wpQuiet_nil ?_
        rintro _ ⟨x', rfl⟩
        have hbM2 := blk_below x'.ok q1
        have hgr2 := igrown_below q2 x'.ok
        have hd2 := hB.out _ _ q3 x'.ok
        obtain ⟨u, hu⟩ : ∃ u, u = x'.wd := ⟨_, rfl⟩
        rw [← hu] at hbM2 hgr2 hd2 ⊢
        clear hu x' r0 r1 gl q1 q2 q3 hN GC hbM hgr hd
        go_wp2
        go_roundw
        case rel =>
          refine ⟨h + 1, j, by go_num, rfl, by omega, by omega, hjb, hgr2, Lib.hid ⟨fun t ht h' => ?_, HQ.out.2.1, hbM2, hd2⟩⟩
          have c1 := srt_at AS.out HBS.out (i := t) (j := h - m) (by omega) HQL.out
          cases e : lt B[t] x with
          | true => rfl
          | false =>
            have := NN.out _ _ _ c1 e
            rw [← YE.out, HC.out, tc] at this
            exact this.symm
        case measure => simp [intOf]; omega
      · have tc : decide (d < 0) = false := decide_eq_false hc0
        clear hq
        go_wp2_with fail
        refine wp_region_in (by kernel_rfl) (by kernel_rfl) ?_
        intro W0 hE hN
        have q1 : blk W0 g = some (rowC bn L ++ sp).toArray := (by rw [hE.out]; exact hbM)
        have q2 : w.grownBy W0 (some g) := (by rw [hE.out]; exact hgr)
        have q3 : Hd W0 := (by rw [hE.out]; exact hd)
        clear hE
        have r0 := range_row bn_len q1 hLy
        have r1 := range_row bn_len q1 hLx
        have gl := blk_lt q1
        have gC : ∀ X : Class (Calm W0), _ := fun X => gc.out X.wd (hB.out _ _ q3 X.ok)
        have GC := Lib.hid gC
        clear gC
        refine wpQuiet_split 4 ?_
        simp only [List.take_succ_cons, List.take_zero, List.drop_succ_cons, List.drop_zero]
        repeat (go_big_quiet_step (fail))
        refine wpQuiet_nil ?_
        refine wpQuiet_load_range 81 (.tmp 43) g (h * 9) (bn y) (fun W hW => by obtain ⟨x', rfl⟩ := hW; exact range_below gl r0 x'.ok) _ (by kernel_rfl) rfl (by kernel_rfl) Tryd.underlying81 rfl (by kernel_rfl) ?_
        conv => arg 6; simp [Act.put]
        refine wpQuiet_split 3 ?_
        simp only [List.take_succ_cons, List.take_zero, List.drop_succ_cons, List.drop_zero]
        repeat (go_big_quiet_step (fail))
        refine wpQuiet_nil ?_
        refine wpQuiet_load_range 81 (.tmp 47) g (a * 9) (bn x) (fun W hW => by obtain ⟨x', rfl⟩ := hW; exact range_below gl r1 x'.ok) _ (by kernel_rfl) rfl (by kernel_rfl) Tryd.underlying81 rfl (by kernel_rfl) ?_
        conv => arg 6; simp [Act.put]
        repeat (go_big_quiet_step ((go_at_call 56; (with_reducible refine Class.go _ (GC.out _)))))
        refine wpQuiet_nil ?_
        rintro _ ⟨x', rfl⟩
        have hbM2 := blk_below x'.ok q1
        have hgr2 := igrown_below q2 x'.ok
        have hd2 := hB.out _ _ q3 x'.ok
        obtain ⟨u, hu⟩ : ∃ u, u = x'.wd := ⟨_, rfl⟩
        rw [← hu] at hbM2 hgr2 hd2 ⊢
        clear hu x' r0 r1 gl q1 q2 q3 hN GC hbM hgr hd
        go_wp2
        go_roundw
        case rel =>
          refine ⟨i, h, rfl, rfl, by omega, by omega, by omega, hgr2, Lib.hid ⟨HQ.out.1, fun t ht h' => ?_, hbM2, hd2⟩⟩
          have c1 := srt_at AS.out HBS.out (i := h - m) (j := t) h' ht
          refine NN.out _ _ _ c1 ?_
          rw [← YE.out, HC.out, tc]
        case measure => simp [intOf]; omega
    · have hij' : i = j := by omega
      subst hij'
      have t1 : decide ((i : Int) < (i : Int)) = false := decide_eq_false (by omega)
      obtain ⟨e, he⟩ : ∃ e, i = e + 1 := ⟨i - 1, by omega⟩
      have u1 : IntKind.i64.wrap ((i : Int) - 1) = e := (IntWalk.i64_in _ (by omega)).trans (by omega)
      have u1' : (i : Int) - 1 = e := by omega
      have hae : a ≤ e := by have := HM.out; omega
      have hei : e ≤ 1000000 := by omega
      have HE := Lib.hid he
      clear he
      go_wp2
      go_loopw [13] (fun vk wr => ∃ (k : Nat) (B1 B2 : List Bn), vk = .int .i64 k ∧ a ≤ k ∧ k ≤ e ∧ w.grownBy wr (some g) ∧ Hid (k = a + B1.length ∧ B = B1 ++ B2 ∧ blk wr g = some (rowC bn (P ++ B1 ++ x :: B2 ++ S) ++ sp).toArray ∧ Hd wr)) (fun vk _ => e - (intOf vk).toNat)
      case atStart => exact ⟨a, [], B, rfl, Nat.le_refl _, hae, hgr, Lib.hid ⟨rfl, rfl, by have := HQ.out.2.2.1; rw [HL.out] at this; simpa using this, HQ.out.2.2.2⟩⟩
      case round =>
        clear hgr
        obtain ⟨k, B1, B2, rfl, hak, hke, hgr, HR⟩ := hrel
        by_cases hke' : k < e
        · have t2 : decide ((k : Int) < (e : Int)) = true := decide_eq_true (by omega)
          have t2' : decide (k < e) = true := decide_eq_true (by omega)
          cases B2 with
          | nil =>
            exfalso
            have h1 := HR.out.2.1; have h2 := HR.out.1; have h3 := HNB.out; have h4 := BM.out; have h5 := HM.out; have h6 := HE.out
            rw [h1] at h3; simp at h3; omega
          | cons z B2 =>
            obtain ⟨M, hMd⟩ : ∃ M, M = (P ++ B1) ++ x :: [] ++ z :: (B2 ++ S) := ⟨_, rfl⟩
            obtain ⟨k2, hk2⟩ : ∃ k2, k2 = k + 1 := ⟨_, rfl⟩
            have eM : P ++ B1 ++ x :: (z :: B2) ++ S = M := by rw [hMd]; simp
            have hkU : (P ++ B1).length = k := by have := HR.out.1; have := HA.out; simp; omega
            have hkU2 : (P ++ B1).length + 1 + ([] : List Bn).length = k2 := by rw [hkU, hk2]; rfl
            have hM1 : M[k]? = some x := by rw [hMd, ← hkU]; exact sw_x _ _ _ _ _
            have hM2 : M[k2]? = some z := by rw [hMd, ← hkU2]; exact sw_z _ _ _ _ _
            have hM12 : (M.set k z)[k2]? = some z := by rw [List.getElem?_set_ne (by omega)]; exact hM2
            have hsw : (M.set k z).set k2 x = P ++ (B1 ++ [z]) ++ x :: B2 ++ S := by rw [hMd, ← hkU2, ← hkU, sw_set]; simp
            have hbM : blk wr g = some (rowC bn M ++ sp).toArray := by rw [← eM]; exact HR.out.2.2.1
            have hdr := HR.out.2.2.2
            have lM : M.length = n := by have h1 := HR.out.2.1; have h2 := HN.out; rw [← eM]; rw [h1] at h2; simp at h2 ⊢; omega
            have l1 : (k : Int) < (n : Int) := by have := (List.getElem?_eq_some_iff.1 hM1).1; omega
            have l2 : (k2 : Int) < (n : Int) := by have := (List.getElem?_eq_some_iff.1 hM2).1; omega
            have u3 : IntKind.i64.wrap ((k : Int) + 1) = k2 := (IntWalk.i64_in _ (by omega)).trans (by omega)
            have HSW := Lib.hid hsw; have HK2 := Lib.hid hk2; have HKE := Lib.hid hke'
            clear hMd eM hkU hkU2 hsw lM hk2 hke'
            go_wp2_with fail
            refine wp_region_held_drew (S := fun _ => True) (by kernel_rfl) trivial (fun _ => ?_)
            obtain ⟨d0, ed0⟩ : ∃ v, v = wr.drew := ⟨_, rfl⟩
            have kd : blk d0 g = some (rowC bn M ++ sp).toArray := (by rw [ed0]; exact blk_drew hbM)
            have hgr3 : Hid (w.grownBy d0 (some g)) := Lib.hid (by rw [ed0]; exact igrown_drew hgr)
            have hd0 : Hd d0 := (by rw [ed0]; exact hD.out _ hdr)
            rw [← ed0]
            clear ed0 hgr hbM hdr
            have rX := range_row bn_len kd hM1
            have rY := range_row bn_len kd hM2
            have hk1 : k < M.length := (List.getElem?_eq_some_iff.1 hM1).1
            have hk2 : k2 < M.length := (List.getElem?_eq_some_iff.1 hM2).1
            have hsz : M.length * 9 ≤ ((rowC bn M ++ sp).toArray).size := by simp [rowC_length bn_len]
            have th1 : d0.there g (k * 9) (bn z).toArray.size := there_of_blk kd (by show k * 9 + 9 ≤ _; omega)
            have hsz2 : M.length * 9 ≤ ((rowC bn (M.set k z) ++ sp).toArray).size := by simp [rowC_length bn_len]
            clear hM1 hM2 hM12
            have hTr : True := trivial
            refine wpAnyH_take (i := 0) (oi := _) (v := ?_) rfl (by kernel_rfl) (by kernel_rfl) (by kernel_rfl) (fun _ _ _ h => h) (Or.inl ⟨by rfl, ?_⟩) (by assumption) ?_
            rotate_left
            focus (intro W hSw; (try dsimp only at hSw); go_simp; (try with_reducible rfl))
            (try simp only [Act.put, List.setIfInBounds_toArray, List.set_cons_zero, List.set_cons_succ, List.getElem_toArray, List.getElem_cons_succ, List.getElem_cons_zero])
            refine wpAnyH_take (i := 1) (oi := _) (v := ?_) rfl (by kernel_rfl) (by kernel_rfl) (by kernel_rfl) (fun _ _ _ h => h) (Or.inl ⟨by rfl, ?_⟩) (by assumption) ?_
            rotate_left
            focus (intro W hSw; (try dsimp only at hSw); go_simp; (try with_reducible rfl))
            (try simp only [Act.put, List.setIfInBounds_toArray, List.set_cons_zero, List.set_cons_succ, List.getElem_toArray, List.getElem_cons_succ, List.getElem_cons_zero])
            refine wpAnyH_take (i := 2) (oi := _) (v := ?_) rfl (by kernel_rfl) (by kernel_rfl) (by kernel_rfl) (fun _ _ _ h => h) (Or.inl ⟨by rfl, ?_⟩) (by assumption) ?_
            rotate_left
            focus (intro W hSw; (try dsimp only at hSw); go_simp; (try with_reducible rfl))
            (try simp only [Act.put, List.setIfInBounds_toArray, List.set_cons_zero, List.set_cons_succ, List.getElem_toArray, List.getElem_cons_succ, List.getElem_cons_zero])
            refine wpAnyH_take (i := 3) (oi := _) (v := ?_) rfl (by kernel_rfl) (by kernel_rfl) (by kernel_rfl) (fun _ _ _ h => h) (Or.inl ⟨by rfl, ?_⟩) (by assumption) ?_
            rotate_left
            focus (intro W hSw; (try dsimp only at hSw); go_simp; (try with_reducible rfl))
            (try simp only [Act.put, List.setIfInBounds_toArray, List.set_cons_zero, List.set_cons_succ, List.getElem_toArray, List.getElem_cons_succ, List.getElem_cons_zero])
            refine wpAnyH_take (i := 4) (oi := _) (v := ?_) rfl (by kernel_rfl) (by kernel_rfl) (by kernel_rfl) (fun _ _ _ h => h) (Or.inl ⟨by rfl, ?_⟩) (by assumption) ?_
            rotate_left
            focus (intro W hSw; (try dsimp only at hSw); go_simp; (try with_reducible rfl))
            (try simp only [Act.put, List.setIfInBounds_toArray, List.set_cons_zero, List.set_cons_succ, List.getElem_toArray, List.getElem_cons_succ, List.getElem_cons_zero])
            refine wpAnyH_take (i := 5) (oi := _) (v := ?_) rfl (by kernel_rfl) (by kernel_rfl) (by kernel_rfl) (fun _ _ _ h => h) (Or.inl ⟨by rfl, ?_⟩) (by assumption) ?_
            rotate_left
            focus (intro W hSw; (try dsimp only at hSw); go_simp; (try with_reducible rfl))
            (try simp only [Act.put, List.setIfInBounds_toArray, List.set_cons_zero, List.set_cons_succ, List.getElem_toArray, List.getElem_cons_succ, List.getElem_cons_zero])
            refine wpAnyH_take (i := 6) (oi := _) (v := ?_) rfl (by kernel_rfl) (by kernel_rfl) (by kernel_rfl) (fun _ _ _ h => h) (Or.inl ⟨by rfl, ?_⟩) (by assumption) ?_
            rotate_left
            focus (intro W hSw; (try dsimp only at hSw); go_simp; (try with_reducible rfl))
            (try simp only [Act.put, List.setIfInBounds_toArray, List.set_cons_zero, List.set_cons_succ, List.getElem_toArray, List.getElem_cons_succ, List.getElem_cons_zero])
            refine wpAnyH_take (i := 7) (oi := _) (v := ?_) rfl (by kernel_rfl) (by kernel_rfl) (by kernel_rfl) (fun _ _ _ h => h) (Or.inl ⟨by rfl, ?_⟩) (by assumption) ?_
            rotate_left
            focus (intro W hSw; (try dsimp only at hSw); go_simp; (try with_reducible rfl))
            (try simp only [Act.put, List.setIfInBounds_toArray, List.set_cons_zero, List.set_cons_succ, List.getElem_toArray, List.getElem_cons_succ, List.getElem_cons_zero])
            refine wpAnyH_take (i := 8) (oi := _) (v := ?_) rfl (by kernel_rfl) (by kernel_rfl) (by kernel_rfl) (fun _ _ _ h => h) (Or.inl ⟨by rfl, ?_⟩) (by assumption) ?_
            rotate_left
            focus (intro W hSw; (try dsimp only at hSw); go_simp; (try with_reducible rfl))
            (try simp only [Act.put, List.setIfInBounds_toArray, List.set_cons_zero, List.set_cons_succ, List.getElem_toArray, List.getElem_cons_succ, List.getElem_cons_zero])
            refine wpAnyH_take (i := 10) (oi := _) (v := ?_) rfl (by kernel_rfl) (by kernel_rfl) (by kernel_rfl) (fun _ _ _ h => h) (Or.inl ⟨by rfl, ?_⟩) (by assumption) ?_
            rotate_left
            focus (intro W hSw; (try dsimp only at hSw); go_simp; (try with_reducible rfl))
            (try simp only [Act.put, List.setIfInBounds_toArray, List.set_cons_zero, List.set_cons_succ, List.getElem_toArray, List.getElem_cons_succ, List.getElem_cons_zero])
            refine wpAnyH_take (i := 11) (oi := _) (v := ?_) rfl (by kernel_rfl) (by kernel_rfl) (by kernel_rfl) (fun _ _ _ h => h) (Or.inl ⟨by rfl, ?_⟩) (by assumption) ?_
            rotate_left
            focus (intro W hSw; (try dsimp only at hSw); go_simp; (try with_reducible rfl))
            (try simp only [Act.put, List.setIfInBounds_toArray, List.set_cons_zero, List.set_cons_succ, List.getElem_toArray, List.getElem_cons_succ, List.getElem_cons_zero])
            refine wpAnyH_take (i := 12) (oi := _) (v := ?_) rfl (by kernel_rfl) (by kernel_rfl) (by kernel_rfl) (fun _ _ _ h => h) (Or.inl ⟨by rfl, ?_⟩) (by assumption) ?_
            rotate_left
            focus (intro W hSw; (try dsimp only at hSw); go_simp; (try with_reducible rfl))
            (try simp only [Act.put, List.setIfInBounds_toArray, List.set_cons_zero, List.set_cons_succ, List.getElem_toArray, List.getElem_cons_succ, List.getElem_cons_zero])
            refine wpAnyH_ready (rs := [9, 13]) (by kernel_rfl) (by simp) ?_
            refine AllReadyH.cons rfl (fun K hK => ?_) ?_
            · skip
              rw [if_pos (by rfl)]
              refine wp_load_mid 81 (.tmp 69) rfl g (k2 * 9) rfl (bn z) _ rY Tryd.underlying81 rfl (by kernel_rfl) ?_
              refine hK.out _ _ trivial (fun _ => ?_)
              clear hK K
              (try simp only [Act.put, List.setIfInBounds_toArray, List.set_cons_zero, List.set_cons_succ, List.getElem_toArray, List.getElem_cons_succ, List.getElem_cons_zero])
              refine wpAnyH_ready (rs := [13]) (by kernel_rfl) (by simp) ?_
              refine AllReadyH.cons rfl (fun K hK => ?_) AllReadyH.nil
              rw [if_pos (by rfl)]
              refine wp_load_mid 81 (.tmp 73) rfl g (k * 9) rfl (bn x) _ rX Tryd.underlying81 rfl (by kernel_rfl) ?_
              refine hK.out _ _ trivial (fun _ => ?_)
              clear hK K
              (try simp only [Act.put, List.setIfInBounds_toArray, List.set_cons_zero, List.set_cons_succ, List.getElem_toArray, List.getElem_cons_succ, List.getElem_cons_zero])
              refine wpAnyH_take (i := 14) (oi := _) (v := ?_) rfl (by kernel_rfl) (by kernel_rfl) (by kernel_rfl) (fun _ _ _ h => h) (Or.inl ⟨by rfl, ?_⟩) (by assumption) ?_
              rotate_left
              focus (intro W hSw; (try dsimp only at hSw); go_simp; (try with_reducible rfl))
              (try simp only [Act.put, List.setIfInBounds_toArray, List.set_cons_zero, List.set_cons_succ, List.getElem_toArray, List.getElem_cons_succ, List.getElem_cons_zero])
              refine wpAnyH_ready (rs := [15]) (by kernel_rfl) (by simp) ?_
              refine AllReadyH.cons rfl (fun K hK => ?_) AllReadyH.nil
              rw [if_pos (by rfl)]
              refine wp_store_mid 81 (.tmp 75) (.tmp 70) rfl g (k * 9) (bn z).toArray rfl rfl th1 (by kernel_rfl) (by kernel_rfl) ?_
              obtain ⟨d1, ed1⟩ : ∃ v, v = d0.setCells g (k * 9) (bn z).toArray.toList := ⟨_, rfl⟩
              have kd2 : blk d1 g = some (rowC bn (M.set k z) ++ sp).toArray := (by rw [ed1]; exact (blk_setCells (bn z) (k * 9) _ _ kd).trans (congrArg some (setMid_row bn_len M k hk1 z sp)))
              have gr2 : w.grownBy d1 (some g) := (by rw [ed1]; exact grown_cells (bn z) (k * 9) _ hgr3.out)
              have hd2 : Hd d1 := (by rw [ed1]; exact hS.out _ _ _ hd0)
              rw [← ed1]
              clear ed1
              have th2 : d1.there g (k2 * 9) (bn x).toArray.size := there_of_blk kd2 (by show k2 * 9 + 9 ≤ _; omega)
              refine hK.out _ _ trivial (fun _ => ?_)
              clear hK K
              (try simp only [Act.put, List.setIfInBounds_toArray, List.set_cons_zero, List.set_cons_succ, List.getElem_toArray, List.getElem_cons_succ, List.getElem_cons_zero])
              refine wpAnyH_take (i := 16) (oi := _) (v := ?_) rfl (by kernel_rfl) (by kernel_rfl) (by kernel_rfl) (fun _ _ _ h => h) (Or.inl ⟨by rfl, ?_⟩) (by assumption) ?_
              rotate_left
              focus (intro W hSw; (try dsimp only at hSw); go_simp; (try with_reducible rfl))
              (try simp only [Act.put, List.setIfInBounds_toArray, List.set_cons_zero, List.set_cons_succ, List.getElem_toArray, List.getElem_cons_succ, List.getElem_cons_zero])
              refine wpAnyH_ready (rs := [17]) (by kernel_rfl) (by simp) ?_
              refine AllReadyH.cons rfl (fun K hK => ?_) AllReadyH.nil
              rw [if_pos (by rfl)]
              refine wp_store_mid 81 (.tmp 76) (.tmp 74) rfl g (k2 * 9) (bn x).toArray rfl rfl th2 (by kernel_rfl) (by kernel_rfl) ?_
              obtain ⟨d2, ed2⟩ : ∃ v, v = d1.setCells g (k2 * 9) (bn x).toArray.toList := ⟨_, rfl⟩
              have kd3 : blk d2 g = some (rowC bn ((M.set k z).set k2 x) ++ sp).toArray := (by rw [ed2]; exact (blk_setCells (bn x) (k2 * 9) _ _ kd2).trans (congrArg some (setMid_row bn_len (M.set k z) k2 (by simpa using hk2) x sp)))
              have gr3 : w.grownBy d2 (some g) := (by rw [ed2]; exact grown_cells (bn x) (k2 * 9) _ gr2)
              have hd3 : Hd d2 := (by rw [ed2]; exact hS.out _ _ _ hd2)
              rw [← ed2]
              clear ed2
              replace kd3 := Lib.hid kd3
              replace gr3 := Lib.hid gr3
              clear kd2 gr2 kd th1 th2 rX rY hd2
              refine hK.out _ _ trivial (fun _ => ?_)
              clear hK K
              (try simp only [Act.put, List.setIfInBounds_toArray, List.set_cons_zero, List.set_cons_succ, List.getElem_toArray, List.getElem_cons_succ, List.getElem_cons_zero])
              refine wpAnyH_done (by kernel_rfl) ?_ _
              go_wp2
              go_roundw
              case rel => exact ⟨k2, B1 ++ [z], B2, by go_num, by have := HK2.out; omega, by have := HK2.out; have := HKE.out; omega, gr3.out, Lib.hid ⟨by rw [List.length_append, HK2.out, HR.out.1]; rfl, by rw [HR.out.2.1]; simp, by rw [← HSW.out]; exact kd3.out, hd3⟩⟩
              case measure => have := HK2.out; have := HKE.out; simp [intOf]; omega
            refine AllReadyH.cons rfl (fun K hK => ?_) AllReadyH.nil
            rw [if_pos (by rfl)]
            refine wp_load_mid 81 (.tmp 73) rfl g (k * 9) rfl (bn x) _ rX Tryd.underlying81 rfl (by kernel_rfl) ?_
            refine hK.out _ _ trivial (fun _ => ?_)
            clear hK K
            (try simp only [Act.put, List.setIfInBounds_toArray, List.set_cons_zero, List.set_cons_succ, List.getElem_toArray, List.getElem_cons_succ, List.getElem_cons_zero])
            refine wpAnyH_ready (rs := [9]) (by kernel_rfl) (by simp) ?_
            refine AllReadyH.cons rfl (fun K hK => ?_) AllReadyH.nil
            rw [if_pos (by rfl)]
            refine wp_load_mid 81 (.tmp 69) rfl g (k2 * 9) rfl (bn z) _ rY Tryd.underlying81 rfl (by kernel_rfl) ?_
            refine hK.out _ _ trivial (fun _ => ?_)
            clear hK K
            (try simp only [Act.put, List.setIfInBounds_toArray, List.set_cons_zero, List.set_cons_succ, List.getElem_toArray, List.getElem_cons_succ, List.getElem_cons_zero])
            refine wpAnyH_take (i := 14) (oi := _) (v := ?_) rfl (by kernel_rfl) (by kernel_rfl) (by kernel_rfl) (fun _ _ _ h => h) (Or.inl ⟨by rfl, ?_⟩) (by assumption) ?_
            rotate_left
            focus (intro W hSw; (try dsimp only at hSw); go_simp; (try with_reducible rfl))
            (try simp only [Act.put, List.setIfInBounds_toArray, List.set_cons_zero, List.set_cons_succ, List.getElem_toArray, List.getElem_cons_succ, List.getElem_cons_zero])
            refine wpAnyH_ready (rs := [15]) (by kernel_rfl) (by simp) ?_
            refine AllReadyH.cons rfl (fun K hK => ?_) AllReadyH.nil
            rw [if_pos (by rfl)]
            refine wp_store_mid 81 (.tmp 75) (.tmp 70) rfl g (k * 9) (bn z).toArray rfl rfl th1 (by kernel_rfl) (by kernel_rfl) ?_
            obtain ⟨d1, ed1⟩ : ∃ v, v = d0.setCells g (k * 9) (bn z).toArray.toList := ⟨_, rfl⟩
            have kd2 : blk d1 g = some (rowC bn (M.set k z) ++ sp).toArray := (by rw [ed1]; exact (blk_setCells (bn z) (k * 9) _ _ kd).trans (congrArg some (setMid_row bn_len M k hk1 z sp)))
            have gr2 : w.grownBy d1 (some g) := (by rw [ed1]; exact grown_cells (bn z) (k * 9) _ hgr3.out)
            have hd2 : Hd d1 := (by rw [ed1]; exact hS.out _ _ _ hd0)
            rw [← ed1]
            clear ed1
            have th2 : d1.there g (k2 * 9) (bn x).toArray.size := there_of_blk kd2 (by show k2 * 9 + 9 ≤ _; omega)
            refine hK.out _ _ trivial (fun _ => ?_)
            clear hK K
            (try simp only [Act.put, List.setIfInBounds_toArray, List.set_cons_zero, List.set_cons_succ, List.getElem_toArray, List.getElem_cons_succ, List.getElem_cons_zero])
            refine wpAnyH_take (i := 16) (oi := _) (v := ?_) rfl (by kernel_rfl) (by kernel_rfl) (by kernel_rfl) (fun _ _ _ h => h) (Or.inl ⟨by rfl, ?_⟩) (by assumption) ?_
            rotate_left
            focus (intro W hSw; (try dsimp only at hSw); go_simp; (try with_reducible rfl))
            (try simp only [Act.put, List.setIfInBounds_toArray, List.set_cons_zero, List.set_cons_succ, List.getElem_toArray, List.getElem_cons_succ, List.getElem_cons_zero])
            refine wpAnyH_ready (rs := [17]) (by kernel_rfl) (by simp) ?_
            refine AllReadyH.cons rfl (fun K hK => ?_) AllReadyH.nil
            rw [if_pos (by rfl)]
            refine wp_store_mid 81 (.tmp 76) (.tmp 74) rfl g (k2 * 9) (bn x).toArray rfl rfl th2 (by kernel_rfl) (by kernel_rfl) ?_
            obtain ⟨d2, ed2⟩ : ∃ v, v = d1.setCells g (k2 * 9) (bn x).toArray.toList := ⟨_, rfl⟩
            have kd3 : blk d2 g = some (rowC bn ((M.set k z).set k2 x) ++ sp).toArray := (by rw [ed2]; exact (blk_setCells (bn x) (k2 * 9) _ _ kd2).trans (congrArg some (setMid_row bn_len (M.set k z) k2 (by simpa using hk2) x sp)))
            have gr3 : w.grownBy d2 (some g) := (by rw [ed2]; exact grown_cells (bn x) (k2 * 9) _ gr2)
            have hd3 : Hd d2 := (by rw [ed2]; exact hS.out _ _ _ hd2)
            rw [← ed2]
            clear ed2
            replace kd3 := Lib.hid kd3
            replace gr3 := Lib.hid gr3
            clear kd2 gr2 kd th1 th2 rX rY hd2
            refine hK.out _ _ trivial (fun _ => ?_)
            clear hK K
            (try simp only [Act.put, List.setIfInBounds_toArray, List.set_cons_zero, List.set_cons_succ, List.getElem_toArray, List.getElem_cons_succ, List.getElem_cons_zero])
            refine wpAnyH_done (by kernel_rfl) ?_ _
            go_wp2
            go_roundw
            case rel => exact ⟨k2, B1 ++ [z], B2, by go_num, by have := HK2.out; omega, by have := HK2.out; have := HKE.out; omega, gr3.out, Lib.hid ⟨by rw [List.length_append, HK2.out, HR.out.1]; rfl, by rw [HR.out.2.1]; simp, by rw [← HSW.out]; exact kd3.out, hd3⟩⟩
            case measure => have := HK2.out; have := HKE.out; simp [intOf]; omega
        · obtain rfl : k = e := by omega
          have t2 : decide ((k : Int) < (k : Int)) = false := decide_eq_false (by omega)
          go_wp2
          (try simp only [Exit.inBlock, Exit.then])
          refine bodyPost_ret (results_none rfl _ _ _) rfl ?_
          refine ⟨rfl, hgr, ?_, HR.out.2.2.2⟩
          have e1 : mrg lt [x] B = B1 ++ x :: B2 := by
            have h1 := HR.out.1; have h2 := HM.out; have h4 := HE.out
            rw [HR.out.2.1]
            refine mrg_one_left (fun y hy => ?_) (fun y hy => ?_)
            · obtain ⟨t, ht, rfl⟩ := List.getElem_of_mem hy
              have := HQ.out.1 t (by rw [HR.out.2.1]; simp; omega) (by omega)
              simp only [HR.out.2.1] at this
              rwa [List.getElem_append_left ht] at this
            · obtain ⟨t, ht, rfl⟩ := List.getElem_of_mem hy
              have := HQ.out.2.1 (B1.length + t) (by rw [HR.out.2.1]; simp; omega) (by omega)
              simp only [HR.out.2.1] at this
              rw [List.getElem_append_right (by omega)] at this
              simpa using this
          have h3 := HR.out.2.2.1
          rw [e1]
          simp only [List.append_assoc] at h3 ⊢
          exact h3
set_option maxRecDepth 100000 in
set_option maxHeartbeats 16000000 in
theorem symB_right (g cap c n : Nat) (P A S : List Bn) (y : Bn) (sp : List Value) (hn : n = (P ++ A ++ [y] ++ S).length) (hlen : n ≤ 1000000) (hcap : n ≤ cap) (Hd : World → Prop) (lt : Bn → Bn → Bool) (cm : Bn → Bn → Int) (hlt : ∀ x y, lt x y = decide (cm x y < 0)) (hB : ∀ W W', Hd W → Below W.heap.size W W' → Hd W') (hS : ∀ W o vs, Hd W → Hd (W.setCells g o vs)) (hD : ∀ W, Hd W → Hd W.drew)
    (D : Bn → Prop) (hcmp : ∀ x y, D x → D y → ∀ W, Hd W → Calls Tryd.prog 56 #[.agg (bn x).toArray, .agg (bn y).toArray] W fun e w' => e = .returned (.int .i64 (cm x y)) ∧ Below W.heap.size W w')
    (asym : ∀ a b, lt a b = true → lt b a = false) (nn : ∀ a b c, lt a b = false → lt b c = false → lt a c = false) (hy : D y) (hAD : ∀ x ∈ A, D x) (hAs : Srt lt A) (hA1 : A.length ≠ 1)
    (a m b : Nat) (ha : a = P.length) (hm : m = a + A.length) (hb : b = m + 1) (w : World) (h0 : Hd w) (hbk : blk w g = some (rowC bn (P ++ A ++ [y] ++ S) ++ sp).toArray) :
    Calls Tryd.prog 115 #[.slice (some ⟨g, 0, none⟩) n cap, .int .i64 a, .int .i64 m, .int .i64 b, .func (.func 56) #[] #[]] w fun e w' =>
      e = .returned (.tuple #[]) ∧ w.grownBy w' (some g) ∧ blk w' g = some (rowC bn (P ++ mrg lt A [y] ++ S) ++ sp).toArray ∧ Hd w' := by
  have hn2 : n = P.length + A.length + 1 + S.length := by rw [hn]; simp; omega
  have HI := Lib.hid hcmp; have HBK := Lib.hid hbk; have H0 := Lib.hid h0
  replace hB := Lib.hid hB; replace hS := Lib.hid hS; replace hlt := Lib.hid hlt; replace hD := Lib.hid hD
  have NN := Lib.hid nn; have AS := Lib.hid asym
  have HYD := Lib.hid hy; have HAD := Lib.hid hAD; have HAS := Lib.hid hAs; have HN := Lib.hid hn2; have HA := Lib.hid ha
  obtain ⟨L, hL⟩ : ∃ L, L = P ++ A ++ [y] ++ S := ⟨_, rfl⟩
  obtain ⟨na, hna⟩ : ∃ k, k = A.length := ⟨_, rfl⟩
  have HL := Lib.hid hL; have HNA := Lib.hid hna
  have am : m = a + na := by omega
  have m1 : IntKind.i64.wrap ((m : Int) - (a : Int)) = na := (IntWalk.i64_in _ (by omega)).trans (by omega)
  have m2 : IntKind.i64.wrap ((b : Int) - (m : Int)) = 1 := (IntWalk.i64_in _ (by omega)).trans (by omega)
  have m1' : (m : Int) - (a : Int) = na := by omega
  have m2' : (b : Int) - (m : Int) = 1 := by omega
  have r1 : ((na : Int) == 1) = false := by simp; omega
  have r1' : (na == 1) = false := by simp; omega
  have bna : na ≤ 1000000 := by omega
  have AM := Lib.hid am; have HM : Hid (b = m + 1) := Lib.hid hb
  have ba : m < n := by omega
  have bmm : a ≤ m := by omega
  clear hcmp hbk h0 nn asym hy hAD hAs hn hn2 hb hL hna hA1 hm am ha
  go_enter Tryd.func115, Tryd.ntmps115
  go_upto_region 15 with fail
  go_loopw [14, 15] (fun vi vj wr => ∃ i j : Nat, vi = .int .i64 i ∧ vj = .int .i64 j ∧ a ≤ i ∧ i ≤ j ∧ j ≤ m ∧ w.grownBy wr (some g) ∧ Hid ((∀ t (h : t < A.length), t < i - a → lt y A[t] = false) ∧ (∀ t (h : t < A.length), j - a ≤ t → lt y A[t] = true) ∧ blk wr g = some (rowC bn L ++ sp).toArray ∧ Hd wr)) (fun vi vj _ => (intOf vj).toNat - (intOf vi).toNat)
  case atStart => exact ⟨a, m, rfl, rfl, Nat.le_refl _, bmm, Nat.le_refl _, igrown_self w g, Lib.hid ⟨fun t h h' => by omega, fun t h h' => by have := HNA.out; have := AM.out; omega, by rw [HL.out]; exact HBK.out, H0.out⟩⟩
  case round =>
    clear HBK H0
    obtain ⟨i, j, rfl, rfl, hmi, hij, hjb, hgr, HQ⟩ := hrel
    by_cases hlt' : i < j
    · have t1 : decide ((i : Int) < (j : Int)) = true := decide_eq_true (by omega)
      have t1' : decide (i < j) = true := decide_eq_true (by omega)
      obtain ⟨h, hh⟩ : ∃ h, h = (i + j) / 2 := ⟨_, rfl⟩
      have u1 : ((i : Int) + (j : Int)) / 2 = (h : Int) := by omega
      have u2 : (i + j) / 2 = h := hh.symm
      have hhi : i ≤ h := by omega
      have hhj : h < j := by omega
      have hq : h - a < A.length := by have := HNA.out; have := AM.out; omega
      obtain ⟨x, hx⟩ : ∃ x, x = A[h - a] := ⟨_, rfl⟩
      have lP := HA.out
      have hLx : L[h]? = some x := by
        rw [HL.out, hx, List.append_assoc, List.append_assoc, List.getElem?_append_right (by omega), List.getElem?_append_left (by omega)]
        rw [List.getElem?_eq_getElem (by omega)]
        congr 2
        omega
      have hLy : L[m]? = some y := by
        have h1 := HNA.out; have h2 := AM.out
        rw [HL.out, List.append_assoc, List.getElem?_append_right (by simp; omega)]
        rw [show m - (P ++ A).length = 0 by simp; omega]; rfl
      have l1 : (h : Int) < (n : Int) := by omega
      have l2 : (m : Int) < (n : Int) := by omega
      obtain ⟨d, hc⟩ : ∃ d, cm y x = d := ⟨_, rfl⟩
      have gc : ∀ W, Hd W → Calls Tryd.prog 56 #[.agg (bn y).toArray, .agg (bn x).toArray] W fun e w' => e = .returned (.int .i64 d) ∧ Below W.heap.size W w' := fun W h => by rw [← hc]; exact HI.out y x HYD.out (HAD.out x (by rw [hx]; exact List.getElem_mem _)) W h
      replace gc := Lib.hid gc
      have hbM := HQ.out.2.2.1
      have hd := HQ.out.2.2.2
      have hcl : lt y x = decide (d < 0) := by rw [hlt.out, hc]
      have HC := Lib.hid hcl; have HH := Lib.hid hh; have HQL := Lib.hid hq
      have XE : Hid (x = A[h - a]'(HQL.out)) := Lib.hid hx
      clear hcl hc hx hh lP
      by_cases hc0 : d < 0
      · have tc : decide (d < 0) = true := decide_eq_true hc0
        clear hq
        go_wp2_with fail
        refine wp_region_in (by kernel_rfl) (by kernel_rfl) ?_
        intro W0 hE hN
        have q1 : blk W0 g = some (rowC bn L ++ sp).toArray := (by rw [hE.out]; exact hbM)
        have q2 : w.grownBy W0 (some g) := (by rw [hE.out]; exact hgr)
        have q3 : Hd W0 := (by rw [hE.out]; exact hd)
        clear hE
        have r0 := range_row bn_len q1 hLy
        have r1 := range_row bn_len q1 hLx
        have gl := blk_lt q1
        have gC : ∀ X : Class (Calm W0), _ := fun X => gc.out X.wd (hB.out _ _ q3 X.ok)
        have GC := Lib.hid gC
        clear gC
        refine wpQuiet_split 4 ?_
        simp only [List.take_succ_cons, List.take_zero, List.drop_succ_cons, List.drop_zero]
        repeat (go_big_quiet_step (fail))
        refine wpQuiet_nil ?_
        refine wpQuiet_load_range 81 (.tmp 95) g (m * 9) (bn y) (fun W hW => by obtain ⟨x', rfl⟩ := hW; exact range_below gl r0 x'.ok) _ (by kernel_rfl) rfl (by kernel_rfl) Tryd.underlying81 rfl (by kernel_rfl) ?_
        conv => arg 6; simp [Act.put]
        refine wpQuiet_split 3 ?_
        simp only [List.take_succ_cons, List.take_zero, List.drop_succ_cons, List.drop_zero]
        repeat (go_big_quiet_step (fail))
        refine wpQuiet_nil ?_
        refine wpQuiet_load_range 81 (.tmp 99) g (h * 9) (bn x) (fun W hW => by obtain ⟨x', rfl⟩ := hW; exact range_below gl r1 x'.ok) _ (by kernel_rfl) rfl (by kernel_rfl) Tryd.underlying81 rfl (by kernel_rfl) ?_
        conv => arg 6; simp [Act.put]
        repeat (go_big_quiet_step ((go_at_call 56; (with_reducible refine Class.go _ (GC.out _)))))
        refine wpQuiet_nil ?_
        rintro _ ⟨x', rfl⟩
        have hbM2 := blk_below x'.ok q1
        have hgr2 := igrown_below q2 x'.ok
        have hd2 := hB.out _ _ q3 x'.ok
        obtain ⟨u, hu⟩ : ∃ u, u = x'.wd := ⟨_, rfl⟩
        rw [← hu] at hbM2 hgr2 hd2 ⊢
        clear hu x' r0 r1 gl q1 q2 q3 hN GC hbM hgr hd
        go_wp2
        go_roundw
        case rel =>
          refine ⟨i, h, rfl, rfl, by omega, by omega, by omega, hgr2, Lib.hid ⟨HQ.out.1, fun t ht h' => ?_, hbM2, hd2⟩⟩
          have c1 := srt_at AS.out HAS.out (i := h - a) (j := t) h' ht
          cases e : lt y A[t] with
          | true => rfl
          | false =>
            have := NN.out _ _ _ e c1
            rw [← XE.out, HC.out, tc] at this
            exact this.symm
        case measure => simp [intOf]; omega
      · have tc : decide (d < 0) = false := decide_eq_false hc0
        clear hq
        go_wp2_with fail
        refine wp_region_in (by kernel_rfl) (by kernel_rfl) ?_
        intro W0 hE hN
        have q1 : blk W0 g = some (rowC bn L ++ sp).toArray := (by rw [hE.out]; exact hbM)
        have q2 : w.grownBy W0 (some g) := (by rw [hE.out]; exact hgr)
        have q3 : Hd W0 := (by rw [hE.out]; exact hd)
        clear hE
        have r0 := range_row bn_len q1 hLy
        have r1 := range_row bn_len q1 hLx
        have gl := blk_lt q1
        have gC : ∀ X : Class (Calm W0), _ := fun X => gc.out X.wd (hB.out _ _ q3 X.ok)
        have GC := Lib.hid gC
        clear gC
        refine wpQuiet_split 4 ?_
        simp only [List.take_succ_cons, List.take_zero, List.drop_succ_cons, List.drop_zero]
        repeat (go_big_quiet_step (fail))
        refine wpQuiet_nil ?_
        refine wpQuiet_load_range 81 (.tmp 95) g (m * 9) (bn y) (fun W hW => by obtain ⟨x', rfl⟩ := hW; exact range_below gl r0 x'.ok) _ (by kernel_rfl) rfl (by kernel_rfl) Tryd.underlying81 rfl (by kernel_rfl) ?_
        conv => arg 6; simp [Act.put]
        refine wpQuiet_split 3 ?_
        simp only [List.take_succ_cons, List.take_zero, List.drop_succ_cons, List.drop_zero]
        repeat (go_big_quiet_step (fail))
        refine wpQuiet_nil ?_
        refine wpQuiet_load_range 81 (.tmp 99) g (h * 9) (bn x) (fun W hW => by obtain ⟨x', rfl⟩ := hW; exact range_below gl r1 x'.ok) _ (by kernel_rfl) rfl (by kernel_rfl) Tryd.underlying81 rfl (by kernel_rfl) ?_
        conv => arg 6; simp [Act.put]
        repeat (go_big_quiet_step ((go_at_call 56; (with_reducible refine Class.go _ (GC.out _)))))
        refine wpQuiet_nil ?_
        rintro _ ⟨x', rfl⟩
        have hbM2 := blk_below x'.ok q1
        have hgr2 := igrown_below q2 x'.ok
        have hd2 := hB.out _ _ q3 x'.ok
        obtain ⟨u, hu⟩ : ∃ u, u = x'.wd := ⟨_, rfl⟩
        rw [← hu] at hbM2 hgr2 hd2 ⊢
        clear hu x' r0 r1 gl q1 q2 q3 hN GC hbM hgr hd
        go_wp2
        go_roundw
        case rel =>
          refine ⟨h + 1, j, by go_num, rfl, by omega, by omega, hjb, hgr2, Lib.hid ⟨fun t ht h' => ?_, HQ.out.2.1, hbM2, hd2⟩⟩
          have c1 := srt_at AS.out HAS.out (i := t) (j := h - a) (by omega) HQL.out
          refine NN.out _ _ _ ?_ c1
          rw [← XE.out, HC.out, tc]
        case measure => simp [intOf]; omega
    · have hij' : i = j := by omega
      subst hij'
      have t1 : decide ((i : Int) < (i : Int)) = false := decide_eq_false (by omega)
      go_wp2
      go_loopw [17] (fun vk wr => ∃ (k : Nat) (A1 A2 : List Bn), vk = .int .i64 k ∧ i ≤ k ∧ k ≤ m ∧ w.grownBy wr (some g) ∧ Hid (k = a + A1.length ∧ A = A1 ++ A2 ∧ blk wr g = some (rowC bn (P ++ A1 ++ y :: A2 ++ S) ++ sp).toArray ∧ Hd wr)) (fun vk _ => (intOf vk).toNat)
      case atStart => exact ⟨m, A, [], rfl, by omega, Nat.le_refl _, hgr, Lib.hid ⟨by rw [AM.out, HNA.out], by simp, by have := HQ.out.2.2.1; rw [HL.out] at this; simpa using this, HQ.out.2.2.2⟩⟩
      case round =>
        clear hgr
        obtain ⟨k, A1, A2, rfl, hik, hkm, hgr, HR⟩ := hrel
        by_cases hke' : i < k
        · have t2 : decide ((i : Int) < (k : Int)) = true := decide_eq_true (by omega)
          have t2' : decide (i < k) = true := decide_eq_true (by omega)
          rcases List.eq_nil_or_concat A1 with rfl | ⟨A1, z, rfl⟩
          · exfalso
            have h1 := HR.out.1; simp at h1; omega
          · rw [List.concat_eq_append] at HR
            obtain ⟨M, hMd⟩ : ∃ M, M = (P ++ A1) ++ z :: [] ++ y :: (A2 ++ S) := ⟨_, rfl⟩
            obtain ⟨kp, hkp⟩ : ∃ kp, k = kp + 1 := ⟨k - 1, by omega⟩
            have eM : P ++ (A1 ++ [z]) ++ y :: A2 ++ S = M := by rw [hMd]; simp
            have hkU : (P ++ A1).length = kp := by have h1 := HR.out.1; have h2 := HA.out; rw [List.length_append] at h1; rw [List.length_append]; simp only [List.length_singleton] at h1; omega
            have hkU2 : (P ++ A1).length + 1 + ([] : List Bn).length = k := by rw [hkU, hkp]; rfl
            have hM2 : M[kp]? = some z := by rw [hMd, ← hkU]; exact sw_x _ _ _ _ _
            have hM1 : M[k]? = some y := by rw [hMd, ← hkU2]; exact sw_z _ _ _ _ _
            have hM12 : (M.set k z)[kp]? = some z := by rw [List.getElem?_set_ne (by omega)]; exact hM2
            have hsw : (M.set k z).set kp y = P ++ A1 ++ y :: (z :: A2) ++ S := by rw [List.set_comm _ _ (by omega), hMd, ← hkU2, ← hkU, sw_set]; simp
            have hbM : blk wr g = some (rowC bn M ++ sp).toArray := by rw [← eM]; exact HR.out.2.2.1
            have hdr := HR.out.2.2.2
            have lM : M.length = n := by have h1 := HR.out.2.1; have h2 := HN.out; rw [← eM]; rw [h1] at h2; simp at h2 ⊢; omega
            have l1 : (k : Int) < (n : Int) := by have := (List.getElem?_eq_some_iff.1 hM1).1; omega
            have l2 : (kp : Int) < (n : Int) := by have := (List.getElem?_eq_some_iff.1 hM2).1; omega
            have u3 : IntKind.i64.wrap ((k : Int) - 1) = kp := (IntWalk.i64_in _ (by omega)).trans (by omega)
            have u4 : IntKind.i64.wrap (k : Int) = k := IntWalk.i64_in _ (by omega)
            have u5 : IntKind.i64.wrap (kp : Int) = kp := IntWalk.i64_in _ (by omega)
            have HSW := Lib.hid hsw; have HK2 := Lib.hid hkp; have HKE := Lib.hid hke'
            clear hMd eM hkU hkU2 hsw lM hkp hke'
            go_wp2_with fail
            refine wp_region_held_drew (S := fun _ => True) (by kernel_rfl) trivial (fun _ => ?_)
            obtain ⟨d0, ed0⟩ : ∃ v, v = wr.drew := ⟨_, rfl⟩
            have kd : blk d0 g = some (rowC bn M ++ sp).toArray := (by rw [ed0]; exact blk_drew hbM)
            have hgr3 : Hid (w.grownBy d0 (some g)) := Lib.hid (by rw [ed0]; exact igrown_drew hgr)
            have hd0 : Hd d0 := (by rw [ed0]; exact hD.out _ hdr)
            rw [← ed0]
            clear ed0 hgr hbM hdr
            have rX := range_row bn_len kd hM1
            have rY := range_row bn_len kd hM2
            have hk1 : k < M.length := (List.getElem?_eq_some_iff.1 hM1).1
            have hk2 : kp < M.length := (List.getElem?_eq_some_iff.1 hM2).1
            have hsz : M.length * 9 ≤ ((rowC bn M ++ sp).toArray).size := by simp [rowC_length bn_len]
            have th1 : d0.there g (k * 9) (bn z).toArray.size := there_of_blk kd (by show k * 9 + 9 ≤ _; omega)
            have hsz2 : M.length * 9 ≤ ((rowC bn (M.set k z) ++ sp).toArray).size := by simp [rowC_length bn_len]
            clear hM1 hM2 hM12
            have hTr : True := trivial
            refine wpAnyH_take (i := 0) (oi := _) (v := ?_) rfl (by kernel_rfl) (by kernel_rfl) (by kernel_rfl) (fun _ _ _ h => h) (Or.inl ⟨by rfl, ?_⟩) (by assumption) ?_
            rotate_left
            focus (intro W hSw; (try dsimp only at hSw); go_simp; (try with_reducible rfl))
            (try simp only [Act.put, List.setIfInBounds_toArray, List.set_cons_zero, List.set_cons_succ, List.getElem_toArray, List.getElem_cons_succ, List.getElem_cons_zero])
            refine wpAnyH_take (i := 1) (oi := _) (v := ?_) rfl (by kernel_rfl) (by kernel_rfl) (by kernel_rfl) (fun _ _ _ h => h) (Or.inl ⟨by rfl, ?_⟩) (by assumption) ?_
            rotate_left
            focus (intro W hSw; (try dsimp only at hSw); go_simp; (try with_reducible rfl))
            (try simp only [Act.put, List.setIfInBounds_toArray, List.set_cons_zero, List.set_cons_succ, List.getElem_toArray, List.getElem_cons_succ, List.getElem_cons_zero])
            refine wpAnyH_take (i := 2) (oi := _) (v := ?_) rfl (by kernel_rfl) (by kernel_rfl) (by kernel_rfl) (fun _ _ _ h => h) (Or.inl ⟨by rfl, ?_⟩) (by assumption) ?_
            rotate_left
            focus (intro W hSw; (try dsimp only at hSw); go_simp; (try with_reducible rfl))
            (try simp only [Act.put, List.setIfInBounds_toArray, List.set_cons_zero, List.set_cons_succ, List.getElem_toArray, List.getElem_cons_succ, List.getElem_cons_zero])
            refine wpAnyH_take (i := 3) (oi := _) (v := ?_) rfl (by kernel_rfl) (by kernel_rfl) (by kernel_rfl) (fun _ _ _ h => h) (Or.inl ⟨by rfl, ?_⟩) (by assumption) ?_
            rotate_left
            focus (intro W hSw; (try dsimp only at hSw); go_simp; (try with_reducible rfl))
            (try simp only [Act.put, List.setIfInBounds_toArray, List.set_cons_zero, List.set_cons_succ, List.getElem_toArray, List.getElem_cons_succ, List.getElem_cons_zero])
            refine wpAnyH_take (i := 4) (oi := _) (v := ?_) rfl (by kernel_rfl) (by kernel_rfl) (by kernel_rfl) (fun _ _ _ h => h) (Or.inl ⟨by rfl, ?_⟩) (by assumption) ?_
            rotate_left
            focus (intro W hSw; (try dsimp only at hSw); go_simp; (try with_reducible rfl))
            (try simp only [Act.put, List.setIfInBounds_toArray, List.set_cons_zero, List.set_cons_succ, List.getElem_toArray, List.getElem_cons_succ, List.getElem_cons_zero])
            refine wpAnyH_take (i := 5) (oi := _) (v := ?_) rfl (by kernel_rfl) (by kernel_rfl) (by kernel_rfl) (fun _ _ _ h => h) (Or.inl ⟨by rfl, ?_⟩) (by assumption) ?_
            rotate_left
            focus (intro W hSw; (try dsimp only at hSw); go_simp; (try with_reducible rfl))
            (try simp only [Act.put, List.setIfInBounds_toArray, List.set_cons_zero, List.set_cons_succ, List.getElem_toArray, List.getElem_cons_succ, List.getElem_cons_zero])
            refine wpAnyH_take (i := 6) (oi := _) (v := ?_) rfl (by kernel_rfl) (by kernel_rfl) (by kernel_rfl) (fun _ _ _ h => h) (Or.inl ⟨by rfl, ?_⟩) (by assumption) ?_
            rotate_left
            focus (intro W hSw; (try dsimp only at hSw); go_simp; (try with_reducible rfl))
            (try simp only [Act.put, List.setIfInBounds_toArray, List.set_cons_zero, List.set_cons_succ, List.getElem_toArray, List.getElem_cons_succ, List.getElem_cons_zero])
            refine wpAnyH_take (i := 7) (oi := _) (v := ?_) rfl (by kernel_rfl) (by kernel_rfl) (by kernel_rfl) (fun _ _ _ h => h) (Or.inl ⟨by rfl, ?_⟩) (by assumption) ?_
            rotate_left
            focus (intro W hSw; (try dsimp only at hSw); go_simp; (try with_reducible rfl))
            (try simp only [Act.put, List.setIfInBounds_toArray, List.set_cons_zero, List.set_cons_succ, List.getElem_toArray, List.getElem_cons_succ, List.getElem_cons_zero])
            refine wpAnyH_take (i := 8) (oi := _) (v := ?_) rfl (by kernel_rfl) (by kernel_rfl) (by kernel_rfl) (fun _ _ _ h => h) (Or.inl ⟨by rfl, ?_⟩) (by assumption) ?_
            rotate_left
            focus (intro W hSw; (try dsimp only at hSw); go_simp; (try with_reducible rfl))
            (try simp only [Act.put, List.setIfInBounds_toArray, List.set_cons_zero, List.set_cons_succ, List.getElem_toArray, List.getElem_cons_succ, List.getElem_cons_zero])
            refine wpAnyH_take (i := 10) (oi := _) (v := ?_) rfl (by kernel_rfl) (by kernel_rfl) (by kernel_rfl) (fun _ _ _ h => h) (Or.inl ⟨by rfl, ?_⟩) (by assumption) ?_
            rotate_left
            focus (intro W hSw; (try dsimp only at hSw); go_simp; (try with_reducible rfl))
            (try simp only [Act.put, List.setIfInBounds_toArray, List.set_cons_zero, List.set_cons_succ, List.getElem_toArray, List.getElem_cons_succ, List.getElem_cons_zero])
            refine wpAnyH_take (i := 11) (oi := _) (v := ?_) rfl (by kernel_rfl) (by kernel_rfl) (by kernel_rfl) (fun _ _ _ h => h) (Or.inl ⟨by rfl, ?_⟩) (by assumption) ?_
            rotate_left
            focus (intro W hSw; (try dsimp only at hSw); go_simp; (try with_reducible rfl))
            (try simp only [Act.put, List.setIfInBounds_toArray, List.set_cons_zero, List.set_cons_succ, List.getElem_toArray, List.getElem_cons_succ, List.getElem_cons_zero])
            refine wpAnyH_take (i := 12) (oi := _) (v := ?_) rfl (by kernel_rfl) (by kernel_rfl) (by kernel_rfl) (fun _ _ _ h => h) (Or.inl ⟨by rfl, ?_⟩) (by assumption) ?_
            rotate_left
            focus (intro W hSw; (try dsimp only at hSw); go_simp; (try with_reducible rfl))
            (try simp only [Act.put, List.setIfInBounds_toArray, List.set_cons_zero, List.set_cons_succ, List.getElem_toArray, List.getElem_cons_succ, List.getElem_cons_zero])
            refine wpAnyH_ready (rs := [9, 13]) (by kernel_rfl) (by simp) ?_
            refine AllReadyH.cons rfl (fun K hK => ?_) ?_
            · skip
              rw [if_pos (by rfl)]
              refine wp_load_mid 81 (.tmp 121) rfl g (kp * 9) rfl (bn z) _ rY Tryd.underlying81 rfl (by kernel_rfl) ?_
              refine hK.out _ _ trivial (fun _ => ?_)
              clear hK K
              (try simp only [Act.put, List.setIfInBounds_toArray, List.set_cons_zero, List.set_cons_succ, List.getElem_toArray, List.getElem_cons_succ, List.getElem_cons_zero])
              refine wpAnyH_ready (rs := [13]) (by kernel_rfl) (by simp) ?_
              refine AllReadyH.cons rfl (fun K hK => ?_) AllReadyH.nil
              rw [if_pos (by rfl)]
              refine wp_load_mid 81 (.tmp 125) rfl g (k * 9) rfl (bn y) _ rX Tryd.underlying81 rfl (by kernel_rfl) ?_
              refine hK.out _ _ trivial (fun _ => ?_)
              clear hK K
              (try simp only [Act.put, List.setIfInBounds_toArray, List.set_cons_zero, List.set_cons_succ, List.getElem_toArray, List.getElem_cons_succ, List.getElem_cons_zero])
              refine wpAnyH_take (i := 14) (oi := _) (v := ?_) rfl (by kernel_rfl) (by kernel_rfl) (by kernel_rfl) (fun _ _ _ h => h) (Or.inl ⟨by rfl, ?_⟩) (by assumption) ?_
              rotate_left
              focus (intro W hSw; (try dsimp only at hSw); go_simp; (try with_reducible rfl))
              (try simp only [Act.put, List.setIfInBounds_toArray, List.set_cons_zero, List.set_cons_succ, List.getElem_toArray, List.getElem_cons_succ, List.getElem_cons_zero])
              refine wpAnyH_ready (rs := [15]) (by kernel_rfl) (by simp) ?_
              refine AllReadyH.cons rfl (fun K hK => ?_) AllReadyH.nil
              rw [if_pos (by rfl)]
              refine wp_store_mid 81 (.tmp 127) (.tmp 122) rfl g (k * 9) (bn z).toArray rfl rfl th1 (by kernel_rfl) (by kernel_rfl) ?_
              obtain ⟨d1, ed1⟩ : ∃ v, v = d0.setCells g (k * 9) (bn z).toArray.toList := ⟨_, rfl⟩
              have kd2 : blk d1 g = some (rowC bn (M.set k z) ++ sp).toArray := (by rw [ed1]; exact (blk_setCells (bn z) (k * 9) _ _ kd).trans (congrArg some (setMid_row bn_len M k hk1 z sp)))
              have gr2 : w.grownBy d1 (some g) := (by rw [ed1]; exact grown_cells (bn z) (k * 9) _ hgr3.out)
              have hd2 : Hd d1 := (by rw [ed1]; exact hS.out _ _ _ hd0)
              rw [← ed1]
              clear ed1
              have th2 : d1.there g (kp * 9) (bn y).toArray.size := there_of_blk kd2 (by show kp * 9 + 9 ≤ _; omega)
              refine hK.out _ _ trivial (fun _ => ?_)
              clear hK K
              (try simp only [Act.put, List.setIfInBounds_toArray, List.set_cons_zero, List.set_cons_succ, List.getElem_toArray, List.getElem_cons_succ, List.getElem_cons_zero])
              refine wpAnyH_take (i := 16) (oi := _) (v := ?_) rfl (by kernel_rfl) (by kernel_rfl) (by kernel_rfl) (fun _ _ _ h => h) (Or.inl ⟨by rfl, ?_⟩) (by assumption) ?_
              rotate_left
              focus (intro W hSw; (try dsimp only at hSw); go_simp; (try with_reducible rfl))
              (try simp only [Act.put, List.setIfInBounds_toArray, List.set_cons_zero, List.set_cons_succ, List.getElem_toArray, List.getElem_cons_succ, List.getElem_cons_zero])
              refine wpAnyH_ready (rs := [17]) (by kernel_rfl) (by simp) ?_
              refine AllReadyH.cons rfl (fun K hK => ?_) AllReadyH.nil
              rw [if_pos (by rfl)]
              refine wp_store_mid 81 (.tmp 128) (.tmp 126) rfl g (kp * 9) (bn y).toArray rfl rfl th2 (by kernel_rfl) (by kernel_rfl) ?_
              obtain ⟨d2, ed2⟩ : ∃ v, v = d1.setCells g (kp * 9) (bn y).toArray.toList := ⟨_, rfl⟩
              have kd3 : blk d2 g = some (rowC bn ((M.set k z).set kp y) ++ sp).toArray := (by rw [ed2]; exact (blk_setCells (bn y) (kp * 9) _ _ kd2).trans (congrArg some (setMid_row bn_len (M.set k z) kp (by simpa using hk2) y sp)))
              have gr3 : w.grownBy d2 (some g) := (by rw [ed2]; exact grown_cells (bn y) (kp * 9) _ gr2)
              have hd3 : Hd d2 := (by rw [ed2]; exact hS.out _ _ _ hd2)
              rw [← ed2]
              clear ed2
              replace kd3 := Lib.hid kd3
              replace gr3 := Lib.hid gr3
              clear kd2 gr2 kd th1 th2 rX rY hd2
              refine hK.out _ _ trivial (fun _ => ?_)
              clear hK K
              (try simp only [Act.put, List.setIfInBounds_toArray, List.set_cons_zero, List.set_cons_succ, List.getElem_toArray, List.getElem_cons_succ, List.getElem_cons_zero])
              refine wpAnyH_done (by kernel_rfl) ?_ _
              go_wp2
              go_roundw
              case rel => exact ⟨kp, A1, z :: A2, by go_num, by have := HK2.out; have := HKE.out; omega, by have := HK2.out; omega, gr3.out, Lib.hid ⟨by have h1 := HR.out.1; have h2 := HK2.out; rw [List.length_append, List.length_singleton] at h1; omega, by rw [HR.out.2.1]; simp, by rw [← HSW.out]; exact kd3.out, hd3⟩⟩
              case measure => have := HK2.out; simp [intOf]; omega
            refine AllReadyH.cons rfl (fun K hK => ?_) AllReadyH.nil
            rw [if_pos (by rfl)]
            refine wp_load_mid 81 (.tmp 125) rfl g (k * 9) rfl (bn y) _ rX Tryd.underlying81 rfl (by kernel_rfl) ?_
            refine hK.out _ _ trivial (fun _ => ?_)
            clear hK K
            (try simp only [Act.put, List.setIfInBounds_toArray, List.set_cons_zero, List.set_cons_succ, List.getElem_toArray, List.getElem_cons_succ, List.getElem_cons_zero])
            refine wpAnyH_ready (rs := [9]) (by kernel_rfl) (by simp) ?_
            refine AllReadyH.cons rfl (fun K hK => ?_) AllReadyH.nil
            rw [if_pos (by rfl)]
            refine wp_load_mid 81 (.tmp 121) rfl g (kp * 9) rfl (bn z) _ rY Tryd.underlying81 rfl (by kernel_rfl) ?_
            refine hK.out _ _ trivial (fun _ => ?_)
            clear hK K
            (try simp only [Act.put, List.setIfInBounds_toArray, List.set_cons_zero, List.set_cons_succ, List.getElem_toArray, List.getElem_cons_succ, List.getElem_cons_zero])
            refine wpAnyH_take (i := 14) (oi := _) (v := ?_) rfl (by kernel_rfl) (by kernel_rfl) (by kernel_rfl) (fun _ _ _ h => h) (Or.inl ⟨by rfl, ?_⟩) (by assumption) ?_
            rotate_left
            focus (intro W hSw; (try dsimp only at hSw); go_simp; (try with_reducible rfl))
            (try simp only [Act.put, List.setIfInBounds_toArray, List.set_cons_zero, List.set_cons_succ, List.getElem_toArray, List.getElem_cons_succ, List.getElem_cons_zero])
            refine wpAnyH_ready (rs := [15]) (by kernel_rfl) (by simp) ?_
            refine AllReadyH.cons rfl (fun K hK => ?_) AllReadyH.nil
            rw [if_pos (by rfl)]
            refine wp_store_mid 81 (.tmp 127) (.tmp 122) rfl g (k * 9) (bn z).toArray rfl rfl th1 (by kernel_rfl) (by kernel_rfl) ?_
            obtain ⟨d1, ed1⟩ : ∃ v, v = d0.setCells g (k * 9) (bn z).toArray.toList := ⟨_, rfl⟩
            have kd2 : blk d1 g = some (rowC bn (M.set k z) ++ sp).toArray := (by rw [ed1]; exact (blk_setCells (bn z) (k * 9) _ _ kd).trans (congrArg some (setMid_row bn_len M k hk1 z sp)))
            have gr2 : w.grownBy d1 (some g) := (by rw [ed1]; exact grown_cells (bn z) (k * 9) _ hgr3.out)
            have hd2 : Hd d1 := (by rw [ed1]; exact hS.out _ _ _ hd0)
            rw [← ed1]
            clear ed1
            have th2 : d1.there g (kp * 9) (bn y).toArray.size := there_of_blk kd2 (by show kp * 9 + 9 ≤ _; omega)
            refine hK.out _ _ trivial (fun _ => ?_)
            clear hK K
            (try simp only [Act.put, List.setIfInBounds_toArray, List.set_cons_zero, List.set_cons_succ, List.getElem_toArray, List.getElem_cons_succ, List.getElem_cons_zero])
            refine wpAnyH_take (i := 16) (oi := _) (v := ?_) rfl (by kernel_rfl) (by kernel_rfl) (by kernel_rfl) (fun _ _ _ h => h) (Or.inl ⟨by rfl, ?_⟩) (by assumption) ?_
            rotate_left
            focus (intro W hSw; (try dsimp only at hSw); go_simp; (try with_reducible rfl))
            (try simp only [Act.put, List.setIfInBounds_toArray, List.set_cons_zero, List.set_cons_succ, List.getElem_toArray, List.getElem_cons_succ, List.getElem_cons_zero])
            refine wpAnyH_ready (rs := [17]) (by kernel_rfl) (by simp) ?_
            refine AllReadyH.cons rfl (fun K hK => ?_) AllReadyH.nil
            rw [if_pos (by rfl)]
            refine wp_store_mid 81 (.tmp 128) (.tmp 126) rfl g (kp * 9) (bn y).toArray rfl rfl th2 (by kernel_rfl) (by kernel_rfl) ?_
            obtain ⟨d2, ed2⟩ : ∃ v, v = d1.setCells g (kp * 9) (bn y).toArray.toList := ⟨_, rfl⟩
            have kd3 : blk d2 g = some (rowC bn ((M.set k z).set kp y) ++ sp).toArray := (by rw [ed2]; exact (blk_setCells (bn y) (kp * 9) _ _ kd2).trans (congrArg some (setMid_row bn_len (M.set k z) kp (by simpa using hk2) y sp)))
            have gr3 : w.grownBy d2 (some g) := (by rw [ed2]; exact grown_cells (bn y) (kp * 9) _ gr2)
            have hd3 : Hd d2 := (by rw [ed2]; exact hS.out _ _ _ hd2)
            rw [← ed2]
            clear ed2
            replace kd3 := Lib.hid kd3
            replace gr3 := Lib.hid gr3
            clear kd2 gr2 kd th1 th2 rX rY hd2
            refine hK.out _ _ trivial (fun _ => ?_)
            clear hK K
            (try simp only [Act.put, List.setIfInBounds_toArray, List.set_cons_zero, List.set_cons_succ, List.getElem_toArray, List.getElem_cons_succ, List.getElem_cons_zero])
            refine wpAnyH_done (by kernel_rfl) ?_ _
            go_wp2
            go_roundw
            case rel => exact ⟨kp, A1, z :: A2, by go_num, by have := HK2.out; have := HKE.out; omega, by have := HK2.out; omega, gr3.out, Lib.hid ⟨by have h1 := HR.out.1; have h2 := HK2.out; rw [List.length_append, List.length_singleton] at h1; omega, by rw [HR.out.2.1]; simp, by rw [← HSW.out]; exact kd3.out, hd3⟩⟩
            case measure => have := HK2.out; simp [intOf]; omega
        · obtain rfl : k = i := by omega
          have t2 : decide ((k : Int) < (k : Int)) = false := decide_eq_false (by omega)
          go_wp2
          (try simp only [Exit.inBlock, Exit.then])
          refine bodyPost_ret (results_none rfl _ _ _) rfl ?_
          refine ⟨rfl, hgr, ?_, HR.out.2.2.2⟩
          have e1 : mrg lt A [y] = A1 ++ y :: A2 := by
            have h1 := HR.out.1
            rw [HR.out.2.1]
            refine mrg_one_right (fun x hx => ?_) (fun x hx => ?_)
            · obtain ⟨t, ht, rfl⟩ := List.getElem_of_mem hx
              have := HQ.out.1 t (by rw [HR.out.2.1]; simp; omega) (by omega)
              simp only [HR.out.2.1] at this
              rwa [List.getElem_append_left ht] at this
            · obtain ⟨t, ht, rfl⟩ := List.getElem_of_mem hx
              have := HQ.out.2.1 (A1.length + t) (by rw [HR.out.2.1]; simp; omega) (by omega)
              simp only [HR.out.2.1] at this
              rw [List.getElem_append_right (by omega)] at this
              simpa using this
          have h3 := HR.out.2.2.1
          rw [e1]
          simp only [List.append_assoc] at h3 ⊢
          exact h3
end Go.Proofs.YtahopnlibmiafaaDoor
