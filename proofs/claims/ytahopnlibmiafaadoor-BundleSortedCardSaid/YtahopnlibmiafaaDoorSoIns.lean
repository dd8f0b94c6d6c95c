/- slices.insertionSortCmpFunc at bundles, over a row of the call's own. -/
import Derived.Test.YtahopnlibmiafaaDoorSoMath
import Derived.Test.YtahopnlibmiafaaDoorSRow
import Derived.Test.YtahopnlibmiafaaDoorBuOrd
import Derived.OrdersHeld
import Derived.Deep.RegionHeld
import Derived.Deep.Cut
namespace Go.Proofs.YtahopnlibmiafaaDoor
set_option linter.unusedVariables false
open Go.RowKit
/-- A bundle. -/
structure Bn where
  (no sq of de pr bo li to : Int)
  da : ByteArray
def bn (b : Bn) : List Value := [.int .i64 b.no, .int .u64 b.sq, .int .i64 b.of, .int .i64 b.de, .int .i64 b.pr, .int .i64 b.bo, .int .i64 b.li, .int .i64 b.to, .string b.da]
theorem bn_len (b : Bn) : (bn b).length = 9 := rfl
theorem bn_one (b : Bn) : ∀ u ∈ bn b, u.oneCell' = true := by
  intro u hu
  simp only [bn, List.mem_cons, List.not_mem_nil, or_false] at hu
  rcases hu with rfl | rfl | rfl | rfl | rfl | rfl | rfl | rfl | rfl <;> rfl
/-- Born and Life are ints. -/
def BnI (b : Bn) : Prop := I64 b.bo ∧ I64 b.li
def cmpB (a b : Bn) : Int := ordB a.no a.sq a.of a.pr a.bo a.li b.no b.sq b.of b.pr b.bo b.li
def ltB (a b : Bn) : Bool := lessB a.no a.sq a.of a.pr a.bo a.li b.no b.sq b.of b.pr b.bo b.li
theorem ltB_eq (a b : Bn) : ltB a b = decide (cmpB a b < 0) := rfl
theorem bcmp_any (a b : Bn) (ha : BnI a) (hb : BnI b) (w : World) :
    Calls Tryd.prog 56 #[.agg (bn a).toArray, .agg (bn b).toArray] w fun e w' => e = .returned (.int .i64 (cmpB a b)) ∧ Below w.heap.size w w' :=
  rcompare_any a.no a.sq a.of a.de a.pr a.bo a.li a.to a.da b.no b.sq b.of b.de b.pr b.bo b.li b.to b.da ha.1 ha.2 hb.1 hb.2 w
/-- Behind calls that lay blocks, what has turned at row g alone is so still. -/
theorem grown_below {w u v : World} {g : Nat} (h : w.grownBy u (some g)) (hb : Below u.heap.size u v) : w.grownBy v (some g) :=
  ⟨hb.os.trans h.os, hb.tape.trans h.tape, hb.output.trans h.output, Nat.le_trans h.size hb.size, fun k hk hn => (hb.block k (Nat.lt_of_lt_of_le hk h.size)).trans (h.block k hk hn)⟩
theorem grown_self (w : World) (g : Nat) : w.grownBy w (some g) := ⟨rfl, rfl, rfl, Nat.le_refl _, fun _ _ _ => rfl⟩
theorem grown_drew {w u : World} {g : Nat} (h : w.grownBy u (some g)) : w.grownBy u.drew (some g) := ⟨h.os, h.tape, h.output, h.size, h.block⟩
theorem grown_cells {w : World} {g : Nat} : ∀ (vs : List Value) (o : Nat) (u : World), w.grownBy u (some g) → w.grownBy (u.setCells g o vs) (some g)
  | [], _, _, h => h
  | v :: r, o, u, h => grown_cells r (o + 1) _ ⟨h.os, h.tape, h.output, by simpa using h.size, fun k hk hn => (Below.heap_setCell u ⟨g, o, none⟩ v k (fun e => hn (by rw [e]))).trans (h.block k hk hn)⟩
set_option maxRecDepth 100000 in
set_option maxHeartbeats 1600000 in
theorem insert_none (v : Value) (a : Nat) (hlen : a ≤ 1000000) (w : World) :
    Calls Tryd.prog 114 #[v, .int .i64 a, .int .i64 a, .func (.func 56) #[] #[]] w fun e w' => e = .returned (.tuple #[]) ∧ w = w' := by
  have h1 : ¬ ((a : Int) + 1 < (a : Int)) := by omega
  go_enter Tryd.func114, Tryd.ntmps114
  go_wp2
  refine wp_loop_rounds 1 ?_
  rw [rounds_succ]
  go_wp2
  go_end0
  exact ⟨rfl, rfl⟩
set_option maxRecDepth 100000 in
set_option maxHeartbeats 16000000 in
theorem insert_any (g cap : Nat) (L : List Bn) (sp : List Value) (a b : Nat) (hab : a < b) (hb : b ≤ L.length) (hlen : L.length ≤ 1000000) (hcap : L.length ≤ cap) (hI : ∀ x ∈ L, BnI x) (w : World) (hbk : blk w g = some (rowC bn L ++ sp).toArray) :
    Calls Tryd.prog 114 #[.slice (some ⟨g, 0, none⟩) L.length cap, .int .i64 a, .int .i64 b, .func (.func 56) #[] #[]] w fun e w' =>
      e = .returned (.tuple #[]) ∧ w.grownBy w' (some g) ∧ blk w' g = some (rowC bn (L.take a ++ isort ltB ((L.take b).drop a) ++ L.drop b) ++ sp).toArray := by
  have HI := Lib.hid hI
  have HB := Lib.hid hbk
  clear hI hbk
  go_enter Tryd.func114, Tryd.ntmps114
  go_wp2
  go_loopw [8] (fun vi wr => ∃ i : Nat, vi = .int .i64 i ∧ a < i ∧ i ≤ b ∧ w.grownBy wr (some g) ∧ Hid (blk wr g = some (rowC bn (L.take a ++ isort ltB ((L.take i).drop a) ++ L.drop i) ++ sp).toArray)) (fun vi _ => b - (intOf vi).toNat)
  case atStart =>
    refine ⟨a + 1, by go_num, by omega, by omega, grown_self w g, Lib.hid ?_⟩
    have e : (L.take (a + 1)).drop a = [L[a]'(by omega)] := by
      rw [List.take_succ_eq_append_getElem (by omega), List.drop_append_of_le_length (by simp; omega), List.drop_of_length_le (by simp; omega)]
      rfl
    rw [e]
    have e2 : L.take a ++ isort ltB [L[a]'(by omega)] ++ L.drop (a + 1) = L := by
      show L.take a ++ [L[a]'(by omega)] ++ L.drop (a + 1) = L
      rw [List.append_assoc, List.singleton_append, ← List.drop_eq_getElem_cons (by omega), List.take_append_drop]
    rw [e2]
    exact HB.out
  case round =>
    obtain ⟨i, rfl, hai, hib, hgr, hbi⟩ := hrel
    by_cases hlt : i < b
    · have hltz : (i : Int) < (b : Int) := by omega
      obtain ⟨x, hx⟩ : ∃ x, x = L[i]'(by omega) := ⟨_, rfl⟩
      obtain ⟨S, hS⟩ : ∃ S, S = isort ltB ((L.take i).drop a) := ⟨_, rfl⟩
      have hSl : S.length = i - a := by rw [hS, isort_length]; simp; omega
      have HS := Lib.hid hS
      have HX := Lib.hid hx
      have hb2 : Hid (blk wr g = some (rowC bn (L.take a ++ (S ++ [x]) ++ L.drop (i + 1)) ++ sp).toArray) := Lib.hid (by
        have := hbi.out
        rw [← hS, List.drop_eq_getElem_cons (by omega : i < L.length), ← hx] at this
        simpa using this)
      have KEY : Hid (∀ A B, A ++ B = S → (∀ z ∈ B, ltB x z = true) → (∀ z, A.getLast? = some z → ltB x z = false) → isort ltB ((L.take (i + 1)).drop a) = A ++ x :: B) := Lib.hid (by
        intro A B h1 h2 h3
        have e : (L.take (i + 1)).drop a = (L.take i).drop a ++ [x] := by
          rw [List.take_succ_eq_append_getElem (by omega), List.drop_append_of_le_length (by simp; omega), ← hx]
        rw [e, isort_snoc, ← hS, ← h1]
        exact insR_mid ltB x A B h2 h3)
      clear hbi hS hx
      go_wp2
      go_loopw [9] (fun vj wr2 => ∃ S1 S2 : List Bn, vj = .int .i64 ((a + S1.length : Nat) : Int) ∧ S1.length ≤ i - a ∧ w.grownBy wr2 (some g) ∧ Hid (S1 ++ S2 = S ∧ (∀ y ∈ S2, ltB x y = true) ∧ blk wr2 g = some (rowC bn (L.take a ++ (S1 ++ x :: S2) ++ L.drop (i + 1)) ++ sp).toArray)) (fun vj _ => (intOf vj).toNat)
      case atStart => exact ⟨S, [], by rw [hSl]; go_num, by omega, hgr, Lib.hid ⟨by simp, by simp, hb2.out⟩⟩
      case round =>
        clear hgr hb2
        obtain ⟨S1, S2, rfl, hS1, hgr, HQ⟩ := hrel
        rcases List.eq_nil_or_concat S1 with rfl | ⟨S1, y, rfl⟩
        · have e0 : a + ([] : List Bn).length = a := rfl
          rw [e0]
          have t1 : decide ((a : Int) < (a : Int)) = false := decide_eq_false (by omega)
          have l0 : ¬ ((a : Int) < (a : Int)) := by omega
          go_wp2_with fail
          refine wp_region_in (by kernel_rfl) (by kernel_rfl) ?_
          intro W0 hE hN
          have q1 : blk W0 g = some (rowC bn (L.take a ++ (x :: S2) ++ L.drop (i + 1)) ++ sp).toArray := (by rw [hE.out]; exact HQ.out.2.2)
          have q2 : w.grownBy W0 (some g) := (by rw [hE.out]; exact hgr)
          clear hE
          repeat (go_big_quiet_step (fail))
          refine wpQuiet_nil ?_
          rintro _ ⟨x', rfl⟩
          have hbM2 := blk_below x'.ok q1
          have hgr2 := grown_below q2 x'.ok
          obtain ⟨u, hu⟩ : ∃ u, u = x'.wd := ⟨_, rfl⟩
          rw [← hu] at hbM2 hgr2 ⊢
          clear hu x' q1 q2 hN
          go_wp2
          go_roundw
          case rel => exact ⟨i + 1, by go_num, by omega, by omega, hgr2, Lib.hid (by rw [KEY.out [] S2 HQ.out.1 HQ.out.2.1 (fun z hz => by simp at hz)]; exact hbM2)⟩
          case measure => simp [intOf]; omega
        · rw [List.concat_eq_append] at HQ hS1 ⊢
          rw [List.length_append, List.length_singleton] at hS1 ⊢
          obtain ⟨j, hj⟩ : ∃ j, j = a + S1.length := ⟨_, rfl⟩
          obtain ⟨k, hk⟩ : ∃ k, k = j + 1 := ⟨_, rfl⟩
          rw [← Nat.add_assoc, ← hj, ← hk]
          have hja : a ≤ j := by omega
          have hji : k ≤ i := by omega
          have t1 : decide ((a : Int) < (k : Int)) = true := decide_eq_true (by omega)
          have l0 : (a : Int) < (k : Int) := by omega
          have l1 : (k : Int) < (L.length : Int) := by omega
          have l2 : (j : Int) < (L.length : Int) := by omega
          have m1 : IntKind.i64.wrap ((k : Int) - 1) = j := (IntWalk.i64_in _ (by omega)).trans (by omega)
          obtain ⟨M, hM⟩ : ∃ M, M = L.take a ++ ((S1 ++ [y]) ++ x :: S2) ++ L.drop (i + 1) := ⟨_, rfl⟩
          have hSS := HQ.out.1
          have lSS : S1.length + 1 + S2.length = i - a := by have := congrArg List.length hSS; simp at this; omega
          have lta : (L.take a).length = a := by simp; omega
          have lM : M.length = L.length := by rw [hM]; simp; omega
          have hkA : (L.take a).length + S1.length + 1 = k := by omega
          have hjA : (L.take a).length + S1.length = j := by omega
          have hMx : M[k]? = some x := by rw [hM, ← hkA]; exact nb_x _ _ _ _ _ _
          have hMy : M[j]? = some y := by rw [hM, ← hjA]; exact nb_y _ _ _ _ _ _
          have hbM : blk wr g = some (rowC bn M ++ sp).toArray := by rw [hM]; exact HQ.out.2.2
          have hsw : (M.set k y).set j x = L.take a ++ (S1 ++ x :: (y :: S2)) ++ L.drop (i + 1) := by rw [hM, ← hkA, ← hjA]; exact nb_swap _ _ _ _ _ _
          obtain ⟨c, hc⟩ : ∃ c, cmpB x y = c := ⟨_, rfl⟩
          have Hy : BnI y := (by
            have h1 : y ∈ S := by rw [← HQ.out.1]; simp
            rw [HS.out] at h1
            exact HI.out y (List.mem_of_mem_take (List.mem_of_mem_drop ((isort_perm ltB _).mem_iff.1 h1))))
          have Hx : BnI x := (by rw [HX.out]; exact HI.out _ (List.getElem_mem _))
          have gc : ∀ w, Calls Tryd.prog 56 #[.agg (bn x).toArray, .agg (bn y).toArray] w fun e w' => e = .returned (.int .i64 c) ∧ Below w.heap.size w w' := fun w => by rw [← hc]; exact bcmp_any x y Hx Hy w
          replace gc := Lib.hid gc
          have HC := Lib.hid hc
          have HM := Lib.hid hM
          have HSW := Lib.hid hsw
          have LM := Lib.hid lM
          have HJ := Lib.hid hj
          have HK := Lib.hid hk
          clear hj hk hkA hjA hc hM hsw hSS lSS lta lM Hx Hy
          by_cases hc0 : c < 0
          · have tc : decide (c < 0) = true := decide_eq_true hc0
            go_wp2_with fail
            (refine wp_region_in (by kernel_rfl) (by kernel_rfl) ?_); (intro W0 hE hN); (have q1 : blk W0 g = some (rowC bn M ++ sp).toArray := (by rw [hE.out]; exact hbM)); (have q2 : w.grownBy W0 (some g) := (by rw [hE.out]; exact hgr)); clear hE; (have r1 := range_row bn_len q1 hMx); (have r2 := range_row bn_len q1 hMy); (have gl := blk_lt q1); (refine wpQuiet_split 8 ?_); (simp only [List.take_succ_cons, List.take_zero, List.drop_succ_cons, List.drop_zero]); (repeat (go_big_quiet_step (fail))); (refine wpQuiet_nil ?_); (refine wpQuiet_load_range 81 (.tmp 25) g (k * 9) (bn x) (fun W hW => by obtain ⟨x', rfl⟩ := hW; exact range_below gl r1 x'.ok) _ (by kernel_rfl) rfl (by kernel_rfl) Tryd.underlying81 rfl (by kernel_rfl) ?_); (conv => arg 6; simp [Act.put]); (refine wpQuiet_split 4 ?_); (simp only [List.take_succ_cons, List.take_zero, List.drop_succ_cons, List.drop_zero]); (repeat (go_big_quiet_step (fail))); (refine wpQuiet_nil ?_); (refine wpQuiet_load_range 81 (.tmp 30) g (j * 9) (bn y) (fun W hW => by obtain ⟨x', rfl⟩ := hW; exact range_below gl r2 x'.ok) _ (by kernel_rfl) rfl (by kernel_rfl) Tryd.underlying81 rfl (by kernel_rfl) ?_); (conv => arg 6; simp [Act.put]); (repeat (go_big_quiet_step ((go_at_call 56; (with_reducible refine Class.go _ (gc.out _)))))); (refine wpQuiet_nil ?_); (rintro _ ⟨x', rfl⟩); (have hbM2 := blk_below x'.ok q1); (have hgr2 := grown_below q2 x'.ok); (obtain ⟨u, hu⟩ : ∃ u, u = x'.wd := ⟨_, rfl⟩); (rw [← hu] at hbM2 hgr2 ⊢); clear hu x' r1 r2 gl q1 q2 hN
            have hk1 : k < M.length := by rw [LM.out]; omega
            have hj1 : j < M.length := by rw [LM.out]; omega
            have hsz : M.length * 9 ≤ ((rowC bn M ++ sp).toArray).size := by simp [rowC_length bn_len]
            go_wp2_with fail
            refine wp_region_held_drew (S := fun _ => True) (by kernel_rfl) trivial (fun _ => ?_)
            obtain ⟨d0, ed0⟩ : ∃ v, v = u.drew := ⟨_, rfl⟩
            have kd : blk d0 g = some (rowC bn M ++ sp).toArray := (by rw [ed0]; exact blk_drew hbM2)
            have hgr3 : Hid (w.grownBy d0 (some g)) := Lib.hid (by rw [ed0]; exact grown_drew hgr2)
            rw [← ed0]
            clear ed0 hgr hgr2 hbM2 hbM
            have rX := range_row bn_len kd hMx
            have rY := range_row bn_len kd hMy
            have th1 : d0.there g (k * 9) (bn y).toArray.size := there_of_blk kd (by show k * 9 + 9 ≤ _; omega)
            have hsz2 : M.length * 9 ≤ ((rowC bn (M.set k y) ++ sp).toArray).size := by simp [rowC_length bn_len]
            clear hMx hMy
            have hTr : True := trivial
            refine wpAnyH_take (i := 0) (oi := _) (v := ?_) rfl (by kernel_rfl) (by kernel_rfl) (by kernel_rfl) (fun _ _ _ h => h) (Or.inl ⟨by rfl, ?_⟩) (by assumption) ?_
            rotate_left
            · (intro W hSw; (try dsimp only at hSw); go_simp; (try with_reducible rfl))
            (try simp only [Act.put, List.setIfInBounds_toArray, List.set_cons_zero, List.set_cons_succ, List.getElem_toArray, List.getElem_cons_succ, List.getElem_cons_zero])
            refine wpAnyH_take (i := 1) (oi := _) (v := ?_) rfl (by kernel_rfl) (by kernel_rfl) (by kernel_rfl) (fun _ _ _ h => h) (Or.inl ⟨by rfl, ?_⟩) (by assumption) ?_
            rotate_left
            · (intro W hSw; (try dsimp only at hSw); go_simp; (try with_reducible rfl))
            (try simp only [Act.put, List.setIfInBounds_toArray, List.set_cons_zero, List.set_cons_succ, List.getElem_toArray, List.getElem_cons_succ, List.getElem_cons_zero])
            refine wpAnyH_take (i := 2) (oi := _) (v := ?_) rfl (by kernel_rfl) (by kernel_rfl) (by kernel_rfl) (fun _ _ _ h => h) (Or.inl ⟨by rfl, ?_⟩) (by assumption) ?_
            rotate_left
            · (intro W hSw; (try dsimp only at hSw); go_simp; (try with_reducible rfl))
            (try simp only [Act.put, List.setIfInBounds_toArray, List.set_cons_zero, List.set_cons_succ, List.getElem_toArray, List.getElem_cons_succ, List.getElem_cons_zero])
            refine wpAnyH_take (i := 3) (oi := _) (v := ?_) rfl (by kernel_rfl) (by kernel_rfl) (by kernel_rfl) (fun _ _ _ h => h) (Or.inl ⟨by rfl, ?_⟩) (by assumption) ?_
            rotate_left
            · (intro W hSw; (try dsimp only at hSw); go_simp; (try with_reducible rfl))
            (try simp only [Act.put, List.setIfInBounds_toArray, List.set_cons_zero, List.set_cons_succ, List.getElem_toArray, List.getElem_cons_succ, List.getElem_cons_zero])
            refine wpAnyH_take (i := 4) (oi := _) (v := ?_) rfl (by kernel_rfl) (by kernel_rfl) (by kernel_rfl) (fun _ _ _ h => h) (Or.inl ⟨by rfl, ?_⟩) (by assumption) ?_
            rotate_left
            · (intro W hSw; (try dsimp only at hSw); go_simp; (try with_reducible rfl))
            (try simp only [Act.put, List.setIfInBounds_toArray, List.set_cons_zero, List.set_cons_succ, List.getElem_toArray, List.getElem_cons_succ, List.getElem_cons_zero])
            refine wpAnyH_take (i := 5) (oi := _) (v := ?_) rfl (by kernel_rfl) (by kernel_rfl) (by kernel_rfl) (fun _ _ _ h => h) (Or.inl ⟨by rfl, ?_⟩) (by assumption) ?_
            rotate_left
            · (intro W hSw; (try dsimp only at hSw); go_simp; (try with_reducible rfl))
            (try simp only [Act.put, List.setIfInBounds_toArray, List.set_cons_zero, List.set_cons_succ, List.getElem_toArray, List.getElem_cons_succ, List.getElem_cons_zero])
            refine wpAnyH_take (i := 6) (oi := _) (v := ?_) rfl (by kernel_rfl) (by kernel_rfl) (by kernel_rfl) (fun _ _ _ h => h) (Or.inl ⟨by rfl, ?_⟩) (by assumption) ?_
            rotate_left
            · (intro W hSw; (try dsimp only at hSw); go_simp; (try with_reducible rfl))
            (try simp only [Act.put, List.setIfInBounds_toArray, List.set_cons_zero, List.set_cons_succ, List.getElem_toArray, List.getElem_cons_succ, List.getElem_cons_zero])
            refine wpAnyH_take (i := 7) (oi := _) (v := ?_) rfl (by kernel_rfl) (by kernel_rfl) (by kernel_rfl) (fun _ _ _ h => h) (Or.inl ⟨by rfl, ?_⟩) (by assumption) ?_
            rotate_left
            · (intro W hSw; (try dsimp only at hSw); go_simp; (try with_reducible rfl))
            (try simp only [Act.put, List.setIfInBounds_toArray, List.set_cons_zero, List.set_cons_succ, List.getElem_toArray, List.getElem_cons_succ, List.getElem_cons_zero])
            refine wpAnyH_take (i := 8) (oi := _) (v := ?_) rfl (by kernel_rfl) (by kernel_rfl) (by kernel_rfl) (fun _ _ _ h => h) (Or.inl ⟨by rfl, ?_⟩) (by assumption) ?_
            rotate_left
            · (intro W hSw; (try dsimp only at hSw); go_simp; (try with_reducible rfl))
            (try simp only [Act.put, List.setIfInBounds_toArray, List.set_cons_zero, List.set_cons_succ, List.getElem_toArray, List.getElem_cons_succ, List.getElem_cons_zero])
            refine wpAnyH_take (i := 10) (oi := _) (v := ?_) rfl (by kernel_rfl) (by kernel_rfl) (by kernel_rfl) (fun _ _ _ h => h) (Or.inl ⟨by rfl, ?_⟩) (by assumption) ?_
            rotate_left
            · (intro W hSw; (try dsimp only at hSw); go_simp; (try with_reducible rfl))
            (try simp only [Act.put, List.setIfInBounds_toArray, List.set_cons_zero, List.set_cons_succ, List.getElem_toArray, List.getElem_cons_succ, List.getElem_cons_zero])
            refine wpAnyH_take (i := 11) (oi := _) (v := ?_) rfl (by kernel_rfl) (by kernel_rfl) (by kernel_rfl) (fun _ _ _ h => h) (Or.inl ⟨by rfl, ?_⟩) (by assumption) ?_
            rotate_left
            · (intro W hSw; (try dsimp only at hSw); go_simp; (try with_reducible rfl))
            (try simp only [Act.put, List.setIfInBounds_toArray, List.set_cons_zero, List.set_cons_succ, List.getElem_toArray, List.getElem_cons_succ, List.getElem_cons_zero])
            refine wpAnyH_take (i := 12) (oi := _) (v := ?_) rfl (by kernel_rfl) (by kernel_rfl) (by kernel_rfl) (fun _ _ _ h => h) (Or.inl ⟨by rfl, ?_⟩) (by assumption) ?_
            rotate_left
            · (intro W hSw; (try dsimp only at hSw); go_simp; (try with_reducible rfl))
            (try simp only [Act.put, List.setIfInBounds_toArray, List.set_cons_zero, List.set_cons_succ, List.getElem_toArray, List.getElem_cons_succ, List.getElem_cons_zero])
            refine wpAnyH_ready (rs := [9, 13]) (by kernel_rfl) (by simp) ?_
            refine AllReadyH.cons rfl (fun K hK => ?_) ?_
            · skip
              rw [if_pos (by rfl)]
              refine wp_load_mid 81 (.tmp 45) rfl g (j * 9) rfl (bn y) _ rY Tryd.underlying81 rfl (by kernel_rfl) ?_
              refine hK.out _ _ trivial (fun _ => ?_)
              clear hK K
              (try simp only [Act.put, List.setIfInBounds_toArray, List.set_cons_zero, List.set_cons_succ, List.getElem_toArray, List.getElem_cons_succ, List.getElem_cons_zero])
              refine wpAnyH_ready (rs := [13]) (by kernel_rfl) (by simp) ?_
              refine AllReadyH.cons rfl (fun K hK => ?_) AllReadyH.nil
              rw [if_pos (by rfl)]
              refine wp_load_mid 81 (.tmp 49) rfl g (k * 9) rfl (bn x) _ rX Tryd.underlying81 rfl (by kernel_rfl) ?_
              refine hK.out _ _ trivial (fun _ => ?_)
              clear hK K
              (try simp only [Act.put, List.setIfInBounds_toArray, List.set_cons_zero, List.set_cons_succ, List.getElem_toArray, List.getElem_cons_succ, List.getElem_cons_zero])
              refine wpAnyH_take (i := 14) (oi := _) (v := ?_) rfl (by kernel_rfl) (by kernel_rfl) (by kernel_rfl) (fun _ _ _ h => h) (Or.inl ⟨by rfl, ?_⟩) (by assumption) ?_
              rotate_left
              · (intro W hSw; (try dsimp only at hSw); go_simp; (try with_reducible rfl))
              (try simp only [Act.put, List.setIfInBounds_toArray, List.set_cons_zero, List.set_cons_succ, List.getElem_toArray, List.getElem_cons_succ, List.getElem_cons_zero])
              refine wpAnyH_ready (rs := [15]) (by kernel_rfl) (by simp) ?_
              refine AllReadyH.cons rfl (fun K hK => ?_) AllReadyH.nil
              rw [if_pos (by rfl)]
              refine wp_store_mid 81 (.tmp 51) (.tmp 46) rfl g (k * 9) (bn y).toArray rfl rfl th1 (by kernel_rfl) (by kernel_rfl) ?_
              obtain ⟨d1, ed1⟩ : ∃ v, v = d0.setCells g (k * 9) (bn y).toArray.toList := ⟨_, rfl⟩
              have kd2 : blk d1 g = some (rowC bn (M.set k y) ++ sp).toArray := (by rw [ed1]; exact (blk_setCells (bn y) (k * 9) _ _ kd).trans (congrArg some (setMid_row bn_len M k hk1 y sp)))
              have gr2 : w.grownBy d1 (some g) := (by rw [ed1]; exact grown_cells (bn y) (k * 9) _ hgr3.out)
              rw [← ed1]
              clear ed1
              have th2 : d1.there g (j * 9) (bn x).toArray.size := there_of_blk kd2 (by show j * 9 + 9 ≤ _; omega)
              refine hK.out _ _ trivial (fun _ => ?_)
              clear hK K
              (try simp only [Act.put, List.setIfInBounds_toArray, List.set_cons_zero, List.set_cons_succ, List.getElem_toArray, List.getElem_cons_succ, List.getElem_cons_zero])
              refine wpAnyH_take (i := 16) (oi := _) (v := ?_) rfl (by kernel_rfl) (by kernel_rfl) (by kernel_rfl) (fun _ _ _ h => h) (Or.inl ⟨by rfl, ?_⟩) (by assumption) ?_
              rotate_left
              · (intro W hSw; (try dsimp only at hSw); go_simp; (try with_reducible rfl))
              (try simp only [Act.put, List.setIfInBounds_toArray, List.set_cons_zero, List.set_cons_succ, List.getElem_toArray, List.getElem_cons_succ, List.getElem_cons_zero])
              refine wpAnyH_ready (rs := [17]) (by kernel_rfl) (by simp) ?_
              refine AllReadyH.cons rfl (fun K hK => ?_) AllReadyH.nil
              rw [if_pos (by rfl)]
              refine wp_store_mid 81 (.tmp 52) (.tmp 50) rfl g (j * 9) (bn x).toArray rfl rfl th2 (by kernel_rfl) (by kernel_rfl) ?_
              obtain ⟨d2, ed2⟩ : ∃ v, v = d1.setCells g (j * 9) (bn x).toArray.toList := ⟨_, rfl⟩
              have kd3 : blk d2 g = some (rowC bn (L.take a ++ (S1 ++ x :: (y :: S2)) ++ L.drop (i + 1)) ++ sp).toArray := (by rw [ed2, ← HSW.out]; exact (blk_setCells (bn x) (j * 9) _ _ kd2).trans (congrArg some (setMid_row bn_len (M.set k y) j (by simpa using hj1) x sp)))
              have gr3 : w.grownBy d2 (some g) := (by rw [ed2]; exact grown_cells (bn x) (j * 9) _ gr2)
              rw [← ed2]
              clear ed2
              replace kd3 := Lib.hid kd3
              replace gr3 := Lib.hid gr3
              clear kd2 gr2 th2 kd th1 rX rY
              refine hK.out _ _ trivial (fun _ => ?_)
              clear hK K
              (try simp only [Act.put, List.setIfInBounds_toArray, List.set_cons_zero, List.set_cons_succ, List.getElem_toArray, List.getElem_cons_succ, List.getElem_cons_zero])
              refine wpAnyH_done (by kernel_rfl) ?_ _
              go_wp2
              go_roundw
              case rel => exact ⟨S1, y :: S2, by rw [HJ.out], by omega, gr3.out, Lib.hid ⟨by rw [← HQ.out.1]; simp, fun z hz => by rcases List.mem_cons.1 hz with rfl | hz; exact (by rw [ltB_eq, HC.out]; exact tc); exact HQ.out.2.1 z hz, kd3.out⟩⟩
              case measure => have := HJ.out; have := HK.out; simp [intOf]; omega
            refine AllReadyH.cons rfl (fun K hK => ?_) AllReadyH.nil
            rw [if_pos (by rfl)]
            refine wp_load_mid 81 (.tmp 49) rfl g (k * 9) rfl (bn x) _ rX Tryd.underlying81 rfl (by kernel_rfl) ?_
            refine hK.out _ _ trivial (fun _ => ?_)
            clear hK K
            (try simp only [Act.put, List.setIfInBounds_toArray, List.set_cons_zero, List.set_cons_succ, List.getElem_toArray, List.getElem_cons_succ, List.getElem_cons_zero])
            refine wpAnyH_ready (rs := [9]) (by kernel_rfl) (by simp) ?_
            refine AllReadyH.cons rfl (fun K hK => ?_) AllReadyH.nil
            rw [if_pos (by rfl)]
            refine wp_load_mid 81 (.tmp 45) rfl g (j * 9) rfl (bn y) _ rY Tryd.underlying81 rfl (by kernel_rfl) ?_
            refine hK.out _ _ trivial (fun _ => ?_)
            clear hK K
            (try simp only [Act.put, List.setIfInBounds_toArray, List.set_cons_zero, List.set_cons_succ, List.getElem_toArray, List.getElem_cons_succ, List.getElem_cons_zero])
            refine wpAnyH_take (i := 14) (oi := _) (v := ?_) rfl (by kernel_rfl) (by kernel_rfl) (by kernel_rfl) (fun _ _ _ h => h) (Or.inl ⟨by rfl, ?_⟩) (by assumption) ?_
            rotate_left
            · (intro W hSw; (try dsimp only at hSw); go_simp; (try with_reducible rfl))
            (try simp only [Act.put, List.setIfInBounds_toArray, List.set_cons_zero, List.set_cons_succ, List.getElem_toArray, List.getElem_cons_succ, List.getElem_cons_zero])
            refine wpAnyH_ready (rs := [15]) (by kernel_rfl) (by simp) ?_
            refine AllReadyH.cons rfl (fun K hK => ?_) AllReadyH.nil
            rw [if_pos (by rfl)]
            refine wp_store_mid 81 (.tmp 51) (.tmp 46) rfl g (k * 9) (bn y).toArray rfl rfl th1 (by kernel_rfl) (by kernel_rfl) ?_
            obtain ⟨d1, ed1⟩ : ∃ v, v = d0.setCells g (k * 9) (bn y).toArray.toList := ⟨_, rfl⟩
            have kd2 : blk d1 g = some (rowC bn (M.set k y) ++ sp).toArray := (by rw [ed1]; exact (blk_setCells (bn y) (k * 9) _ _ kd).trans (congrArg some (setMid_row bn_len M k hk1 y sp)))
            have gr2 : w.grownBy d1 (some g) := (by rw [ed1]; exact grown_cells (bn y) (k * 9) _ hgr3.out)
            rw [← ed1]
            clear ed1
            have th2 : d1.there g (j * 9) (bn x).toArray.size := there_of_blk kd2 (by show j * 9 + 9 ≤ _; omega)
            refine hK.out _ _ trivial (fun _ => ?_)
            clear hK K
            (try simp only [Act.put, List.setIfInBounds_toArray, List.set_cons_zero, List.set_cons_succ, List.getElem_toArray, List.getElem_cons_succ, List.getElem_cons_zero])
            refine wpAnyH_take (i := 16) (oi := _) (v := ?_) rfl (by kernel_rfl) (by kernel_rfl) (by kernel_rfl) (fun _ _ _ h => h) (Or.inl ⟨by rfl, ?_⟩) (by assumption) ?_
            rotate_left
            · (intro W hSw; (try dsimp only at hSw); go_simp; (try with_reducible rfl))
            (try simp only [Act.put, List.setIfInBounds_toArray, List.set_cons_zero, List.set_cons_succ, List.getElem_toArray, List.getElem_cons_succ, List.getElem_cons_zero])
            refine wpAnyH_ready (rs := [17]) (by kernel_rfl) (by simp) ?_
            refine AllReadyH.cons rfl (fun K hK => ?_) AllReadyH.nil
            rw [if_pos (by rfl)]
            refine wp_store_mid 81 (.tmp 52) (.tmp 50) rfl g (j * 9) (bn x).toArray rfl rfl th2 (by kernel_rfl) (by kernel_rfl) ?_
            obtain ⟨d2, ed2⟩ : ∃ v, v = d1.setCells g (j * 9) (bn x).toArray.toList := ⟨_, rfl⟩
            have kd3 : blk d2 g = some (rowC bn (L.take a ++ (S1 ++ x :: (y :: S2)) ++ L.drop (i + 1)) ++ sp).toArray := (by rw [ed2, ← HSW.out]; exact (blk_setCells (bn x) (j * 9) _ _ kd2).trans (congrArg some (setMid_row bn_len (M.set k y) j (by simpa using hj1) x sp)))
            have gr3 : w.grownBy d2 (some g) := (by rw [ed2]; exact grown_cells (bn x) (j * 9) _ gr2)
            rw [← ed2]
            clear ed2
            replace kd3 := Lib.hid kd3
            replace gr3 := Lib.hid gr3
            clear kd2 gr2 th2 kd th1 rX rY
            refine hK.out _ _ trivial (fun _ => ?_)
            clear hK K
            (try simp only [Act.put, List.setIfInBounds_toArray, List.set_cons_zero, List.set_cons_succ, List.getElem_toArray, List.getElem_cons_succ, List.getElem_cons_zero])
            refine wpAnyH_done (by kernel_rfl) ?_ _
            go_wp2
            go_roundw
            case rel => exact ⟨S1, y :: S2, by rw [HJ.out], by omega, gr3.out, Lib.hid ⟨by rw [← HQ.out.1]; simp, fun z hz => by rcases List.mem_cons.1 hz with rfl | hz; exact (by rw [ltB_eq, HC.out]; exact tc); exact HQ.out.2.1 z hz, kd3.out⟩⟩
            case measure => have := HJ.out; have := HK.out; simp [intOf]; omega
          · have tc : decide (c < 0) = false := decide_eq_false hc0
            go_wp2_with fail
            (refine wp_region_in (by kernel_rfl) (by kernel_rfl) ?_); (intro W0 hE hN); (have q1 : blk W0 g = some (rowC bn M ++ sp).toArray := (by rw [hE.out]; exact hbM)); (have q2 : w.grownBy W0 (some g) := (by rw [hE.out]; exact hgr)); clear hE; (have r1 := range_row bn_len q1 hMx); (have r2 := range_row bn_len q1 hMy); (have gl := blk_lt q1); (refine wpQuiet_split 8 ?_); (simp only [List.take_succ_cons, List.take_zero, List.drop_succ_cons, List.drop_zero]); (repeat (go_big_quiet_step (fail))); (refine wpQuiet_nil ?_); (refine wpQuiet_load_range 81 (.tmp 25) g (k * 9) (bn x) (fun W hW => by obtain ⟨x', rfl⟩ := hW; exact range_below gl r1 x'.ok) _ (by kernel_rfl) rfl (by kernel_rfl) Tryd.underlying81 rfl (by kernel_rfl) ?_); (conv => arg 6; simp [Act.put]); (refine wpQuiet_split 4 ?_); (simp only [List.take_succ_cons, List.take_zero, List.drop_succ_cons, List.drop_zero]); (repeat (go_big_quiet_step (fail))); (refine wpQuiet_nil ?_); (refine wpQuiet_load_range 81 (.tmp 30) g (j * 9) (bn y) (fun W hW => by obtain ⟨x', rfl⟩ := hW; exact range_below gl r2 x'.ok) _ (by kernel_rfl) rfl (by kernel_rfl) Tryd.underlying81 rfl (by kernel_rfl) ?_); (conv => arg 6; simp [Act.put]); (repeat (go_big_quiet_step ((go_at_call 56; (with_reducible refine Class.go _ (gc.out _)))))); (refine wpQuiet_nil ?_); (rintro _ ⟨x', rfl⟩); (have hbM2 := blk_below x'.ok q1); (have hgr2 := grown_below q2 x'.ok); (obtain ⟨u, hu⟩ : ∃ u, u = x'.wd := ⟨_, rfl⟩); (rw [← hu] at hbM2 hgr2 ⊢); clear hu x' r1 r2 gl q1 q2 hN
            go_wp2
            go_roundw
            case rel => exact ⟨i + 1, by go_num, by omega, by omega, hgr2, Lib.hid (by rw [KEY.out (S1 ++ [y]) S2 HQ.out.1 HQ.out.2.1 (fun z hz => by simp at hz; subst hz; rw [ltB_eq, HC.out]; exact tc), ← HM.out]; exact hbM2)⟩
            case measure => simp [intOf]; omega
    · obtain rfl : i = b := by omega
      go_wp2
      go_end0
      exact ⟨rfl, hgr, hbi.out⟩
end Go.Proofs.YtahopnlibmiafaaDoor

