/- Parts of a proof, printed by a program of mine out of my texts: RpAsp, RpRCo. -/
import Derived.OrdersHeld
import Derived.Deep.RegionHeld
import Derived.Deep.Cut
import Derived.Deep.CutRange
import Derived.Test.YthfmkkkdjgkaoaaDoorMH
import Derived.Test.YthfmkkkdjgkaoaaDoorMI
import Derived.Test.YthfmkkkdjgkaoaaDoorMK
import Derived.Test.YthfmkkkdjgkaoaaDoorML
set_option linter.unusedSimpArgs false
set_option linter.unusedVariables false
namespace Go.Proofs.YthfmkkkdjgkaoaaDoor
open Go.RowKit
theorem wp_append_noneI {P : Program} {w : World} {o : Oper} {a : Act} {K : Act → World → Prop} {Q : Exit → Act → World → Prop} (s x : Operand) (t : TypeId)
    (ho : o.op = .call { callee := .builtin .append, args := #[s, x], argTypes := #[t, t] })
    (base : Nat) (e : TypeId) (i : TypeInfo) (size : Nat) (ht : P.underlying t = some (.slice e)) (hi : P.info? e = some i)
    (v : Value) (n : Nat) (xs : List Value) (hs : a.eval s = v) (hown : w.ownsRow base e size v n xs) (hx : a.eval x = .slice none 0 0)
    (h : K (a.put o.dst v) w) : o.wp P a w K Q := by
  have hrun := run_append_owned_none (P := P) (w := w) base t o.type e i size ht hi v n xs hown
  unfold Oper.wp
  simp [execOp, ho, resolve, invoke, builtin, hs, hx, hrun, Result.andThen]
  exact h
theorem irow_head {cur : Array Value} {L A B : List Int} (h : cur.toList.take (L.length * 1) = rowC ic L) (hL : L = A ++ B) {j : Nat} {u : Value} (hj : (rowC ic A)[j]? = some u) : cur[j]? = some u := by
  have h2 : (rowC ic L)[j]? = some u := by rw [hL, rowC_append, List.getElem?_append_left (List.getElem?_eq_some_iff.1 hj).1]; exact hj
  rw [← h, List.getElem?_take] at h2
  split at h2
  · simpa using h2
  · cases h2
theorem irow_tail {cur : Array Value} {L A B : List Int} (h : cur.toList.take (L.length * 1) = rowC ic L) (hL : L = A ++ B) {j : Nat} {u : Value} (hj : (rowC ic B)[j]? = some u) : cur[A.length + j]? = some u := by
  have e : (rowC ic A).length = A.length := by rw [rowC_length ic_len]; omega
  have h2 : (rowC ic L)[A.length + j]? = some u := by rw [hL, rowC_append, List.getElem?_append_right (by omega), e, show A.length + j - A.length = j by omega]; exact hj
  rw [← h, List.getElem?_take] at h2
  split at h2
  · simpa using h2
  · cases h2
set_option maxRecDepth 100000 in
set_option maxHeartbeats 6400000 in
theorem ascend_any (base : Nat) (v : Value) (M : List Int) (n : Int) (hl : M.length ≤ 100000) (w : World) (ho : w.ownsRow base 3 1 v (ascO M).length (rowC ic (ascO M))) :
    Calls Tryd.prog 42 #[v, .int .i64 n] w fun e w' => OwnR ic 1 3 (ascO (M ++ [n])) w e w' := by
  obtain ⟨i0, hi, hz0, hz1, hz2⟩ := info_parts infoIn
  have Hi := Lib.hid hi; have Hz0 := Lib.hid hz0; have Hz1 := Lib.hid hz1; have Hz2 := Lib.hid hz2
  clear hi hz0 hz1 hz2
  have hal : (ascO M).length ≤ 100000 := by rw [ascO_len]; exact hl
  have KEY : ∀ k, k ≤ (ascO M).length → (∀ j (h : j < k) (h2 : j < (ascO M).length), (ascO M)[j] ≤ n) → (∀ h : k < (ascO M).length, n < (ascO M)[k]) → (ascO M).take k ++ n :: (ascO M).drop k = ascO (M ++ [n]) := fun k hk h1 h2 => ascO_put hk (fun j h => h1 j h (by omega)) h2
  obtain ⟨LL, hLL⟩ : ∃ L, ascO M = L := ⟨_, rfl⟩
  rw [hLL] at ho hal KEY
  have KEYI := Lib.hid KEY
  clear KEY hLL hl
  obtain ⟨a, co, rfl, hS, hdo⟩ := srow_of_owns ic_len ho
  have HSO := Lib.hid hS
  have HDO := Lib.hid hdo
  have hco := hS.1
  have hmo := hS.2.1
  unfold maxLen at hmo
  clear hS hdo ho
  go_enter Tryd.func42, Tryd.ntmps42
  go_wp2
  go_loopw [5] (fun s5 wr => ∃ k : Nat, s5 = .int .i64 k ∧ k ≤ LL.length ∧ Below w.heap.size w wr ∧ Hid (∀ j (h : j < k) (h2 : j < LL.length), LL[j] ≤ n)) (fun s5 _ => LL.length - (intOf s5).toNat)
  case atStart => exact ⟨0, rfl, Nat.zero_le _, Below.refl _ _, Lib.hid (fun j h => absurd h (by omega))⟩
  case round =>
    obtain ⟨k, rfl, hk, hBV, HM⟩ := hrel
    by_cases hlt : k < LL.length
    · have hltz : (k : Int) < (LL.length : Int) := by omega
      have hc : ∃ b off, a = some ⟨b, off, none⟩ ∧ wr.cell? ⟨b, off + k, none⟩ = some (.int .i64 LL[k]) := by
        obtain ⟨b, off, e, _, hcs⟩ := (HSO.out.below hBV).2.2.2 (by omega)
        have h9 := hcs k hlt 0 _ rfl
        exact ⟨b, off, e, by simpa using h9⟩
      obtain ⟨x, hx⟩ : ∃ x, LL[k] = x := ⟨_, rfl⟩
      rw [hx] at hc
      have HX := Lib.hid hx
      clear hx
      by_cases hle : x ≤ n
      · have t1 : decide (x ≤ n) = true := decide_eq_true hle
        have hM2 : Hid (∀ j (h : j < k + 1) (h2 : j < LL.length), LL[j] ≤ n) := Lib.hid (fun j h h2 => by
          rcases Nat.lt_or_ge j k with h3 | h3
          · exact HM.out j h3 h2
          · obtain rfl : j = k := by omega
            rw [HX.out]; exact hle)
        obtain ⟨b, off, rfl, hc⟩ := hc
        clear hle HM HX
        go_wp2
        go_roundw
        case rel => exact ⟨k + 1, by go_num, by omega, hBV, hM2⟩
        case measure => simp [intOf]; omega
      · have t1 : decide (x ≤ n) = false := decide_eq_false hle
        have NEXT := Lib.hid (KEYI.out k hk HM.out (fun _ => by rw [HX.out]; omega))
        clear HX HM hle
        rcases HDO.out with ⟨rfl, hnil⟩ | ⟨g, cur, rfl, _, hbg, hcs, hct⟩
        · obtain ⟨_, _, e, _⟩ := hc; cases e
        · obtain ⟨b, off, e, hc⟩ := hc
          cases e
          rw [Nat.zero_add] at hc
          by_cases hkc : k = co
          · subst hkc
            have kgU := blk_below hBV hbg
            have HCT := Lib.hid hct
            have TKL : Hid ((LL.take k).length = k) := Lib.hid (by rw [List.length_take]; omega)
            have TD : Hid (LL = LL.take k ++ LL.drop k) := Lib.hid (List.take_append_drop k LL).symm
            have LD : Hid ((LL.drop k).length = 0) := Lib.hid (by rw [List.length_drop]; omega)
            have DK : Hid (LL.drop k = []) := Lib.hid (List.drop_of_length_le (by omega))
            clear hct hcs hbg
            go_upto_region 4 with fail
            refine wp_region_held_drew (S := fun W => True) (by kernel_rfl) trivial (fun hHeld => ?_)
            obtain ⟨U0, eU⟩ : ∃ v, v = wr.drew := ⟨_, rfl⟩
            have bU0 : Below w.heap.size w U0 := (by rw [eU]; exact hBV.drew)
            have cU0 : Below U0.heap.size U0 U0 := Below.refl _ _
            have sU := bU0.size
            have kg : blk U0 g = some cur := (by rw [eU]; exact blk_drew kgU)
            have gU := blk_lt kg
            clear kgU
            rw [← eU]
            clear eU hBV
            refine wpAnyH_take (i := 1) (oi := _) (v := ?_) rfl (by kernel_rfl) (by kernel_rfl) (by kernel_rfl) (fun _ _ _ h => h) (Or.inl ⟨by rfl, ?_⟩) (by assumption) ?_
            rotate_left
            focus (intro W hSw; (try dsimp only at hSw); go_simp; (try with_reducible rfl))
            (try simp only [Act.put, List.setIfInBounds_toArray, List.set_cons_zero, List.set_cons_succ, List.getElem_toArray, List.getElem_cons_succ, List.getElem_cons_zero])
            refine wpAnyH_take (i := 2) (oi := _) (v := ?_) rfl (by kernel_rfl) (by kernel_rfl) (by kernel_rfl) (fun _ _ _ h => h) (Or.inl ⟨by rfl, ?_⟩) (by assumption) ?_
            rotate_left
            focus (intro W hSw; (try dsimp only at hSw); go_simp; (try with_reducible rfl))
            (try simp only [Act.put, List.setIfInBounds_toArray, List.set_cons_zero, List.set_cons_succ, List.getElem_toArray, List.getElem_cons_succ, List.getElem_cons_zero])
            refine wpAnyH_take (i := 3) (oi := _) (v := ?_) rfl (by kernel_rfl) (by kernel_rfl) (by kernel_rfl) (fun _ _ _ h => h) (Or.inl ⟨by rfl, ?_⟩) (by assumption) ?_
            rotate_left
            focus (intro W hSw; (try dsimp only at hSw); go_simp; (try with_reducible rfl))
            (try simp only [Act.put, List.setIfInBounds_toArray, List.set_cons_zero, List.set_cons_succ, List.getElem_toArray, List.getElem_cons_succ, List.getElem_cons_zero])
            refine wpAnyH_take (i := 5) (oi := _) (v := ?_) rfl (by kernel_rfl) (by kernel_rfl) (by kernel_rfl) (fun _ _ _ h => h) (Or.inl ⟨by rfl, ?_⟩) (by assumption) ?_
            rotate_left
            focus (intro W hSw; (try dsimp only at hSw); go_simp; (try with_reducible rfl))
            (try simp only [Act.put, List.setIfInBounds_toArray, List.set_cons_zero, List.set_cons_succ, List.getElem_toArray, List.getElem_cons_succ, List.getElem_cons_zero])
            refine wpAnyH_take (i := 8) (oi := _) (v := ?_) rfl (by kernel_rfl) (by kernel_rfl) (by kernel_rfl) (fun _ _ _ h => h) (Or.inl ⟨by rfl, ?_⟩) (by assumption) ?_
            rotate_left
            focus (intro W hSw; (try dsimp only at hSw); go_simp; (try with_reducible rfl))
            (try simp only [Act.put, List.setIfInBounds_toArray, List.set_cons_zero, List.set_cons_succ, List.getElem_toArray, List.getElem_cons_succ, List.getElem_cons_zero])
            refine wpAnyH_take (i := 9) (oi := _) (v := ?_) rfl (by kernel_rfl) (by kernel_rfl) (by kernel_rfl) (fun _ _ _ h => h) (Or.inl ⟨by rfl, ?_⟩) (by assumption) ?_
            rotate_left
            focus (intro W hSw; (try dsimp only at hSw); go_simp; (try with_reducible rfl))
            (try simp only [Act.put, List.setIfInBounds_toArray, List.set_cons_zero, List.set_cons_succ, List.getElem_toArray, List.getElem_cons_succ, List.getElem_cons_zero])
            refine wpAnyH_take (i := 10) (oi := _) (v := ?_) rfl (by kernel_rfl) (by kernel_rfl) (by kernel_rfl) (fun _ _ _ h => h) (Or.inl ⟨by rfl, ?_⟩) (by assumption) ?_
            rotate_left
            focus (intro W hSw; (try dsimp only at hSw); go_simp; (try with_reducible rfl))
            (try simp only [Act.put, List.setIfInBounds_toArray, List.set_cons_zero, List.set_cons_succ, List.getElem_toArray, List.getElem_cons_succ, List.getElem_cons_zero])
            refine wpAnyH_ready (rs := [0, 6]) (by kernel_rfl) (by simp) ?_
            refine AllReadyH.cons rfl (fun K hK => ?_) ?_
            · skip
              go_simp
              refine hK.out _ _ trivial (fun _ => ?_)
              clear hK K
              (try simp only [Act.put, List.setIfInBounds_toArray, List.set_cons_zero, List.set_cons_succ, List.getElem_toArray, List.getElem_cons_succ, List.getElem_cons_zero])
              obtain ⟨V1, eV⟩ : ∃ v, v = U0.alloc (.cells #[] 3) := ⟨_, rfl⟩
              obtain ⟨n1, en⟩ : ∃ v, v = U0.heap.size := ⟨_, rfl⟩
              have bV1 : Below w.heap.size w V1 := (by rw [eV]; exact bU0.alloc bU0.size _)
              have cV1 : Below U0.heap.size U0 V1 := (by rw [eV]; exact cU0.alloc cU0.size _)
              have oV1 : V1.ownsRow n1 3 1 (.slice (some ⟨n1, 0, none⟩) 0 0) 0 [] := (by rw [eV, en]; exact own_emptyIn _ _)
              have l1 : U0.heap.size ≤ n1 := (by rw [en]; exact cU0.size)
              have u1 : n1 < V1.heap.size := (by rw [eV, en]; simp)
              rw [← eV, ← en]
              clear eV en
              refine wpAnyH_ready (rs := [4, 6]) (by kernel_rfl) (by simp) ?_
              refine AllReadyH.cons rfl (fun K hK => ?_) ?_
              · skip
                refine wp_append_own _ (.tmp 20) (.tmp 23) 31 rfl U0.heap.size 3 i0 (.int .i64 0) 1 8 Tryd.underlying31 Hi.out Hz0.out Hz1.out Hz2.out rfl (by decide) (.slice (some ⟨n1, 0, none⟩) 0 0) 0 [] rfl (owns_base oV1 l1) ⟨g, 0, none⟩ k k (rowC ic (LL.take k)) rfl (by rw [rowC_length ic_len, TKL.out]) (fun j' u hj' => (by rw [Addr.add_mid, Nat.zero_add, cV1.cell (p := ⟨g, j', none⟩) gU, blk_cell kg]; exact irow_head HCT.out TD.out hj')) (rowIn_one_cell _) (by unfold maxLen; omega) (by omega) cV1.size ?_
                intro v2 V2 ho hg5 _
                have bV2 : Below w.heap.size w V2 := bV1.grown hg5 bV1.size (fun k e => by have h9 := (oV1.lt k e).1; omega)
                have cV2 : Below U0.heap.size U0 V2 := cV1.grown hg5 cV1.size (fun k e => by have h9 := (oV1.lt k e).1; omega)
                have OV2 : V2.ownsRow U0.heap.size 3 1 v2 (LL.take k).length (rowC ic (LL.take k)) := (by have h9 := ho; rw [Nat.zero_add, List.nil_append] at h9; rw [TKL.out]; exact h9)
                refine hK.out _ _ trivial (fun _ => ?_)
                clear hK K
                (try simp only [Act.put, List.setIfInBounds_toArray, List.set_cons_zero, List.set_cons_succ, List.getElem_toArray, List.getElem_cons_succ, List.getElem_cons_zero])
                clear ho hg5
                refine wpAnyH_ready (rs := [6]) (by kernel_rfl) (by simp) ?_
                refine AllReadyH.cons rfl (fun K hK => ?_) AllReadyH.nil
                go_simp
                refine hK.out _ _ trivial (fun _ => ?_)
                clear hK K
                (try simp only [Act.put, List.setIfInBounds_toArray, List.set_cons_zero, List.set_cons_succ, List.getElem_toArray, List.getElem_cons_succ, List.getElem_cons_zero])
                obtain ⟨V3, eV⟩ : ∃ v, v = V2.alloc (.cells #[.int .i64 n] 3) := ⟨_, rfl⟩
                obtain ⟨n3, en⟩ : ∃ v, v = V2.heap.size := ⟨_, rfl⟩
                have bV3 : Below w.heap.size w V3 := (by rw [eV]; exact bV2.alloc bV2.size _)
                have cV3 : Below U0.heap.size U0 V3 := (by rw [eV]; exact cV2.alloc cV2.size _)
                have z3 : blk V3 n3 = some (ic n).toArray := (by rw [eV, en]; exact blk_alloc_new _ _ _ rfl)
                have l3 : U0.heap.size ≤ n3 := (by rw [en]; exact cV2.size)
                have u3 : n3 < V3.heap.size := (by rw [eV, en]; simp)
                have OV3 : V3.ownsRow U0.heap.size 3 1 _ (LL.take k).length (rowC ic (LL.take k)) := (by rw [eV]; exact OV2.alloc _)
                rw [← eV, ← en]
                clear eV en
                refine wpAnyH_ready (rs := [7]) (by kernel_rfl) (by simp) ?_
                refine AllReadyH.cons rfl (fun K hK => ?_) AllReadyH.nil
                refine wp_append_own _ (.tmp 24) (.tmp 26) 31 rfl U0.heap.size 3 i0 (.int .i64 0) 1 8 Tryd.underlying31 Hi.out Hz0.out Hz1.out Hz2.out rfl (by decide) _ (LL.take k).length (rowC ic (LL.take k)) rfl OV3 ⟨n3, 0, none⟩ 1 1 (ic n) rfl rfl (fun j' u hj' => (by rw [Addr.add_mid, Nat.zero_add, blk_cell z3]; simpa using hj')) (ic_one _) (by rw [TKL.out]; unfold maxLen; omega) (by rw [TKL.out]; omega) cV3.size ?_
                intro v4 V4 ho hg5 _
                have bV4 : Below w.heap.size w V4 := bV3.grown hg5 bV3.size (fun k e => by have h9 := (OV3.lt k e).1; omega)
                have cV4 : Below U0.heap.size U0 V4 := cV3.grown hg5 cV3.size (fun k e => (OV3.lt k e).1)
                refine hK.out _ _ trivial (fun _ => ?_)
                clear hK K
                (try simp only [Act.put, List.setIfInBounds_toArray, List.set_cons_zero, List.set_cons_succ, List.getElem_toArray, List.getElem_cons_succ, List.getElem_cons_zero])
                clear hg5
                refine wpAnyH_ready (rs := [11]) (by kernel_rfl) (by simp) ?_
                refine AllReadyH.cons rfl (fun K hK => ?_) AllReadyH.nil
                refine wp_append_own _ (.tmp 27) (.tmp 30) 31 rfl U0.heap.size 3 i0 (.int .i64 0) 1 8 Tryd.underlying31 Hi.out Hz0.out Hz1.out Hz2.out rfl (by decide) v4 ((LL.take k).length + 1) (rowC ic (LL.take k) ++ ic n) rfl ho ⟨g, 0, none⟩ 0 0 (rowC ic (LL.drop k)) rfl (by rw [rowC_length ic_len, LD.out]) (fun j' u hj' => by rw [DK.out] at hj'; simp [rowC] at hj') (rowIn_one_cell _) (by rw [TKL.out]; unfold maxLen; omega) (by rw [TKL.out]; omega) cV4.size ?_
                intro v5 V5 ho2 hg6 _
                have bV5 : Below w.heap.size w V5 := bV4.grown hg6 bV4.size (fun k e => by have h9 := (ho.lt k e).1; omega)
                refine hK.out _ _ trivial (fun _ => ?_)
                clear hK K
                (try simp only [Act.put, List.setIfInBounds_toArray, List.set_cons_zero, List.set_cons_succ, List.getElem_toArray, List.getElem_cons_succ, List.getElem_cons_zero])
                refine wpAnyH_take (i := 12) (oi := _) (v := ?_) rfl (by kernel_rfl) (by kernel_rfl) (by kernel_rfl) (fun _ _ _ h => h) (Or.inl ⟨by rfl, ?_⟩) (by assumption) ?_
                rotate_left
                focus (intro W hSw; (try dsimp only at hSw); go_simp; (try with_reducible rfl))
                (try simp only [Act.put, List.setIfInBounds_toArray, List.set_cons_zero, List.set_cons_succ, List.getElem_toArray, List.getElem_cons_succ, List.getElem_cons_zero])
                refine wpAnyH_done (by kernel_rfl) ?_ _
                have hN : Hid (V5.ownsRow w.heap.size 3 1 v5 (ascO (M ++ [n])).length (rowC ic (ascO (M ++ [n])))) := Lib.hid (by
                  have h9 := owns_base ho2 (show w.heap.size ≤ U0.heap.size from sU)
                  rw [← NEXT.out, show LL.take k ++ n :: LL.drop k = LL.take k ++ [n] ++ LL.drop k by simp, rowC_append, rowC_append, rowC_one, List.length_append, List.length_append, List.length_singleton, LD.out]
                  exact h9)
                have bN := bV5
                clear ho ho2 hg6
                go_wp2
                go_ret
                exact ⟨_, rfl, hN.out, bN⟩
              refine AllReadyH.cons rfl (fun K hK => ?_) AllReadyH.nil
              go_simp
              refine hK.out _ _ trivial (fun _ => ?_)
              clear hK K
              (try simp only [Act.put, List.setIfInBounds_toArray, List.set_cons_zero, List.set_cons_succ, List.getElem_toArray, List.getElem_cons_succ, List.getElem_cons_zero])
              obtain ⟨V6, eV⟩ : ∃ v, v = V1.alloc (.cells #[.int .i64 n] 3) := ⟨_, rfl⟩
              obtain ⟨n6, en⟩ : ∃ v, v = V1.heap.size := ⟨_, rfl⟩
              have bV6 : Below w.heap.size w V6 := (by rw [eV]; exact bV1.alloc bV1.size _)
              have cV6 : Below U0.heap.size U0 V6 := (by rw [eV]; exact cV1.alloc cV1.size _)
              have z6 : blk V6 n6 = some (ic n).toArray := (by rw [eV, en]; exact blk_alloc_new _ _ _ rfl)
              have l6 : U0.heap.size ≤ n6 := (by rw [en]; exact cV1.size)
              have u6 : n6 < V6.heap.size := (by rw [eV, en]; simp)
              have oV6 : V6.ownsRow n1 3 1 (.slice (some ⟨n1, 0, none⟩) 0 0) 0 [] := (by rw [eV]; exact oV1.alloc _)
              have nz : n6 ≠ n1 := (by rw [en]; omega)
              rw [← eV, ← en]
              clear eV en
              refine wpAnyH_ready (rs := [4]) (by kernel_rfl) (by simp) ?_
              refine AllReadyH.cons rfl (fun K hK => ?_) AllReadyH.nil
              refine wp_append_own _ (.tmp 20) (.tmp 23) 31 rfl U0.heap.size 3 i0 (.int .i64 0) 1 8 Tryd.underlying31 Hi.out Hz0.out Hz1.out Hz2.out rfl (by decide) (.slice (some ⟨n1, 0, none⟩) 0 0) 0 [] rfl (owns_base oV6 l1) ⟨g, 0, none⟩ k k (rowC ic (LL.take k)) rfl (by rw [rowC_length ic_len, TKL.out]) (fun j' u hj' => (by rw [Addr.add_mid, Nat.zero_add, cV6.cell (p := ⟨g, j', none⟩) gU, blk_cell kg]; exact irow_head HCT.out TD.out hj')) (rowIn_one_cell _) (by unfold maxLen; omega) (by omega) cV6.size ?_
              intro v7 V7 ho hg5 _
              have bV7 : Below w.heap.size w V7 := bV6.grown hg5 bV6.size (fun k e => by have h9 := (oV6.lt k e).1; omega)
              have cV7 : Below U0.heap.size U0 V7 := cV6.grown hg5 cV6.size (fun k e => by have h9 := (oV6.lt k e).1; omega)
              have OV7 : V7.ownsRow U0.heap.size 3 1 v7 (LL.take k).length (rowC ic (LL.take k)) := (by have h9 := ho; rw [Nat.zero_add, List.nil_append] at h9; rw [TKL.out]; exact h9)
              replace z6 := (blk_kept (hg5.block n6 u6 (fun e => by simp [Value.ownBlock] at e; omega))).trans z6
              replace u6 := Nat.lt_of_lt_of_le u6 hg5.size
              refine hK.out _ _ trivial (fun _ => ?_)
              clear hK K
              (try simp only [Act.put, List.setIfInBounds_toArray, List.set_cons_zero, List.set_cons_succ, List.getElem_toArray, List.getElem_cons_succ, List.getElem_cons_zero])
              clear ho hg5
              refine wpAnyH_ready (rs := [7]) (by kernel_rfl) (by simp) ?_
              refine AllReadyH.cons rfl (fun K hK => ?_) AllReadyH.nil
              refine wp_append_own _ (.tmp 24) (.tmp 26) 31 rfl U0.heap.size 3 i0 (.int .i64 0) 1 8 Tryd.underlying31 Hi.out Hz0.out Hz1.out Hz2.out rfl (by decide) _ (LL.take k).length (rowC ic (LL.take k)) rfl OV7 ⟨n6, 0, none⟩ 1 1 (ic n) rfl rfl (fun j' u hj' => (by rw [Addr.add_mid, Nat.zero_add, blk_cell z6]; simpa using hj')) (ic_one _) (by rw [TKL.out]; unfold maxLen; omega) (by rw [TKL.out]; omega) cV7.size ?_
              intro v8 V8 ho hg5 _
              have bV8 : Below w.heap.size w V8 := bV7.grown hg5 bV7.size (fun k e => by have h9 := (OV7.lt k e).1; omega)
              have cV8 : Below U0.heap.size U0 V8 := cV7.grown hg5 cV7.size (fun k e => (OV7.lt k e).1)
              refine hK.out _ _ trivial (fun _ => ?_)
              clear hK K
              (try simp only [Act.put, List.setIfInBounds_toArray, List.set_cons_zero, List.set_cons_succ, List.getElem_toArray, List.getElem_cons_succ, List.getElem_cons_zero])
              clear hg5
              refine wpAnyH_ready (rs := [11]) (by kernel_rfl) (by simp) ?_
              refine AllReadyH.cons rfl (fun K hK => ?_) AllReadyH.nil
              refine wp_append_own _ (.tmp 27) (.tmp 30) 31 rfl U0.heap.size 3 i0 (.int .i64 0) 1 8 Tryd.underlying31 Hi.out Hz0.out Hz1.out Hz2.out rfl (by decide) v8 ((LL.take k).length + 1) (rowC ic (LL.take k) ++ ic n) rfl ho ⟨g, 0, none⟩ 0 0 (rowC ic (LL.drop k)) rfl (by rw [rowC_length ic_len, LD.out]) (fun j' u hj' => by rw [DK.out] at hj'; simp [rowC] at hj') (rowIn_one_cell _) (by rw [TKL.out]; unfold maxLen; omega) (by rw [TKL.out]; omega) cV8.size ?_
              intro v9 V9 ho2 hg6 _
              have bV9 : Below w.heap.size w V9 := bV8.grown hg6 bV8.size (fun k e => by have h9 := (ho.lt k e).1; omega)
              refine hK.out _ _ trivial (fun _ => ?_)
              clear hK K
              (try simp only [Act.put, List.setIfInBounds_toArray, List.set_cons_zero, List.set_cons_succ, List.getElem_toArray, List.getElem_cons_succ, List.getElem_cons_zero])
              refine wpAnyH_take (i := 12) (oi := _) (v := ?_) rfl (by kernel_rfl) (by kernel_rfl) (by kernel_rfl) (fun _ _ _ h => h) (Or.inl ⟨by rfl, ?_⟩) (by assumption) ?_
              rotate_left
              focus (intro W hSw; (try dsimp only at hSw); go_simp; (try with_reducible rfl))
              (try simp only [Act.put, List.setIfInBounds_toArray, List.set_cons_zero, List.set_cons_succ, List.getElem_toArray, List.getElem_cons_succ, List.getElem_cons_zero])
              refine wpAnyH_done (by kernel_rfl) ?_ _
              have hN : Hid (V9.ownsRow w.heap.size 3 1 v9 (ascO (M ++ [n])).length (rowC ic (ascO (M ++ [n])))) := Lib.hid (by
                have h9 := owns_base ho2 (show w.heap.size ≤ U0.heap.size from sU)
                rw [← NEXT.out, show LL.take k ++ n :: LL.drop k = LL.take k ++ [n] ++ LL.drop k by simp, rowC_append, rowC_append, rowC_one, List.length_append, List.length_append, List.length_singleton, LD.out]
                exact h9)
              have bN := bV9
              clear ho ho2 hg6
              go_wp2
              go_ret
              exact ⟨_, rfl, hN.out, bN⟩
            refine AllReadyH.cons rfl (fun K hK => ?_) AllReadyH.nil
            go_simp
            refine hK.out _ _ trivial (fun _ => ?_)
            clear hK K
            (try simp only [Act.put, List.setIfInBounds_toArray, List.set_cons_zero, List.set_cons_succ, List.getElem_toArray, List.getElem_cons_succ, List.getElem_cons_zero])
            obtain ⟨V10, eV⟩ : ∃ v, v = U0.alloc (.cells #[.int .i64 n] 3) := ⟨_, rfl⟩
            obtain ⟨n10, en⟩ : ∃ v, v = U0.heap.size := ⟨_, rfl⟩
            have bV10 : Below w.heap.size w V10 := (by rw [eV]; exact bU0.alloc bU0.size _)
            have cV10 : Below U0.heap.size U0 V10 := (by rw [eV]; exact cU0.alloc cU0.size _)
            have z10 : blk V10 n10 = some (ic n).toArray := (by rw [eV, en]; exact blk_alloc_new _ _ _ rfl)
            have l10 : U0.heap.size ≤ n10 := (by rw [en]; exact cU0.size)
            have u10 : n10 < V10.heap.size := (by rw [eV, en]; simp)
            rw [← eV, ← en]
            clear eV en
            refine wpAnyH_ready (rs := [0]) (by kernel_rfl) (by simp) ?_
            refine AllReadyH.cons rfl (fun K hK => ?_) AllReadyH.nil
            go_simp
            refine hK.out _ _ trivial (fun _ => ?_)
            clear hK K
            (try simp only [Act.put, List.setIfInBounds_toArray, List.set_cons_zero, List.set_cons_succ, List.getElem_toArray, List.getElem_cons_succ, List.getElem_cons_zero])
            obtain ⟨V11, eV⟩ : ∃ v, v = V10.alloc (.cells #[] 3) := ⟨_, rfl⟩
            obtain ⟨n11, en⟩ : ∃ v, v = V10.heap.size := ⟨_, rfl⟩
            have bV11 : Below w.heap.size w V11 := (by rw [eV]; exact bV10.alloc bV10.size _)
            have cV11 : Below U0.heap.size U0 V11 := (by rw [eV]; exact cV10.alloc cV10.size _)
            have oV11 : V11.ownsRow n11 3 1 (.slice (some ⟨n11, 0, none⟩) 0 0) 0 [] := (by rw [eV, en]; exact own_emptyIn _ _)
            have l11 : U0.heap.size ≤ n11 := (by rw [en]; exact cV10.size)
            have u11 : n11 < V11.heap.size := (by rw [eV, en]; simp)
            have nz : n10 ≠ n11 := (by rw [en]; omega)
            replace z10 := (by rw [eV]; exact blk_alloc z10 _ : blk V11 n10 = some (ic n).toArray)
            replace u10 : n10 < V11.heap.size := (by rw [eV]; simp; omega)
            rw [← eV, ← en]
            clear eV en
            refine wpAnyH_ready (rs := [4]) (by kernel_rfl) (by simp) ?_
            refine AllReadyH.cons rfl (fun K hK => ?_) AllReadyH.nil
            refine wp_append_own _ (.tmp 20) (.tmp 23) 31 rfl U0.heap.size 3 i0 (.int .i64 0) 1 8 Tryd.underlying31 Hi.out Hz0.out Hz1.out Hz2.out rfl (by decide) (.slice (some ⟨n11, 0, none⟩) 0 0) 0 [] rfl (owns_base oV11 l11) ⟨g, 0, none⟩ k k (rowC ic (LL.take k)) rfl (by rw [rowC_length ic_len, TKL.out]) (fun j' u hj' => (by rw [Addr.add_mid, Nat.zero_add, cV11.cell (p := ⟨g, j', none⟩) gU, blk_cell kg]; exact irow_head HCT.out TD.out hj')) (rowIn_one_cell _) (by unfold maxLen; omega) (by omega) cV11.size ?_
            intro v12 V12 ho hg5 _
            have bV12 : Below w.heap.size w V12 := bV11.grown hg5 bV11.size (fun k e => by have h9 := (oV11.lt k e).1; omega)
            have cV12 : Below U0.heap.size U0 V12 := cV11.grown hg5 cV11.size (fun k e => by have h9 := (oV11.lt k e).1; omega)
            have OV12 : V12.ownsRow U0.heap.size 3 1 v12 (LL.take k).length (rowC ic (LL.take k)) := (by have h9 := ho; rw [Nat.zero_add, List.nil_append] at h9; rw [TKL.out]; exact h9)
            replace z10 := (blk_kept (hg5.block n10 u10 (fun e => by simp [Value.ownBlock] at e; omega))).trans z10
            replace u10 := Nat.lt_of_lt_of_le u10 hg5.size
            refine hK.out _ _ trivial (fun _ => ?_)
            clear hK K
            (try simp only [Act.put, List.setIfInBounds_toArray, List.set_cons_zero, List.set_cons_succ, List.getElem_toArray, List.getElem_cons_succ, List.getElem_cons_zero])
            clear ho hg5
            refine wpAnyH_ready (rs := [7]) (by kernel_rfl) (by simp) ?_
            refine AllReadyH.cons rfl (fun K hK => ?_) AllReadyH.nil
            refine wp_append_own _ (.tmp 24) (.tmp 26) 31 rfl U0.heap.size 3 i0 (.int .i64 0) 1 8 Tryd.underlying31 Hi.out Hz0.out Hz1.out Hz2.out rfl (by decide) _ (LL.take k).length (rowC ic (LL.take k)) rfl OV12 ⟨n10, 0, none⟩ 1 1 (ic n) rfl rfl (fun j' u hj' => (by rw [Addr.add_mid, Nat.zero_add, blk_cell z10]; simpa using hj')) (ic_one _) (by rw [TKL.out]; unfold maxLen; omega) (by rw [TKL.out]; omega) cV12.size ?_
            intro v13 V13 ho hg5 _
            have bV13 : Below w.heap.size w V13 := bV12.grown hg5 bV12.size (fun k e => by have h9 := (OV12.lt k e).1; omega)
            have cV13 : Below U0.heap.size U0 V13 := cV12.grown hg5 cV12.size (fun k e => (OV12.lt k e).1)
            refine hK.out _ _ trivial (fun _ => ?_)
            clear hK K
            (try simp only [Act.put, List.setIfInBounds_toArray, List.set_cons_zero, List.set_cons_succ, List.getElem_toArray, List.getElem_cons_succ, List.getElem_cons_zero])
            clear hg5
            refine wpAnyH_ready (rs := [11]) (by kernel_rfl) (by simp) ?_
            refine AllReadyH.cons rfl (fun K hK => ?_) AllReadyH.nil
            refine wp_append_own _ (.tmp 27) (.tmp 30) 31 rfl U0.heap.size 3 i0 (.int .i64 0) 1 8 Tryd.underlying31 Hi.out Hz0.out Hz1.out Hz2.out rfl (by decide) v13 ((LL.take k).length + 1) (rowC ic (LL.take k) ++ ic n) rfl ho ⟨g, 0, none⟩ 0 0 (rowC ic (LL.drop k)) rfl (by rw [rowC_length ic_len, LD.out]) (fun j' u hj' => by rw [DK.out] at hj'; simp [rowC] at hj') (rowIn_one_cell _) (by rw [TKL.out]; unfold maxLen; omega) (by rw [TKL.out]; omega) cV13.size ?_
            intro v14 V14 ho2 hg6 _
            have bV14 : Below w.heap.size w V14 := bV13.grown hg6 bV13.size (fun k e => by have h9 := (ho.lt k e).1; omega)
            refine hK.out _ _ trivial (fun _ => ?_)
            clear hK K
            (try simp only [Act.put, List.setIfInBounds_toArray, List.set_cons_zero, List.set_cons_succ, List.getElem_toArray, List.getElem_cons_succ, List.getElem_cons_zero])
            refine wpAnyH_take (i := 12) (oi := _) (v := ?_) rfl (by kernel_rfl) (by kernel_rfl) (by kernel_rfl) (fun _ _ _ h => h) (Or.inl ⟨by rfl, ?_⟩) (by assumption) ?_
            rotate_left
            focus (intro W hSw; (try dsimp only at hSw); go_simp; (try with_reducible rfl))
            (try simp only [Act.put, List.setIfInBounds_toArray, List.set_cons_zero, List.set_cons_succ, List.getElem_toArray, List.getElem_cons_succ, List.getElem_cons_zero])
            refine wpAnyH_done (by kernel_rfl) ?_ _
            have hN : Hid (V14.ownsRow w.heap.size 3 1 v14 (ascO (M ++ [n])).length (rowC ic (ascO (M ++ [n])))) := Lib.hid (by
              have h9 := owns_base ho2 (show w.heap.size ≤ U0.heap.size from sU)
              rw [← NEXT.out, show LL.take k ++ n :: LL.drop k = LL.take k ++ [n] ++ LL.drop k by simp, rowC_append, rowC_append, rowC_one, List.length_append, List.length_append, List.length_singleton, LD.out]
              exact h9)
            have bN := bV14
            clear ho ho2 hg6
            go_wp2
            go_ret
            exact ⟨_, rfl, hN.out, bN⟩
          · have hkc2 : ¬ (co = k) := fun h => hkc h.symm
            have hco1 : ¬ (co = 0) := by omega
            have hkco : k ≤ co := by omega
            have kgU := blk_below hBV hbg
            have HCT := Lib.hid hct
            have TKL : Hid ((LL.take k).length = k) := Lib.hid (by rw [List.length_take]; omega)
            have TD : Hid (LL = LL.take k ++ LL.drop k) := Lib.hid (List.take_append_drop k LL).symm
            have LD : Hid ((LL.drop k).length = LL.length - k) := Lib.hid (by rw [List.length_drop])
            clear hct hcs hbg
            go_upto_region 4 with fail
            refine wp_region_held_drew (S := fun W => True) (by kernel_rfl) trivial (fun hHeld => ?_)
            obtain ⟨U0, eU⟩ : ∃ v, v = wr.drew := ⟨_, rfl⟩
            have bU0 : Below w.heap.size w U0 := (by rw [eU]; exact hBV.drew)
            have cU0 : Below U0.heap.size U0 U0 := Below.refl _ _
            have sU := bU0.size
            have kg : blk U0 g = some cur := (by rw [eU]; exact blk_drew kgU)
            have gU := blk_lt kg
            clear kgU
            rw [← eU]
            clear eU hBV
            refine wpAnyH_take (i := 1) (oi := _) (v := ?_) rfl (by kernel_rfl) (by kernel_rfl) (by kernel_rfl) (fun _ _ _ h => h) (Or.inl ⟨by rfl, ?_⟩) (by assumption) ?_
            rotate_left
            focus (intro W hSw; (try dsimp only at hSw); go_simp; (try with_reducible rfl))
            (try simp only [Act.put, List.setIfInBounds_toArray, List.set_cons_zero, List.set_cons_succ, List.getElem_toArray, List.getElem_cons_succ, List.getElem_cons_zero])
            refine wpAnyH_take (i := 2) (oi := _) (v := ?_) rfl (by kernel_rfl) (by kernel_rfl) (by kernel_rfl) (fun _ _ _ h => h) (Or.inl ⟨by rfl, ?_⟩) (by assumption) ?_
            rotate_left
            focus (intro W hSw; (try dsimp only at hSw); go_simp; (try with_reducible rfl))
            (try simp only [Act.put, List.setIfInBounds_toArray, List.set_cons_zero, List.set_cons_succ, List.getElem_toArray, List.getElem_cons_succ, List.getElem_cons_zero])
            refine wpAnyH_take (i := 3) (oi := _) (v := ?_) rfl (by kernel_rfl) (by kernel_rfl) (by kernel_rfl) (fun _ _ _ h => h) (Or.inl ⟨by rfl, ?_⟩) (by assumption) ?_
            rotate_left
            focus (intro W hSw; (try dsimp only at hSw); go_simp; (try with_reducible rfl))
            (try simp only [Act.put, List.setIfInBounds_toArray, List.set_cons_zero, List.set_cons_succ, List.getElem_toArray, List.getElem_cons_succ, List.getElem_cons_zero])
            refine wpAnyH_take (i := 5) (oi := _) (v := ?_) rfl (by kernel_rfl) (by kernel_rfl) (by kernel_rfl) (fun _ _ _ h => h) (Or.inl ⟨by rfl, ?_⟩) (by assumption) ?_
            rotate_left
            focus (intro W hSw; (try dsimp only at hSw); go_simp; (try with_reducible rfl))
            (try simp only [Act.put, List.setIfInBounds_toArray, List.set_cons_zero, List.set_cons_succ, List.getElem_toArray, List.getElem_cons_succ, List.getElem_cons_zero])
            refine wpAnyH_take (i := 8) (oi := _) (v := ?_) rfl (by kernel_rfl) (by kernel_rfl) (by kernel_rfl) (fun _ _ _ h => h) (Or.inl ⟨by rfl, ?_⟩) (by assumption) ?_
            rotate_left
            focus (intro W hSw; (try dsimp only at hSw); go_simp; (try with_reducible rfl))
            (try simp only [Act.put, List.setIfInBounds_toArray, List.set_cons_zero, List.set_cons_succ, List.getElem_toArray, List.getElem_cons_succ, List.getElem_cons_zero])
            refine wpAnyH_take (i := 9) (oi := _) (v := ?_) rfl (by kernel_rfl) (by kernel_rfl) (by kernel_rfl) (fun _ _ _ h => h) (Or.inl ⟨by rfl, ?_⟩) (by assumption) ?_
            rotate_left
            focus (intro W hSw; (try dsimp only at hSw); go_simp; (try with_reducible rfl))
            (try simp only [Act.put, List.setIfInBounds_toArray, List.set_cons_zero, List.set_cons_succ, List.getElem_toArray, List.getElem_cons_succ, List.getElem_cons_zero])
            refine wpAnyH_take (i := 10) (oi := _) (v := ?_) rfl (by kernel_rfl) (by kernel_rfl) (by kernel_rfl) (fun _ _ _ h => h) (Or.inl ⟨by rfl, ?_⟩) (by assumption) ?_
            rotate_left
            focus (intro W hSw; (try dsimp only at hSw); go_simp; (try with_reducible rfl))
            (try simp only [Act.put, List.setIfInBounds_toArray, List.set_cons_zero, List.set_cons_succ, List.getElem_toArray, List.getElem_cons_succ, List.getElem_cons_zero])
            refine wpAnyH_ready (rs := [0, 6]) (by kernel_rfl) (by simp) ?_
            refine AllReadyH.cons rfl (fun K hK => ?_) ?_
            · skip
              go_simp
              refine hK.out _ _ trivial (fun _ => ?_)
              clear hK K
              (try simp only [Act.put, List.setIfInBounds_toArray, List.set_cons_zero, List.set_cons_succ, List.getElem_toArray, List.getElem_cons_succ, List.getElem_cons_zero])
              obtain ⟨V1, eV⟩ : ∃ v, v = U0.alloc (.cells #[] 3) := ⟨_, rfl⟩
              obtain ⟨n1, en⟩ : ∃ v, v = U0.heap.size := ⟨_, rfl⟩
              have bV1 : Below w.heap.size w V1 := (by rw [eV]; exact bU0.alloc bU0.size _)
              have cV1 : Below U0.heap.size U0 V1 := (by rw [eV]; exact cU0.alloc cU0.size _)
              have oV1 : V1.ownsRow n1 3 1 (.slice (some ⟨n1, 0, none⟩) 0 0) 0 [] := (by rw [eV, en]; exact own_emptyIn _ _)
              have l1 : U0.heap.size ≤ n1 := (by rw [en]; exact cU0.size)
              have u1 : n1 < V1.heap.size := (by rw [eV, en]; simp)
              rw [← eV, ← en]
              clear eV en
              refine wpAnyH_ready (rs := [4, 6]) (by kernel_rfl) (by simp) ?_
              refine AllReadyH.cons rfl (fun K hK => ?_) ?_
              · skip
                refine wp_append_own _ (.tmp 20) (.tmp 23) 31 rfl U0.heap.size 3 i0 (.int .i64 0) 1 8 Tryd.underlying31 Hi.out Hz0.out Hz1.out Hz2.out rfl (by decide) (.slice (some ⟨n1, 0, none⟩) 0 0) 0 [] rfl (owns_base oV1 l1) ⟨g, 0, none⟩ k co (rowC ic (LL.take k)) rfl (by rw [rowC_length ic_len, TKL.out]) (fun j' u hj' => (by rw [Addr.add_mid, Nat.zero_add, cV1.cell (p := ⟨g, j', none⟩) gU, blk_cell kg]; exact irow_head HCT.out TD.out hj')) (rowIn_one_cell _) (by unfold maxLen; omega) (by omega) cV1.size ?_
                intro v2 V2 ho hg5 _
                have bV2 : Below w.heap.size w V2 := bV1.grown hg5 bV1.size (fun k e => by have h9 := (oV1.lt k e).1; omega)
                have cV2 : Below U0.heap.size U0 V2 := cV1.grown hg5 cV1.size (fun k e => by have h9 := (oV1.lt k e).1; omega)
                have OV2 : V2.ownsRow U0.heap.size 3 1 v2 (LL.take k).length (rowC ic (LL.take k)) := (by have h9 := ho; rw [Nat.zero_add, List.nil_append] at h9; rw [TKL.out]; exact h9)
                refine hK.out _ _ trivial (fun _ => ?_)
                clear hK K
                (try simp only [Act.put, List.setIfInBounds_toArray, List.set_cons_zero, List.set_cons_succ, List.getElem_toArray, List.getElem_cons_succ, List.getElem_cons_zero])
                clear ho hg5
                refine wpAnyH_ready (rs := [6]) (by kernel_rfl) (by simp) ?_
                refine AllReadyH.cons rfl (fun K hK => ?_) AllReadyH.nil
                go_simp
                refine hK.out _ _ trivial (fun _ => ?_)
                clear hK K
                (try simp only [Act.put, List.setIfInBounds_toArray, List.set_cons_zero, List.set_cons_succ, List.getElem_toArray, List.getElem_cons_succ, List.getElem_cons_zero])
                obtain ⟨V3, eV⟩ : ∃ v, v = V2.alloc (.cells #[.int .i64 n] 3) := ⟨_, rfl⟩
                obtain ⟨n3, en⟩ : ∃ v, v = V2.heap.size := ⟨_, rfl⟩
                have bV3 : Below w.heap.size w V3 := (by rw [eV]; exact bV2.alloc bV2.size _)
                have cV3 : Below U0.heap.size U0 V3 := (by rw [eV]; exact cV2.alloc cV2.size _)
                have z3 : blk V3 n3 = some (ic n).toArray := (by rw [eV, en]; exact blk_alloc_new _ _ _ rfl)
                have l3 : U0.heap.size ≤ n3 := (by rw [en]; exact cV2.size)
                have u3 : n3 < V3.heap.size := (by rw [eV, en]; simp)
                have OV3 : V3.ownsRow U0.heap.size 3 1 _ (LL.take k).length (rowC ic (LL.take k)) := (by rw [eV]; exact OV2.alloc _)
                rw [← eV, ← en]
                clear eV en
                refine wpAnyH_ready (rs := [7]) (by kernel_rfl) (by simp) ?_
                refine AllReadyH.cons rfl (fun K hK => ?_) AllReadyH.nil
                refine wp_append_own _ (.tmp 24) (.tmp 26) 31 rfl U0.heap.size 3 i0 (.int .i64 0) 1 8 Tryd.underlying31 Hi.out Hz0.out Hz1.out Hz2.out rfl (by decide) _ (LL.take k).length (rowC ic (LL.take k)) rfl OV3 ⟨n3, 0, none⟩ 1 1 (ic n) rfl rfl (fun j' u hj' => (by rw [Addr.add_mid, Nat.zero_add, blk_cell z3]; simpa using hj')) (ic_one _) (by rw [TKL.out]; unfold maxLen; omega) (by rw [TKL.out]; omega) cV3.size ?_
                intro v4 V4 ho hg5 _
                have bV4 : Below w.heap.size w V4 := bV3.grown hg5 bV3.size (fun k e => by have h9 := (OV3.lt k e).1; omega)
                have cV4 : Below U0.heap.size U0 V4 := cV3.grown hg5 cV3.size (fun k e => (OV3.lt k e).1)
                refine hK.out _ _ trivial (fun _ => ?_)
                clear hK K
                (try simp only [Act.put, List.setIfInBounds_toArray, List.set_cons_zero, List.set_cons_succ, List.getElem_toArray, List.getElem_cons_succ, List.getElem_cons_zero])
                clear hg5
                refine wpAnyH_ready (rs := [11]) (by kernel_rfl) (by simp) ?_
                refine AllReadyH.cons rfl (fun K hK => ?_) AllReadyH.nil
                refine wp_append_own _ (.tmp 27) (.tmp 30) 31 rfl U0.heap.size 3 i0 (.int .i64 0) 1 8 Tryd.underlying31 Hi.out Hz0.out Hz1.out Hz2.out rfl (by decide) v4 ((LL.take k).length + 1) (rowC ic (LL.take k) ++ ic n) rfl ho ⟨g, k, none⟩ (LL.length - k) (co - k) (rowC ic (LL.drop k)) rfl (by rw [rowC_length ic_len, LD.out]) (fun j' u hj' => (by rw [Addr.add_mid, cV4.cell (p := ⟨g, k + j', none⟩) gU, blk_cell kg]; have h9 := irow_tail HCT.out TD.out hj'; rw [TKL.out] at h9; exact h9)) (rowIn_one_cell _) (by rw [TKL.out]; unfold maxLen; omega) (by rw [TKL.out]; omega) cV4.size ?_
                intro v5 V5 ho2 hg6 _
                have bV5 : Below w.heap.size w V5 := bV4.grown hg6 bV4.size (fun k e => by have h9 := (ho.lt k e).1; omega)
                refine hK.out _ _ trivial (fun _ => ?_)
                clear hK K
                (try simp only [Act.put, List.setIfInBounds_toArray, List.set_cons_zero, List.set_cons_succ, List.getElem_toArray, List.getElem_cons_succ, List.getElem_cons_zero])
                refine wpAnyH_take (i := 12) (oi := _) (v := ?_) rfl (by kernel_rfl) (by kernel_rfl) (by kernel_rfl) (fun _ _ _ h => h) (Or.inl ⟨by rfl, ?_⟩) (by assumption) ?_
                rotate_left
                focus (intro W hSw; (try dsimp only at hSw); go_simp; (try with_reducible rfl))
                (try simp only [Act.put, List.setIfInBounds_toArray, List.set_cons_zero, List.set_cons_succ, List.getElem_toArray, List.getElem_cons_succ, List.getElem_cons_zero])
                refine wpAnyH_done (by kernel_rfl) ?_ _
                have hN : Hid (V5.ownsRow w.heap.size 3 1 v5 (ascO (M ++ [n])).length (rowC ic (ascO (M ++ [n])))) := Lib.hid (by
                  have h9 := owns_base ho2 (show w.heap.size ≤ U0.heap.size from sU)
                  rw [← NEXT.out, show LL.take k ++ n :: LL.drop k = LL.take k ++ [n] ++ LL.drop k by simp, rowC_append, rowC_append, rowC_one, List.length_append, List.length_append, List.length_singleton, LD.out]
                  exact h9)
                have bN := bV5
                clear ho ho2 hg6
                go_wp2
                go_ret
                exact ⟨_, rfl, hN.out, bN⟩
              refine AllReadyH.cons rfl (fun K hK => ?_) AllReadyH.nil
              go_simp
              refine hK.out _ _ trivial (fun _ => ?_)
              clear hK K
              (try simp only [Act.put, List.setIfInBounds_toArray, List.set_cons_zero, List.set_cons_succ, List.getElem_toArray, List.getElem_cons_succ, List.getElem_cons_zero])
              obtain ⟨V6, eV⟩ : ∃ v, v = V1.alloc (.cells #[.int .i64 n] 3) := ⟨_, rfl⟩
              obtain ⟨n6, en⟩ : ∃ v, v = V1.heap.size := ⟨_, rfl⟩
              have bV6 : Below w.heap.size w V6 := (by rw [eV]; exact bV1.alloc bV1.size _)
              have cV6 : Below U0.heap.size U0 V6 := (by rw [eV]; exact cV1.alloc cV1.size _)
              have z6 : blk V6 n6 = some (ic n).toArray := (by rw [eV, en]; exact blk_alloc_new _ _ _ rfl)
              have l6 : U0.heap.size ≤ n6 := (by rw [en]; exact cV1.size)
              have u6 : n6 < V6.heap.size := (by rw [eV, en]; simp)
              have oV6 : V6.ownsRow n1 3 1 (.slice (some ⟨n1, 0, none⟩) 0 0) 0 [] := (by rw [eV]; exact oV1.alloc _)
              have nz : n6 ≠ n1 := (by rw [en]; omega)
              rw [← eV, ← en]
              clear eV en
              refine wpAnyH_ready (rs := [4]) (by kernel_rfl) (by simp) ?_
              refine AllReadyH.cons rfl (fun K hK => ?_) AllReadyH.nil
              refine wp_append_own _ (.tmp 20) (.tmp 23) 31 rfl U0.heap.size 3 i0 (.int .i64 0) 1 8 Tryd.underlying31 Hi.out Hz0.out Hz1.out Hz2.out rfl (by decide) (.slice (some ⟨n1, 0, none⟩) 0 0) 0 [] rfl (owns_base oV6 l1) ⟨g, 0, none⟩ k co (rowC ic (LL.take k)) rfl (by rw [rowC_length ic_len, TKL.out]) (fun j' u hj' => (by rw [Addr.add_mid, Nat.zero_add, cV6.cell (p := ⟨g, j', none⟩) gU, blk_cell kg]; exact irow_head HCT.out TD.out hj')) (rowIn_one_cell _) (by unfold maxLen; omega) (by omega) cV6.size ?_
              intro v7 V7 ho hg5 _
              have bV7 : Below w.heap.size w V7 := bV6.grown hg5 bV6.size (fun k e => by have h9 := (oV6.lt k e).1; omega)
              have cV7 : Below U0.heap.size U0 V7 := cV6.grown hg5 cV6.size (fun k e => by have h9 := (oV6.lt k e).1; omega)
              have OV7 : V7.ownsRow U0.heap.size 3 1 v7 (LL.take k).length (rowC ic (LL.take k)) := (by have h9 := ho; rw [Nat.zero_add, List.nil_append] at h9; rw [TKL.out]; exact h9)
              replace z6 := (blk_kept (hg5.block n6 u6 (fun e => by simp [Value.ownBlock] at e; omega))).trans z6
              replace u6 := Nat.lt_of_lt_of_le u6 hg5.size
              refine hK.out _ _ trivial (fun _ => ?_)
              clear hK K
              (try simp only [Act.put, List.setIfInBounds_toArray, List.set_cons_zero, List.set_cons_succ, List.getElem_toArray, List.getElem_cons_succ, List.getElem_cons_zero])
              clear ho hg5
              refine wpAnyH_ready (rs := [7]) (by kernel_rfl) (by simp) ?_
              refine AllReadyH.cons rfl (fun K hK => ?_) AllReadyH.nil
              refine wp_append_own _ (.tmp 24) (.tmp 26) 31 rfl U0.heap.size 3 i0 (.int .i64 0) 1 8 Tryd.underlying31 Hi.out Hz0.out Hz1.out Hz2.out rfl (by decide) _ (LL.take k).length (rowC ic (LL.take k)) rfl OV7 ⟨n6, 0, none⟩ 1 1 (ic n) rfl rfl (fun j' u hj' => (by rw [Addr.add_mid, Nat.zero_add, blk_cell z6]; simpa using hj')) (ic_one _) (by rw [TKL.out]; unfold maxLen; omega) (by rw [TKL.out]; omega) cV7.size ?_
              intro v8 V8 ho hg5 _
              have bV8 : Below w.heap.size w V8 := bV7.grown hg5 bV7.size (fun k e => by have h9 := (OV7.lt k e).1; omega)
              have cV8 : Below U0.heap.size U0 V8 := cV7.grown hg5 cV7.size (fun k e => (OV7.lt k e).1)
              refine hK.out _ _ trivial (fun _ => ?_)
              clear hK K
              (try simp only [Act.put, List.setIfInBounds_toArray, List.set_cons_zero, List.set_cons_succ, List.getElem_toArray, List.getElem_cons_succ, List.getElem_cons_zero])
              clear hg5
              refine wpAnyH_ready (rs := [11]) (by kernel_rfl) (by simp) ?_
              refine AllReadyH.cons rfl (fun K hK => ?_) AllReadyH.nil
              refine wp_append_own _ (.tmp 27) (.tmp 30) 31 rfl U0.heap.size 3 i0 (.int .i64 0) 1 8 Tryd.underlying31 Hi.out Hz0.out Hz1.out Hz2.out rfl (by decide) v8 ((LL.take k).length + 1) (rowC ic (LL.take k) ++ ic n) rfl ho ⟨g, k, none⟩ (LL.length - k) (co - k) (rowC ic (LL.drop k)) rfl (by rw [rowC_length ic_len, LD.out]) (fun j' u hj' => (by rw [Addr.add_mid, cV8.cell (p := ⟨g, k + j', none⟩) gU, blk_cell kg]; have h9 := irow_tail HCT.out TD.out hj'; rw [TKL.out] at h9; exact h9)) (rowIn_one_cell _) (by rw [TKL.out]; unfold maxLen; omega) (by rw [TKL.out]; omega) cV8.size ?_
              intro v9 V9 ho2 hg6 _
              have bV9 : Below w.heap.size w V9 := bV8.grown hg6 bV8.size (fun k e => by have h9 := (ho.lt k e).1; omega)
              refine hK.out _ _ trivial (fun _ => ?_)
              clear hK K
              (try simp only [Act.put, List.setIfInBounds_toArray, List.set_cons_zero, List.set_cons_succ, List.getElem_toArray, List.getElem_cons_succ, List.getElem_cons_zero])
              refine wpAnyH_take (i := 12) (oi := _) (v := ?_) rfl (by kernel_rfl) (by kernel_rfl) (by kernel_rfl) (fun _ _ _ h => h) (Or.inl ⟨by rfl, ?_⟩) (by assumption) ?_
              rotate_left
              focus (intro W hSw; (try dsimp only at hSw); go_simp; (try with_reducible rfl))
              (try simp only [Act.put, List.setIfInBounds_toArray, List.set_cons_zero, List.set_cons_succ, List.getElem_toArray, List.getElem_cons_succ, List.getElem_cons_zero])
              refine wpAnyH_done (by kernel_rfl) ?_ _
              have hN : Hid (V9.ownsRow w.heap.size 3 1 v9 (ascO (M ++ [n])).length (rowC ic (ascO (M ++ [n])))) := Lib.hid (by
                have h9 := owns_base ho2 (show w.heap.size ≤ U0.heap.size from sU)
                rw [← NEXT.out, show LL.take k ++ n :: LL.drop k = LL.take k ++ [n] ++ LL.drop k by simp, rowC_append, rowC_append, rowC_one, List.length_append, List.length_append, List.length_singleton, LD.out]
                exact h9)
              have bN := bV9
              clear ho ho2 hg6
              go_wp2
              go_ret
              exact ⟨_, rfl, hN.out, bN⟩
            refine AllReadyH.cons rfl (fun K hK => ?_) AllReadyH.nil
            go_simp
            refine hK.out _ _ trivial (fun _ => ?_)
            clear hK K
            (try simp only [Act.put, List.setIfInBounds_toArray, List.set_cons_zero, List.set_cons_succ, List.getElem_toArray, List.getElem_cons_succ, List.getElem_cons_zero])
            obtain ⟨V10, eV⟩ : ∃ v, v = U0.alloc (.cells #[.int .i64 n] 3) := ⟨_, rfl⟩
            obtain ⟨n10, en⟩ : ∃ v, v = U0.heap.size := ⟨_, rfl⟩
            have bV10 : Below w.heap.size w V10 := (by rw [eV]; exact bU0.alloc bU0.size _)
            have cV10 : Below U0.heap.size U0 V10 := (by rw [eV]; exact cU0.alloc cU0.size _)
            have z10 : blk V10 n10 = some (ic n).toArray := (by rw [eV, en]; exact blk_alloc_new _ _ _ rfl)
            have l10 : U0.heap.size ≤ n10 := (by rw [en]; exact cU0.size)
            have u10 : n10 < V10.heap.size := (by rw [eV, en]; simp)
            rw [← eV, ← en]
            clear eV en
            refine wpAnyH_ready (rs := [0]) (by kernel_rfl) (by simp) ?_
            refine AllReadyH.cons rfl (fun K hK => ?_) AllReadyH.nil
            go_simp
            refine hK.out _ _ trivial (fun _ => ?_)
            clear hK K
            (try simp only [Act.put, List.setIfInBounds_toArray, List.set_cons_zero, List.set_cons_succ, List.getElem_toArray, List.getElem_cons_succ, List.getElem_cons_zero])
            obtain ⟨V11, eV⟩ : ∃ v, v = V10.alloc (.cells #[] 3) := ⟨_, rfl⟩
            obtain ⟨n11, en⟩ : ∃ v, v = V10.heap.size := ⟨_, rfl⟩
            have bV11 : Below w.heap.size w V11 := (by rw [eV]; exact bV10.alloc bV10.size _)
            have cV11 : Below U0.heap.size U0 V11 := (by rw [eV]; exact cV10.alloc cV10.size _)
            have oV11 : V11.ownsRow n11 3 1 (.slice (some ⟨n11, 0, none⟩) 0 0) 0 [] := (by rw [eV, en]; exact own_emptyIn _ _)
            have l11 : U0.heap.size ≤ n11 := (by rw [en]; exact cV10.size)
            have u11 : n11 < V11.heap.size := (by rw [eV, en]; simp)
            have nz : n10 ≠ n11 := (by rw [en]; omega)
            replace z10 := (by rw [eV]; exact blk_alloc z10 _ : blk V11 n10 = some (ic n).toArray)
            replace u10 : n10 < V11.heap.size := (by rw [eV]; simp; omega)
            rw [← eV, ← en]
            clear eV en
            refine wpAnyH_ready (rs := [4]) (by kernel_rfl) (by simp) ?_
            refine AllReadyH.cons rfl (fun K hK => ?_) AllReadyH.nil
            refine wp_append_own _ (.tmp 20) (.tmp 23) 31 rfl U0.heap.size 3 i0 (.int .i64 0) 1 8 Tryd.underlying31 Hi.out Hz0.out Hz1.out Hz2.out rfl (by decide) (.slice (some ⟨n11, 0, none⟩) 0 0) 0 [] rfl (owns_base oV11 l11) ⟨g, 0, none⟩ k co (rowC ic (LL.take k)) rfl (by rw [rowC_length ic_len, TKL.out]) (fun j' u hj' => (by rw [Addr.add_mid, Nat.zero_add, cV11.cell (p := ⟨g, j', none⟩) gU, blk_cell kg]; exact irow_head HCT.out TD.out hj')) (rowIn_one_cell _) (by unfold maxLen; omega) (by omega) cV11.size ?_
            intro v12 V12 ho hg5 _
            have bV12 : Below w.heap.size w V12 := bV11.grown hg5 bV11.size (fun k e => by have h9 := (oV11.lt k e).1; omega)
            have cV12 : Below U0.heap.size U0 V12 := cV11.grown hg5 cV11.size (fun k e => by have h9 := (oV11.lt k e).1; omega)
            have OV12 : V12.ownsRow U0.heap.size 3 1 v12 (LL.take k).length (rowC ic (LL.take k)) := (by have h9 := ho; rw [Nat.zero_add, List.nil_append] at h9; rw [TKL.out]; exact h9)
            replace z10 := (blk_kept (hg5.block n10 u10 (fun e => by simp [Value.ownBlock] at e; omega))).trans z10
            replace u10 := Nat.lt_of_lt_of_le u10 hg5.size
            refine hK.out _ _ trivial (fun _ => ?_)
            clear hK K
            (try simp only [Act.put, List.setIfInBounds_toArray, List.set_cons_zero, List.set_cons_succ, List.getElem_toArray, List.getElem_cons_succ, List.getElem_cons_zero])
            clear ho hg5
            refine wpAnyH_ready (rs := [7]) (by kernel_rfl) (by simp) ?_
            refine AllReadyH.cons rfl (fun K hK => ?_) AllReadyH.nil
            refine wp_append_own _ (.tmp 24) (.tmp 26) 31 rfl U0.heap.size 3 i0 (.int .i64 0) 1 8 Tryd.underlying31 Hi.out Hz0.out Hz1.out Hz2.out rfl (by decide) _ (LL.take k).length (rowC ic (LL.take k)) rfl OV12 ⟨n10, 0, none⟩ 1 1 (ic n) rfl rfl (fun j' u hj' => (by rw [Addr.add_mid, Nat.zero_add, blk_cell z10]; simpa using hj')) (ic_one _) (by rw [TKL.out]; unfold maxLen; omega) (by rw [TKL.out]; omega) cV12.size ?_
            intro v13 V13 ho hg5 _
            have bV13 : Below w.heap.size w V13 := bV12.grown hg5 bV12.size (fun k e => by have h9 := (OV12.lt k e).1; omega)
            have cV13 : Below U0.heap.size U0 V13 := cV12.grown hg5 cV12.size (fun k e => (OV12.lt k e).1)
            refine hK.out _ _ trivial (fun _ => ?_)
            clear hK K
            (try simp only [Act.put, List.setIfInBounds_toArray, List.set_cons_zero, List.set_cons_succ, List.getElem_toArray, List.getElem_cons_succ, List.getElem_cons_zero])
            clear hg5
            refine wpAnyH_ready (rs := [11]) (by kernel_rfl) (by simp) ?_
            refine AllReadyH.cons rfl (fun K hK => ?_) AllReadyH.nil
            refine wp_append_own _ (.tmp 27) (.tmp 30) 31 rfl U0.heap.size 3 i0 (.int .i64 0) 1 8 Tryd.underlying31 Hi.out Hz0.out Hz1.out Hz2.out rfl (by decide) v13 ((LL.take k).length + 1) (rowC ic (LL.take k) ++ ic n) rfl ho ⟨g, k, none⟩ (LL.length - k) (co - k) (rowC ic (LL.drop k)) rfl (by rw [rowC_length ic_len, LD.out]) (fun j' u hj' => (by rw [Addr.add_mid, cV13.cell (p := ⟨g, k + j', none⟩) gU, blk_cell kg]; have h9 := irow_tail HCT.out TD.out hj'; rw [TKL.out] at h9; exact h9)) (rowIn_one_cell _) (by rw [TKL.out]; unfold maxLen; omega) (by rw [TKL.out]; omega) cV13.size ?_
            intro v14 V14 ho2 hg6 _
            have bV14 : Below w.heap.size w V14 := bV13.grown hg6 bV13.size (fun k e => by have h9 := (ho.lt k e).1; omega)
            refine hK.out _ _ trivial (fun _ => ?_)
            clear hK K
            (try simp only [Act.put, List.setIfInBounds_toArray, List.set_cons_zero, List.set_cons_succ, List.getElem_toArray, List.getElem_cons_succ, List.getElem_cons_zero])
            refine wpAnyH_take (i := 12) (oi := _) (v := ?_) rfl (by kernel_rfl) (by kernel_rfl) (by kernel_rfl) (fun _ _ _ h => h) (Or.inl ⟨by rfl, ?_⟩) (by assumption) ?_
            rotate_left
            focus (intro W hSw; (try dsimp only at hSw); go_simp; (try with_reducible rfl))
            (try simp only [Act.put, List.setIfInBounds_toArray, List.set_cons_zero, List.set_cons_succ, List.getElem_toArray, List.getElem_cons_succ, List.getElem_cons_zero])
            refine wpAnyH_done (by kernel_rfl) ?_ _
            have hN : Hid (V14.ownsRow w.heap.size 3 1 v14 (ascO (M ++ [n])).length (rowC ic (ascO (M ++ [n])))) := Lib.hid (by
              have h9 := owns_base ho2 (show w.heap.size ≤ U0.heap.size from sU)
              rw [← NEXT.out, show LL.take k ++ n :: LL.drop k = LL.take k ++ [n] ++ LL.drop k by simp, rowC_append, rowC_append, rowC_one, List.length_append, List.length_append, List.length_singleton, LD.out]
              exact h9)
            have bN := bV14
            clear ho ho2 hg6
            go_wp2
            go_ret
            exact ⟨_, rfl, hN.out, bN⟩
    · have hkl : k = LL.length := by omega
      have NEXT := Lib.hid (KEYI.out k hk HM.out (fun h => absurd h hlt))
      have t0 : decide ((k : Int) < (LL.length : Int)) = false := decide_eq_false (by omega)
      have t1 : decide (k < LL.length) = false := decide_eq_false hlt
      clear HM hkl
      rcases HDO.out with ⟨rfl, hnil⟩ | ⟨g, cur, rfl, _, hbg, hcs, hct⟩
      · have hco0 := HSO.out.2.2.1 rfl
        subst hco0
        have hl0 : LL.length = 0 := by rw [hnil]; rfl
        have TK : Hid (LL.take k = []) := Lib.hid (by rw [hnil]; simp)
        have DK : Hid (LL.drop k = []) := Lib.hid (by rw [hnil]; simp)
        have hk0 : k = 0 := by omega
        have LD : Hid ((LL.drop k).length = 0) := Lib.hid (by rw [DK.out]; rfl)
        have TKL : Hid ((LL.take k).length = 0) := Lib.hid (by rw [TK.out]; rfl)
        clear hnil
        go_upto_region 4 with fail
        refine wp_region_held_drew (S := fun W => True) (by kernel_rfl) trivial (fun hHeld => ?_)
        obtain ⟨U0, eU⟩ : ∃ v, v = wr.drew := ⟨_, rfl⟩
        have bU0 : Below w.heap.size w U0 := (by rw [eU]; exact hBV.drew)
        have cU0 : Below U0.heap.size U0 U0 := Below.refl _ _
        have sU := bU0.size
        rw [← eU]
        clear eU hBV
        refine wpAnyH_take (i := 1) (oi := _) (v := ?_) rfl (by kernel_rfl) (by kernel_rfl) (by kernel_rfl) (fun _ _ _ h => h) (Or.inl ⟨by rfl, ?_⟩) (by assumption) ?_
        rotate_left
        focus (intro W hSw; (try dsimp only at hSw); go_simp; (try with_reducible rfl))
        (try simp only [Act.put, List.setIfInBounds_toArray, List.set_cons_zero, List.set_cons_succ, List.getElem_toArray, List.getElem_cons_succ, List.getElem_cons_zero])
        refine wpAnyH_take (i := 2) (oi := _) (v := ?_) rfl (by kernel_rfl) (by kernel_rfl) (by kernel_rfl) (fun _ _ _ h => h) (Or.inl ⟨by rfl, ?_⟩) (by assumption) ?_
        rotate_left
        focus (intro W hSw; (try dsimp only at hSw); go_simp; (try with_reducible rfl))
        (try simp only [Act.put, List.setIfInBounds_toArray, List.set_cons_zero, List.set_cons_succ, List.getElem_toArray, List.getElem_cons_succ, List.getElem_cons_zero])
        refine wpAnyH_take (i := 3) (oi := _) (v := ?_) rfl (by kernel_rfl) (by kernel_rfl) (by kernel_rfl) (fun _ _ _ h => h) (Or.inl ⟨by rfl, ?_⟩) (by assumption) ?_
        rotate_left
        focus (intro W hSw; (try dsimp only at hSw); go_simp; (try with_reducible rfl))
        (try simp only [Act.put, List.setIfInBounds_toArray, List.set_cons_zero, List.set_cons_succ, List.getElem_toArray, List.getElem_cons_succ, List.getElem_cons_zero])
        refine wpAnyH_take (i := 5) (oi := _) (v := ?_) rfl (by kernel_rfl) (by kernel_rfl) (by kernel_rfl) (fun _ _ _ h => h) (Or.inl ⟨by rfl, ?_⟩) (by assumption) ?_
        rotate_left
        focus (intro W hSw; (try dsimp only at hSw); go_simp; (try with_reducible rfl))
        (try simp only [Act.put, List.setIfInBounds_toArray, List.set_cons_zero, List.set_cons_succ, List.getElem_toArray, List.getElem_cons_succ, List.getElem_cons_zero])
        refine wpAnyH_take (i := 8) (oi := _) (v := ?_) rfl (by kernel_rfl) (by kernel_rfl) (by kernel_rfl) (fun _ _ _ h => h) (Or.inl ⟨by rfl, ?_⟩) (by assumption) ?_
        rotate_left
        focus (intro W hSw; (try dsimp only at hSw); go_simp; (try with_reducible rfl))
        (try simp only [Act.put, List.setIfInBounds_toArray, List.set_cons_zero, List.set_cons_succ, List.getElem_toArray, List.getElem_cons_succ, List.getElem_cons_zero])
        refine wpAnyH_take (i := 9) (oi := _) (v := ?_) rfl (by kernel_rfl) (by kernel_rfl) (by kernel_rfl) (fun _ _ _ h => h) (Or.inl ⟨by rfl, ?_⟩) (by assumption) ?_
        rotate_left
        focus (intro W hSw; (try dsimp only at hSw); go_simp; (try with_reducible rfl))
        (try simp only [Act.put, List.setIfInBounds_toArray, List.set_cons_zero, List.set_cons_succ, List.getElem_toArray, List.getElem_cons_succ, List.getElem_cons_zero])
        refine wpAnyH_take (i := 10) (oi := _) (v := ?_) rfl (by kernel_rfl) (by kernel_rfl) (by kernel_rfl) (fun _ _ _ h => h) (Or.inl ⟨by rfl, ?_⟩) (by assumption) ?_
        rotate_left
        focus (intro W hSw; (try dsimp only at hSw); go_simp; (try with_reducible rfl))
        (try simp only [Act.put, List.setIfInBounds_toArray, List.set_cons_zero, List.set_cons_succ, List.getElem_toArray, List.getElem_cons_succ, List.getElem_cons_zero])
        refine wpAnyH_ready (rs := [0, 6]) (by kernel_rfl) (by simp) ?_
        refine AllReadyH.cons rfl (fun K hK => ?_) ?_
        · skip
          go_simp
          refine hK.out _ _ trivial (fun _ => ?_)
          clear hK K
          (try simp only [Act.put, List.setIfInBounds_toArray, List.set_cons_zero, List.set_cons_succ, List.getElem_toArray, List.getElem_cons_succ, List.getElem_cons_zero])
          obtain ⟨V1, eV⟩ : ∃ v, v = U0.alloc (.cells #[] 3) := ⟨_, rfl⟩
          obtain ⟨n1, en⟩ : ∃ v, v = U0.heap.size := ⟨_, rfl⟩
          have bV1 : Below w.heap.size w V1 := (by rw [eV]; exact bU0.alloc bU0.size _)
          have cV1 : Below U0.heap.size U0 V1 := (by rw [eV]; exact cU0.alloc cU0.size _)
          have oV1 : V1.ownsRow n1 3 1 (.slice (some ⟨n1, 0, none⟩) 0 0) 0 [] := (by rw [eV, en]; exact own_emptyIn _ _)
          have l1 : U0.heap.size ≤ n1 := (by rw [en]; exact cU0.size)
          have u1 : n1 < V1.heap.size := (by rw [eV, en]; simp)
          rw [← eV, ← en]
          clear eV en
          refine wpAnyH_ready (rs := [4, 6]) (by kernel_rfl) (by simp) ?_
          refine AllReadyH.cons rfl (fun K hK => ?_) ?_
          · skip
            refine wp_append_noneI (.tmp 20) (.tmp 23) 31 rfl U0.heap.size 3 i0 1 Tryd.underlying31 Hi.out (.slice (some ⟨n1, 0, none⟩) 0 0) 0 [] rfl (owns_base oV1 l1) rfl ?_
            have OV1 : V1.ownsRow U0.heap.size 3 1 (.slice (some ⟨n1, 0, none⟩) 0 0) (LL.take k).length (rowC ic (LL.take k)) := (by rw [TK.out]; exact owns_base oV1 l1)
            refine hK.out _ _ trivial (fun _ => ?_)
            clear hK K
            (try simp only [Act.put, List.setIfInBounds_toArray, List.set_cons_zero, List.set_cons_succ, List.getElem_toArray, List.getElem_cons_succ, List.getElem_cons_zero])
            refine wpAnyH_ready (rs := [6]) (by kernel_rfl) (by simp) ?_
            refine AllReadyH.cons rfl (fun K hK => ?_) AllReadyH.nil
            go_simp
            refine hK.out _ _ trivial (fun _ => ?_)
            clear hK K
            (try simp only [Act.put, List.setIfInBounds_toArray, List.set_cons_zero, List.set_cons_succ, List.getElem_toArray, List.getElem_cons_succ, List.getElem_cons_zero])
            obtain ⟨V2, eV⟩ : ∃ v, v = V1.alloc (.cells #[.int .i64 n] 3) := ⟨_, rfl⟩
            obtain ⟨n2, en⟩ : ∃ v, v = V1.heap.size := ⟨_, rfl⟩
            have bV2 : Below w.heap.size w V2 := (by rw [eV]; exact bV1.alloc bV1.size _)
            have cV2 : Below U0.heap.size U0 V2 := (by rw [eV]; exact cV1.alloc cV1.size _)
            have z2 : blk V2 n2 = some (ic n).toArray := (by rw [eV, en]; exact blk_alloc_new _ _ _ rfl)
            have l2 : U0.heap.size ≤ n2 := (by rw [en]; exact cV1.size)
            have u2 : n2 < V2.heap.size := (by rw [eV, en]; simp)
            have OV2 : V2.ownsRow U0.heap.size 3 1 _ (LL.take k).length (rowC ic (LL.take k)) := (by rw [eV]; exact OV1.alloc _)
            rw [← eV, ← en]
            clear eV en
            refine wpAnyH_ready (rs := [7]) (by kernel_rfl) (by simp) ?_
            refine AllReadyH.cons rfl (fun K hK => ?_) AllReadyH.nil
            refine wp_append_own _ (.tmp 24) (.tmp 26) 31 rfl U0.heap.size 3 i0 (.int .i64 0) 1 8 Tryd.underlying31 Hi.out Hz0.out Hz1.out Hz2.out rfl (by decide) _ (LL.take k).length (rowC ic (LL.take k)) rfl OV2 ⟨n2, 0, none⟩ 1 1 (ic n) rfl rfl (fun j' u hj' => (by rw [Addr.add_mid, Nat.zero_add, blk_cell z2]; simpa using hj')) (ic_one _) (by rw [TKL.out]; unfold maxLen; omega) (by rw [TKL.out]; omega) cV2.size ?_
            intro v3 V3 ho hg5 _
            have bV3 : Below w.heap.size w V3 := bV2.grown hg5 bV2.size (fun k e => by have h9 := (OV2.lt k e).1; omega)
            have cV3 : Below U0.heap.size U0 V3 := cV2.grown hg5 cV2.size (fun k e => (OV2.lt k e).1)
            refine hK.out _ _ trivial (fun _ => ?_)
            clear hK K
            (try simp only [Act.put, List.setIfInBounds_toArray, List.set_cons_zero, List.set_cons_succ, List.getElem_toArray, List.getElem_cons_succ, List.getElem_cons_zero])
            clear hg5
            refine wpAnyH_ready (rs := [11]) (by kernel_rfl) (by simp) ?_
            refine AllReadyH.cons rfl (fun K hK => ?_) AllReadyH.nil
            refine wp_append_noneI (.tmp 27) (.tmp 30) 31 rfl U0.heap.size 3 i0 1 Tryd.underlying31 Hi.out v3 _ _ rfl ho rfl ?_
            refine hK.out _ _ trivial (fun _ => ?_)
            clear hK K
            (try simp only [Act.put, List.setIfInBounds_toArray, List.set_cons_zero, List.set_cons_succ, List.getElem_toArray, List.getElem_cons_succ, List.getElem_cons_zero])
            refine wpAnyH_take (i := 12) (oi := _) (v := ?_) rfl (by kernel_rfl) (by kernel_rfl) (by kernel_rfl) (fun _ _ _ h => h) (Or.inl ⟨by rfl, ?_⟩) (by assumption) ?_
            rotate_left
            focus (intro W hSw; (try dsimp only at hSw); go_simp; (try with_reducible rfl))
            (try simp only [Act.put, List.setIfInBounds_toArray, List.set_cons_zero, List.set_cons_succ, List.getElem_toArray, List.getElem_cons_succ, List.getElem_cons_zero])
            refine wpAnyH_done (by kernel_rfl) ?_ _
            have hN : Hid (V3.ownsRow w.heap.size 3 1 v3 (ascO (M ++ [n])).length (rowC ic (ascO (M ++ [n])))) := Lib.hid (by
              have h9 := owns_base ho (show w.heap.size ≤ U0.heap.size from sU)
              rw [← NEXT.out, show LL.take k ++ n :: LL.drop k = LL.take k ++ [n] ++ LL.drop k by simp, rowC_append, rowC_append, rowC_one, List.length_append, List.length_append, List.length_singleton, LD.out]
              rw [DK.out]
              simpa [rowC] using h9)
            have bN := bV3
            clear ho
            go_wp2
            go_ret
            exact ⟨_, rfl, hN.out, bN⟩
          refine AllReadyH.cons rfl (fun K hK => ?_) AllReadyH.nil
          go_simp
          refine hK.out _ _ trivial (fun _ => ?_)
          clear hK K
          (try simp only [Act.put, List.setIfInBounds_toArray, List.set_cons_zero, List.set_cons_succ, List.getElem_toArray, List.getElem_cons_succ, List.getElem_cons_zero])
          obtain ⟨V5, eV⟩ : ∃ v, v = V1.alloc (.cells #[.int .i64 n] 3) := ⟨_, rfl⟩
          obtain ⟨n5, en⟩ : ∃ v, v = V1.heap.size := ⟨_, rfl⟩
          have bV5 : Below w.heap.size w V5 := (by rw [eV]; exact bV1.alloc bV1.size _)
          have cV5 : Below U0.heap.size U0 V5 := (by rw [eV]; exact cV1.alloc cV1.size _)
          have z5 : blk V5 n5 = some (ic n).toArray := (by rw [eV, en]; exact blk_alloc_new _ _ _ rfl)
          have l5 : U0.heap.size ≤ n5 := (by rw [en]; exact cV1.size)
          have u5 : n5 < V5.heap.size := (by rw [eV, en]; simp)
          have oV5 : V5.ownsRow n1 3 1 (.slice (some ⟨n1, 0, none⟩) 0 0) 0 [] := (by rw [eV]; exact oV1.alloc _)
          have nz : n5 ≠ n1 := (by rw [en]; omega)
          rw [← eV, ← en]
          clear eV en
          refine wpAnyH_ready (rs := [4]) (by kernel_rfl) (by simp) ?_
          refine AllReadyH.cons rfl (fun K hK => ?_) AllReadyH.nil
          refine wp_append_noneI (.tmp 20) (.tmp 23) 31 rfl U0.heap.size 3 i0 1 Tryd.underlying31 Hi.out (.slice (some ⟨n1, 0, none⟩) 0 0) 0 [] rfl (owns_base oV5 l1) rfl ?_
          have OV5 : V5.ownsRow U0.heap.size 3 1 (.slice (some ⟨n1, 0, none⟩) 0 0) (LL.take k).length (rowC ic (LL.take k)) := (by rw [TK.out]; exact owns_base oV5 l1)
          refine hK.out _ _ trivial (fun _ => ?_)
          clear hK K
          (try simp only [Act.put, List.setIfInBounds_toArray, List.set_cons_zero, List.set_cons_succ, List.getElem_toArray, List.getElem_cons_succ, List.getElem_cons_zero])
          refine wpAnyH_ready (rs := [7]) (by kernel_rfl) (by simp) ?_
          refine AllReadyH.cons rfl (fun K hK => ?_) AllReadyH.nil
          refine wp_append_own _ (.tmp 24) (.tmp 26) 31 rfl U0.heap.size 3 i0 (.int .i64 0) 1 8 Tryd.underlying31 Hi.out Hz0.out Hz1.out Hz2.out rfl (by decide) _ (LL.take k).length (rowC ic (LL.take k)) rfl OV5 ⟨n5, 0, none⟩ 1 1 (ic n) rfl rfl (fun j' u hj' => (by rw [Addr.add_mid, Nat.zero_add, blk_cell z5]; simpa using hj')) (ic_one _) (by rw [TKL.out]; unfold maxLen; omega) (by rw [TKL.out]; omega) cV5.size ?_
          intro v6 V6 ho hg5 _
          have bV6 : Below w.heap.size w V6 := bV5.grown hg5 bV5.size (fun k e => by have h9 := (OV5.lt k e).1; omega)
          have cV6 : Below U0.heap.size U0 V6 := cV5.grown hg5 cV5.size (fun k e => (OV5.lt k e).1)
          refine hK.out _ _ trivial (fun _ => ?_)
          clear hK K
          (try simp only [Act.put, List.setIfInBounds_toArray, List.set_cons_zero, List.set_cons_succ, List.getElem_toArray, List.getElem_cons_succ, List.getElem_cons_zero])
          clear hg5
          refine wpAnyH_ready (rs := [11]) (by kernel_rfl) (by simp) ?_
          refine AllReadyH.cons rfl (fun K hK => ?_) AllReadyH.nil
          refine wp_append_noneI (.tmp 27) (.tmp 30) 31 rfl U0.heap.size 3 i0 1 Tryd.underlying31 Hi.out v6 _ _ rfl ho rfl ?_
          refine hK.out _ _ trivial (fun _ => ?_)
          clear hK K
          (try simp only [Act.put, List.setIfInBounds_toArray, List.set_cons_zero, List.set_cons_succ, List.getElem_toArray, List.getElem_cons_succ, List.getElem_cons_zero])
          refine wpAnyH_take (i := 12) (oi := _) (v := ?_) rfl (by kernel_rfl) (by kernel_rfl) (by kernel_rfl) (fun _ _ _ h => h) (Or.inl ⟨by rfl, ?_⟩) (by assumption) ?_
          rotate_left
          focus (intro W hSw; (try dsimp only at hSw); go_simp; (try with_reducible rfl))
          (try simp only [Act.put, List.setIfInBounds_toArray, List.set_cons_zero, List.set_cons_succ, List.getElem_toArray, List.getElem_cons_succ, List.getElem_cons_zero])
          refine wpAnyH_done (by kernel_rfl) ?_ _
          have hN : Hid (V6.ownsRow w.heap.size 3 1 v6 (ascO (M ++ [n])).length (rowC ic (ascO (M ++ [n])))) := Lib.hid (by
            have h9 := owns_base ho (show w.heap.size ≤ U0.heap.size from sU)
            rw [← NEXT.out, show LL.take k ++ n :: LL.drop k = LL.take k ++ [n] ++ LL.drop k by simp, rowC_append, rowC_append, rowC_one, List.length_append, List.length_append, List.length_singleton, LD.out]
            rw [DK.out]
            simpa [rowC] using h9)
          have bN := bV6
          clear ho
          go_wp2
          go_ret
          exact ⟨_, rfl, hN.out, bN⟩
        refine AllReadyH.cons rfl (fun K hK => ?_) AllReadyH.nil
        go_simp
        refine hK.out _ _ trivial (fun _ => ?_)
        clear hK K
        (try simp only [Act.put, List.setIfInBounds_toArray, List.set_cons_zero, List.set_cons_succ, List.getElem_toArray, List.getElem_cons_succ, List.getElem_cons_zero])
        obtain ⟨V8, eV⟩ : ∃ v, v = U0.alloc (.cells #[.int .i64 n] 3) := ⟨_, rfl⟩
        obtain ⟨n8, en⟩ : ∃ v, v = U0.heap.size := ⟨_, rfl⟩
        have bV8 : Below w.heap.size w V8 := (by rw [eV]; exact bU0.alloc bU0.size _)
        have cV8 : Below U0.heap.size U0 V8 := (by rw [eV]; exact cU0.alloc cU0.size _)
        have z8 : blk V8 n8 = some (ic n).toArray := (by rw [eV, en]; exact blk_alloc_new _ _ _ rfl)
        have l8 : U0.heap.size ≤ n8 := (by rw [en]; exact cU0.size)
        have u8 : n8 < V8.heap.size := (by rw [eV, en]; simp)
        rw [← eV, ← en]
        clear eV en
        refine wpAnyH_ready (rs := [0]) (by kernel_rfl) (by simp) ?_
        refine AllReadyH.cons rfl (fun K hK => ?_) AllReadyH.nil
        go_simp
        refine hK.out _ _ trivial (fun _ => ?_)
        clear hK K
        (try simp only [Act.put, List.setIfInBounds_toArray, List.set_cons_zero, List.set_cons_succ, List.getElem_toArray, List.getElem_cons_succ, List.getElem_cons_zero])
        obtain ⟨V9, eV⟩ : ∃ v, v = V8.alloc (.cells #[] 3) := ⟨_, rfl⟩
        obtain ⟨n9, en⟩ : ∃ v, v = V8.heap.size := ⟨_, rfl⟩
        have bV9 : Below w.heap.size w V9 := (by rw [eV]; exact bV8.alloc bV8.size _)
        have cV9 : Below U0.heap.size U0 V9 := (by rw [eV]; exact cV8.alloc cV8.size _)
        have oV9 : V9.ownsRow n9 3 1 (.slice (some ⟨n9, 0, none⟩) 0 0) 0 [] := (by rw [eV, en]; exact own_emptyIn _ _)
        have l9 : U0.heap.size ≤ n9 := (by rw [en]; exact cV8.size)
        have u9 : n9 < V9.heap.size := (by rw [eV, en]; simp)
        have nz : n8 ≠ n9 := (by rw [en]; omega)
        replace z8 := (by rw [eV]; exact blk_alloc z8 _ : blk V9 n8 = some (ic n).toArray)
        replace u8 : n8 < V9.heap.size := (by rw [eV]; simp; omega)
        rw [← eV, ← en]
        clear eV en
        refine wpAnyH_ready (rs := [4]) (by kernel_rfl) (by simp) ?_
        refine AllReadyH.cons rfl (fun K hK => ?_) AllReadyH.nil
        refine wp_append_noneI (.tmp 20) (.tmp 23) 31 rfl U0.heap.size 3 i0 1 Tryd.underlying31 Hi.out (.slice (some ⟨n9, 0, none⟩) 0 0) 0 [] rfl (owns_base oV9 l9) rfl ?_
        have OV9 : V9.ownsRow U0.heap.size 3 1 (.slice (some ⟨n9, 0, none⟩) 0 0) (LL.take k).length (rowC ic (LL.take k)) := (by rw [TK.out]; exact owns_base oV9 l9)
        refine hK.out _ _ trivial (fun _ => ?_)
        clear hK K
        (try simp only [Act.put, List.setIfInBounds_toArray, List.set_cons_zero, List.set_cons_succ, List.getElem_toArray, List.getElem_cons_succ, List.getElem_cons_zero])
        refine wpAnyH_ready (rs := [7]) (by kernel_rfl) (by simp) ?_
        refine AllReadyH.cons rfl (fun K hK => ?_) AllReadyH.nil
        refine wp_append_own _ (.tmp 24) (.tmp 26) 31 rfl U0.heap.size 3 i0 (.int .i64 0) 1 8 Tryd.underlying31 Hi.out Hz0.out Hz1.out Hz2.out rfl (by decide) _ (LL.take k).length (rowC ic (LL.take k)) rfl OV9 ⟨n8, 0, none⟩ 1 1 (ic n) rfl rfl (fun j' u hj' => (by rw [Addr.add_mid, Nat.zero_add, blk_cell z8]; simpa using hj')) (ic_one _) (by rw [TKL.out]; unfold maxLen; omega) (by rw [TKL.out]; omega) cV9.size ?_
        intro v10 V10 ho hg5 _
        have bV10 : Below w.heap.size w V10 := bV9.grown hg5 bV9.size (fun k e => by have h9 := (OV9.lt k e).1; omega)
        have cV10 : Below U0.heap.size U0 V10 := cV9.grown hg5 cV9.size (fun k e => (OV9.lt k e).1)
        refine hK.out _ _ trivial (fun _ => ?_)
        clear hK K
        (try simp only [Act.put, List.setIfInBounds_toArray, List.set_cons_zero, List.set_cons_succ, List.getElem_toArray, List.getElem_cons_succ, List.getElem_cons_zero])
        clear hg5
        refine wpAnyH_ready (rs := [11]) (by kernel_rfl) (by simp) ?_
        refine AllReadyH.cons rfl (fun K hK => ?_) AllReadyH.nil
        refine wp_append_noneI (.tmp 27) (.tmp 30) 31 rfl U0.heap.size 3 i0 1 Tryd.underlying31 Hi.out v10 _ _ rfl ho rfl ?_
        refine hK.out _ _ trivial (fun _ => ?_)
        clear hK K
        (try simp only [Act.put, List.setIfInBounds_toArray, List.set_cons_zero, List.set_cons_succ, List.getElem_toArray, List.getElem_cons_succ, List.getElem_cons_zero])
        refine wpAnyH_take (i := 12) (oi := _) (v := ?_) rfl (by kernel_rfl) (by kernel_rfl) (by kernel_rfl) (fun _ _ _ h => h) (Or.inl ⟨by rfl, ?_⟩) (by assumption) ?_
        rotate_left
        focus (intro W hSw; (try dsimp only at hSw); go_simp; (try with_reducible rfl))
        (try simp only [Act.put, List.setIfInBounds_toArray, List.set_cons_zero, List.set_cons_succ, List.getElem_toArray, List.getElem_cons_succ, List.getElem_cons_zero])
        refine wpAnyH_done (by kernel_rfl) ?_ _
        have hN : Hid (V10.ownsRow w.heap.size 3 1 v10 (ascO (M ++ [n])).length (rowC ic (ascO (M ++ [n])))) := Lib.hid (by
          have h9 := owns_base ho (show w.heap.size ≤ U0.heap.size from sU)
          rw [← NEXT.out, show LL.take k ++ n :: LL.drop k = LL.take k ++ [n] ++ LL.drop k by simp, rowC_append, rowC_append, rowC_one, List.length_append, List.length_append, List.length_singleton, LD.out]
          rw [DK.out]
          simpa [rowC] using h9)
        have bN := bV10
        clear ho
        go_wp2
        go_ret
        exact ⟨_, rfl, hN.out, bN⟩
      · by_cases hkc : k = co
        · subst hkc
          have kgU := blk_below hBV hbg
          have HCT := Lib.hid hct
          have TKL : Hid ((LL.take k).length = k) := Lib.hid (by rw [List.length_take]; omega)
          have TD : Hid (LL = LL.take k ++ LL.drop k) := Lib.hid (List.take_append_drop k LL).symm
          have LD : Hid ((LL.drop k).length = 0) := Lib.hid (by rw [List.length_drop]; omega)
          have DK : Hid (LL.drop k = []) := Lib.hid (List.drop_of_length_le (by omega))
          clear hct hcs hbg
          go_upto_region 4 with fail
          refine wp_region_held_drew (S := fun W => True) (by kernel_rfl) trivial (fun hHeld => ?_)
          obtain ⟨U0, eU⟩ : ∃ v, v = wr.drew := ⟨_, rfl⟩
          have bU0 : Below w.heap.size w U0 := (by rw [eU]; exact hBV.drew)
          have cU0 : Below U0.heap.size U0 U0 := Below.refl _ _
          have sU := bU0.size
          have kg : blk U0 g = some cur := (by rw [eU]; exact blk_drew kgU)
          have gU := blk_lt kg
          clear kgU
          rw [← eU]
          clear eU hBV
          refine wpAnyH_take (i := 1) (oi := _) (v := ?_) rfl (by kernel_rfl) (by kernel_rfl) (by kernel_rfl) (fun _ _ _ h => h) (Or.inl ⟨by rfl, ?_⟩) (by assumption) ?_
          rotate_left
          focus (intro W hSw; (try dsimp only at hSw); go_simp; (try with_reducible rfl))
          (try simp only [Act.put, List.setIfInBounds_toArray, List.set_cons_zero, List.set_cons_succ, List.getElem_toArray, List.getElem_cons_succ, List.getElem_cons_zero])
          refine wpAnyH_take (i := 2) (oi := _) (v := ?_) rfl (by kernel_rfl) (by kernel_rfl) (by kernel_rfl) (fun _ _ _ h => h) (Or.inl ⟨by rfl, ?_⟩) (by assumption) ?_
          rotate_left
          focus (intro W hSw; (try dsimp only at hSw); go_simp; (try with_reducible rfl))
          (try simp only [Act.put, List.setIfInBounds_toArray, List.set_cons_zero, List.set_cons_succ, List.getElem_toArray, List.getElem_cons_succ, List.getElem_cons_zero])
          refine wpAnyH_take (i := 3) (oi := _) (v := ?_) rfl (by kernel_rfl) (by kernel_rfl) (by kernel_rfl) (fun _ _ _ h => h) (Or.inl ⟨by rfl, ?_⟩) (by assumption) ?_
          rotate_left
          focus (intro W hSw; (try dsimp only at hSw); go_simp; (try with_reducible rfl))
          (try simp only [Act.put, List.setIfInBounds_toArray, List.set_cons_zero, List.set_cons_succ, List.getElem_toArray, List.getElem_cons_succ, List.getElem_cons_zero])
          refine wpAnyH_take (i := 5) (oi := _) (v := ?_) rfl (by kernel_rfl) (by kernel_rfl) (by kernel_rfl) (fun _ _ _ h => h) (Or.inl ⟨by rfl, ?_⟩) (by assumption) ?_
          rotate_left
          focus (intro W hSw; (try dsimp only at hSw); go_simp; (try with_reducible rfl))
          (try simp only [Act.put, List.setIfInBounds_toArray, List.set_cons_zero, List.set_cons_succ, List.getElem_toArray, List.getElem_cons_succ, List.getElem_cons_zero])
          refine wpAnyH_take (i := 8) (oi := _) (v := ?_) rfl (by kernel_rfl) (by kernel_rfl) (by kernel_rfl) (fun _ _ _ h => h) (Or.inl ⟨by rfl, ?_⟩) (by assumption) ?_
          rotate_left
          focus (intro W hSw; (try dsimp only at hSw); go_simp; (try with_reducible rfl))
          (try simp only [Act.put, List.setIfInBounds_toArray, List.set_cons_zero, List.set_cons_succ, List.getElem_toArray, List.getElem_cons_succ, List.getElem_cons_zero])
          refine wpAnyH_take (i := 9) (oi := _) (v := ?_) rfl (by kernel_rfl) (by kernel_rfl) (by kernel_rfl) (fun _ _ _ h => h) (Or.inl ⟨by rfl, ?_⟩) (by assumption) ?_
          rotate_left
          focus (intro W hSw; (try dsimp only at hSw); go_simp; (try with_reducible rfl))
          (try simp only [Act.put, List.setIfInBounds_toArray, List.set_cons_zero, List.set_cons_succ, List.getElem_toArray, List.getElem_cons_succ, List.getElem_cons_zero])
          refine wpAnyH_take (i := 10) (oi := _) (v := ?_) rfl (by kernel_rfl) (by kernel_rfl) (by kernel_rfl) (fun _ _ _ h => h) (Or.inl ⟨by rfl, ?_⟩) (by assumption) ?_
          rotate_left
          focus (intro W hSw; (try dsimp only at hSw); go_simp; (try with_reducible rfl))
          (try simp only [Act.put, List.setIfInBounds_toArray, List.set_cons_zero, List.set_cons_succ, List.getElem_toArray, List.getElem_cons_succ, List.getElem_cons_zero])
          refine wpAnyH_ready (rs := [0, 6]) (by kernel_rfl) (by simp) ?_
          refine AllReadyH.cons rfl (fun K hK => ?_) ?_
          · skip
            go_simp
            refine hK.out _ _ trivial (fun _ => ?_)
            clear hK K
            (try simp only [Act.put, List.setIfInBounds_toArray, List.set_cons_zero, List.set_cons_succ, List.getElem_toArray, List.getElem_cons_succ, List.getElem_cons_zero])
            obtain ⟨V1, eV⟩ : ∃ v, v = U0.alloc (.cells #[] 3) := ⟨_, rfl⟩
            obtain ⟨n1, en⟩ : ∃ v, v = U0.heap.size := ⟨_, rfl⟩
            have bV1 : Below w.heap.size w V1 := (by rw [eV]; exact bU0.alloc bU0.size _)
            have cV1 : Below U0.heap.size U0 V1 := (by rw [eV]; exact cU0.alloc cU0.size _)
            have oV1 : V1.ownsRow n1 3 1 (.slice (some ⟨n1, 0, none⟩) 0 0) 0 [] := (by rw [eV, en]; exact own_emptyIn _ _)
            have l1 : U0.heap.size ≤ n1 := (by rw [en]; exact cU0.size)
            have u1 : n1 < V1.heap.size := (by rw [eV, en]; simp)
            rw [← eV, ← en]
            clear eV en
            refine wpAnyH_ready (rs := [4, 6]) (by kernel_rfl) (by simp) ?_
            refine AllReadyH.cons rfl (fun K hK => ?_) ?_
            · skip
              refine wp_append_own _ (.tmp 20) (.tmp 23) 31 rfl U0.heap.size 3 i0 (.int .i64 0) 1 8 Tryd.underlying31 Hi.out Hz0.out Hz1.out Hz2.out rfl (by decide) (.slice (some ⟨n1, 0, none⟩) 0 0) 0 [] rfl (owns_base oV1 l1) ⟨g, 0, none⟩ k k (rowC ic (LL.take k)) rfl (by rw [rowC_length ic_len, TKL.out]) (fun j' u hj' => (by rw [Addr.add_mid, Nat.zero_add, cV1.cell (p := ⟨g, j', none⟩) gU, blk_cell kg]; exact irow_head HCT.out TD.out hj')) (rowIn_one_cell _) (by unfold maxLen; omega) (by omega) cV1.size ?_
              intro v2 V2 ho hg5 _
              have bV2 : Below w.heap.size w V2 := bV1.grown hg5 bV1.size (fun k e => by have h9 := (oV1.lt k e).1; omega)
              have cV2 : Below U0.heap.size U0 V2 := cV1.grown hg5 cV1.size (fun k e => by have h9 := (oV1.lt k e).1; omega)
              have OV2 : V2.ownsRow U0.heap.size 3 1 v2 (LL.take k).length (rowC ic (LL.take k)) := (by have h9 := ho; rw [Nat.zero_add, List.nil_append] at h9; rw [TKL.out]; exact h9)
              refine hK.out _ _ trivial (fun _ => ?_)
              clear hK K
              (try simp only [Act.put, List.setIfInBounds_toArray, List.set_cons_zero, List.set_cons_succ, List.getElem_toArray, List.getElem_cons_succ, List.getElem_cons_zero])
              clear ho hg5
              refine wpAnyH_ready (rs := [6]) (by kernel_rfl) (by simp) ?_
              refine AllReadyH.cons rfl (fun K hK => ?_) AllReadyH.nil
              go_simp
              refine hK.out _ _ trivial (fun _ => ?_)
              clear hK K
              (try simp only [Act.put, List.setIfInBounds_toArray, List.set_cons_zero, List.set_cons_succ, List.getElem_toArray, List.getElem_cons_succ, List.getElem_cons_zero])
              obtain ⟨V3, eV⟩ : ∃ v, v = V2.alloc (.cells #[.int .i64 n] 3) := ⟨_, rfl⟩
              obtain ⟨n3, en⟩ : ∃ v, v = V2.heap.size := ⟨_, rfl⟩
              have bV3 : Below w.heap.size w V3 := (by rw [eV]; exact bV2.alloc bV2.size _)
              have cV3 : Below U0.heap.size U0 V3 := (by rw [eV]; exact cV2.alloc cV2.size _)
              have z3 : blk V3 n3 = some (ic n).toArray := (by rw [eV, en]; exact blk_alloc_new _ _ _ rfl)
              have l3 : U0.heap.size ≤ n3 := (by rw [en]; exact cV2.size)
              have u3 : n3 < V3.heap.size := (by rw [eV, en]; simp)
              have OV3 : V3.ownsRow U0.heap.size 3 1 _ (LL.take k).length (rowC ic (LL.take k)) := (by rw [eV]; exact OV2.alloc _)
              rw [← eV, ← en]
              clear eV en
              refine wpAnyH_ready (rs := [7]) (by kernel_rfl) (by simp) ?_
              refine AllReadyH.cons rfl (fun K hK => ?_) AllReadyH.nil
              refine wp_append_own _ (.tmp 24) (.tmp 26) 31 rfl U0.heap.size 3 i0 (.int .i64 0) 1 8 Tryd.underlying31 Hi.out Hz0.out Hz1.out Hz2.out rfl (by decide) _ (LL.take k).length (rowC ic (LL.take k)) rfl OV3 ⟨n3, 0, none⟩ 1 1 (ic n) rfl rfl (fun j' u hj' => (by rw [Addr.add_mid, Nat.zero_add, blk_cell z3]; simpa using hj')) (ic_one _) (by rw [TKL.out]; unfold maxLen; omega) (by rw [TKL.out]; omega) cV3.size ?_
              intro v4 V4 ho hg5 _
              have bV4 : Below w.heap.size w V4 := bV3.grown hg5 bV3.size (fun k e => by have h9 := (OV3.lt k e).1; omega)
              have cV4 : Below U0.heap.size U0 V4 := cV3.grown hg5 cV3.size (fun k e => (OV3.lt k e).1)
              refine hK.out _ _ trivial (fun _ => ?_)
              clear hK K
              (try simp only [Act.put, List.setIfInBounds_toArray, List.set_cons_zero, List.set_cons_succ, List.getElem_toArray, List.getElem_cons_succ, List.getElem_cons_zero])
              clear hg5
              refine wpAnyH_ready (rs := [11]) (by kernel_rfl) (by simp) ?_
              refine AllReadyH.cons rfl (fun K hK => ?_) AllReadyH.nil
              refine wp_append_own _ (.tmp 27) (.tmp 30) 31 rfl U0.heap.size 3 i0 (.int .i64 0) 1 8 Tryd.underlying31 Hi.out Hz0.out Hz1.out Hz2.out rfl (by decide) v4 ((LL.take k).length + 1) (rowC ic (LL.take k) ++ ic n) rfl ho ⟨g, 0, none⟩ 0 0 (rowC ic (LL.drop k)) rfl (by rw [rowC_length ic_len, LD.out]) (fun j' u hj' => by rw [DK.out] at hj'; simp [rowC] at hj') (rowIn_one_cell _) (by rw [TKL.out]; unfold maxLen; omega) (by rw [TKL.out]; omega) cV4.size ?_
              intro v5 V5 ho2 hg6 _
              have bV5 : Below w.heap.size w V5 := bV4.grown hg6 bV4.size (fun k e => by have h9 := (ho.lt k e).1; omega)
              refine hK.out _ _ trivial (fun _ => ?_)
              clear hK K
              (try simp only [Act.put, List.setIfInBounds_toArray, List.set_cons_zero, List.set_cons_succ, List.getElem_toArray, List.getElem_cons_succ, List.getElem_cons_zero])
              refine wpAnyH_take (i := 12) (oi := _) (v := ?_) rfl (by kernel_rfl) (by kernel_rfl) (by kernel_rfl) (fun _ _ _ h => h) (Or.inl ⟨by rfl, ?_⟩) (by assumption) ?_
              rotate_left
              focus (intro W hSw; (try dsimp only at hSw); go_simp; (try with_reducible rfl))
              (try simp only [Act.put, List.setIfInBounds_toArray, List.set_cons_zero, List.set_cons_succ, List.getElem_toArray, List.getElem_cons_succ, List.getElem_cons_zero])
              refine wpAnyH_done (by kernel_rfl) ?_ _
              have hN : Hid (V5.ownsRow w.heap.size 3 1 v5 (ascO (M ++ [n])).length (rowC ic (ascO (M ++ [n])))) := Lib.hid (by
                have h9 := owns_base ho2 (show w.heap.size ≤ U0.heap.size from sU)
                rw [← NEXT.out, show LL.take k ++ n :: LL.drop k = LL.take k ++ [n] ++ LL.drop k by simp, rowC_append, rowC_append, rowC_one, List.length_append, List.length_append, List.length_singleton, LD.out]
                exact h9)
              have bN := bV5
              clear ho ho2 hg6
              go_wp2
              go_ret
              exact ⟨_, rfl, hN.out, bN⟩
            refine AllReadyH.cons rfl (fun K hK => ?_) AllReadyH.nil
            go_simp
            refine hK.out _ _ trivial (fun _ => ?_)
            clear hK K
            (try simp only [Act.put, List.setIfInBounds_toArray, List.set_cons_zero, List.set_cons_succ, List.getElem_toArray, List.getElem_cons_succ, List.getElem_cons_zero])
            obtain ⟨V6, eV⟩ : ∃ v, v = V1.alloc (.cells #[.int .i64 n] 3) := ⟨_, rfl⟩
            obtain ⟨n6, en⟩ : ∃ v, v = V1.heap.size := ⟨_, rfl⟩
            have bV6 : Below w.heap.size w V6 := (by rw [eV]; exact bV1.alloc bV1.size _)
            have cV6 : Below U0.heap.size U0 V6 := (by rw [eV]; exact cV1.alloc cV1.size _)
            have z6 : blk V6 n6 = some (ic n).toArray := (by rw [eV, en]; exact blk_alloc_new _ _ _ rfl)
            have l6 : U0.heap.size ≤ n6 := (by rw [en]; exact cV1.size)
            have u6 : n6 < V6.heap.size := (by rw [eV, en]; simp)
            have oV6 : V6.ownsRow n1 3 1 (.slice (some ⟨n1, 0, none⟩) 0 0) 0 [] := (by rw [eV]; exact oV1.alloc _)
            have nz : n6 ≠ n1 := (by rw [en]; omega)
            rw [← eV, ← en]
            clear eV en
            refine wpAnyH_ready (rs := [4]) (by kernel_rfl) (by simp) ?_
            refine AllReadyH.cons rfl (fun K hK => ?_) AllReadyH.nil
            refine wp_append_own _ (.tmp 20) (.tmp 23) 31 rfl U0.heap.size 3 i0 (.int .i64 0) 1 8 Tryd.underlying31 Hi.out Hz0.out Hz1.out Hz2.out rfl (by decide) (.slice (some ⟨n1, 0, none⟩) 0 0) 0 [] rfl (owns_base oV6 l1) ⟨g, 0, none⟩ k k (rowC ic (LL.take k)) rfl (by rw [rowC_length ic_len, TKL.out]) (fun j' u hj' => (by rw [Addr.add_mid, Nat.zero_add, cV6.cell (p := ⟨g, j', none⟩) gU, blk_cell kg]; exact irow_head HCT.out TD.out hj')) (rowIn_one_cell _) (by unfold maxLen; omega) (by omega) cV6.size ?_
            intro v7 V7 ho hg5 _
            have bV7 : Below w.heap.size w V7 := bV6.grown hg5 bV6.size (fun k e => by have h9 := (oV6.lt k e).1; omega)
            have cV7 : Below U0.heap.size U0 V7 := cV6.grown hg5 cV6.size (fun k e => by have h9 := (oV6.lt k e).1; omega)
            have OV7 : V7.ownsRow U0.heap.size 3 1 v7 (LL.take k).length (rowC ic (LL.take k)) := (by have h9 := ho; rw [Nat.zero_add, List.nil_append] at h9; rw [TKL.out]; exact h9)
            replace z6 := (blk_kept (hg5.block n6 u6 (fun e => by simp [Value.ownBlock] at e; omega))).trans z6
            replace u6 := Nat.lt_of_lt_of_le u6 hg5.size
            refine hK.out _ _ trivial (fun _ => ?_)
            clear hK K
            (try simp only [Act.put, List.setIfInBounds_toArray, List.set_cons_zero, List.set_cons_succ, List.getElem_toArray, List.getElem_cons_succ, List.getElem_cons_zero])
            clear ho hg5
            refine wpAnyH_ready (rs := [7]) (by kernel_rfl) (by simp) ?_
            refine AllReadyH.cons rfl (fun K hK => ?_) AllReadyH.nil
            refine wp_append_own _ (.tmp 24) (.tmp 26) 31 rfl U0.heap.size 3 i0 (.int .i64 0) 1 8 Tryd.underlying31 Hi.out Hz0.out Hz1.out Hz2.out rfl (by decide) _ (LL.take k).length (rowC ic (LL.take k)) rfl OV7 ⟨n6, 0, none⟩ 1 1 (ic n) rfl rfl (fun j' u hj' => (by rw [Addr.add_mid, Nat.zero_add, blk_cell z6]; simpa using hj')) (ic_one _) (by rw [TKL.out]; unfold maxLen; omega) (by rw [TKL.out]; omega) cV7.size ?_
            intro v8 V8 ho hg5 _
            have bV8 : Below w.heap.size w V8 := bV7.grown hg5 bV7.size (fun k e => by have h9 := (OV7.lt k e).1; omega)
            have cV8 : Below U0.heap.size U0 V8 := cV7.grown hg5 cV7.size (fun k e => (OV7.lt k e).1)
            refine hK.out _ _ trivial (fun _ => ?_)
            clear hK K
            (try simp only [Act.put, List.setIfInBounds_toArray, List.set_cons_zero, List.set_cons_succ, List.getElem_toArray, List.getElem_cons_succ, List.getElem_cons_zero])
            clear hg5
            refine wpAnyH_ready (rs := [11]) (by kernel_rfl) (by simp) ?_
            refine AllReadyH.cons rfl (fun K hK => ?_) AllReadyH.nil
            refine wp_append_own _ (.tmp 27) (.tmp 30) 31 rfl U0.heap.size 3 i0 (.int .i64 0) 1 8 Tryd.underlying31 Hi.out Hz0.out Hz1.out Hz2.out rfl (by decide) v8 ((LL.take k).length + 1) (rowC ic (LL.take k) ++ ic n) rfl ho ⟨g, 0, none⟩ 0 0 (rowC ic (LL.drop k)) rfl (by rw [rowC_length ic_len, LD.out]) (fun j' u hj' => by rw [DK.out] at hj'; simp [rowC] at hj') (rowIn_one_cell _) (by rw [TKL.out]; unfold maxLen; omega) (by rw [TKL.out]; omega) cV8.size ?_
            intro v9 V9 ho2 hg6 _
            have bV9 : Below w.heap.size w V9 := bV8.grown hg6 bV8.size (fun k e => by have h9 := (ho.lt k e).1; omega)
            refine hK.out _ _ trivial (fun _ => ?_)
            clear hK K
            (try simp only [Act.put, List.setIfInBounds_toArray, List.set_cons_zero, List.set_cons_succ, List.getElem_toArray, List.getElem_cons_succ, List.getElem_cons_zero])
            refine wpAnyH_take (i := 12) (oi := _) (v := ?_) rfl (by kernel_rfl) (by kernel_rfl) (by kernel_rfl) (fun _ _ _ h => h) (Or.inl ⟨by rfl, ?_⟩) (by assumption) ?_
            rotate_left
            focus (intro W hSw; (try dsimp only at hSw); go_simp; (try with_reducible rfl))
            (try simp only [Act.put, List.setIfInBounds_toArray, List.set_cons_zero, List.set_cons_succ, List.getElem_toArray, List.getElem_cons_succ, List.getElem_cons_zero])
            refine wpAnyH_done (by kernel_rfl) ?_ _
            have hN : Hid (V9.ownsRow w.heap.size 3 1 v9 (ascO (M ++ [n])).length (rowC ic (ascO (M ++ [n])))) := Lib.hid (by
              have h9 := owns_base ho2 (show w.heap.size ≤ U0.heap.size from sU)
              rw [← NEXT.out, show LL.take k ++ n :: LL.drop k = LL.take k ++ [n] ++ LL.drop k by simp, rowC_append, rowC_append, rowC_one, List.length_append, List.length_append, List.length_singleton, LD.out]
              exact h9)
            have bN := bV9
            clear ho ho2 hg6
            go_wp2
            go_ret
            exact ⟨_, rfl, hN.out, bN⟩
          refine AllReadyH.cons rfl (fun K hK => ?_) AllReadyH.nil
          go_simp
          refine hK.out _ _ trivial (fun _ => ?_)
          clear hK K
          (try simp only [Act.put, List.setIfInBounds_toArray, List.set_cons_zero, List.set_cons_succ, List.getElem_toArray, List.getElem_cons_succ, List.getElem_cons_zero])
          obtain ⟨V10, eV⟩ : ∃ v, v = U0.alloc (.cells #[.int .i64 n] 3) := ⟨_, rfl⟩
          obtain ⟨n10, en⟩ : ∃ v, v = U0.heap.size := ⟨_, rfl⟩
          have bV10 : Below w.heap.size w V10 := (by rw [eV]; exact bU0.alloc bU0.size _)
          have cV10 : Below U0.heap.size U0 V10 := (by rw [eV]; exact cU0.alloc cU0.size _)
          have z10 : blk V10 n10 = some (ic n).toArray := (by rw [eV, en]; exact blk_alloc_new _ _ _ rfl)
          have l10 : U0.heap.size ≤ n10 := (by rw [en]; exact cU0.size)
          have u10 : n10 < V10.heap.size := (by rw [eV, en]; simp)
          rw [← eV, ← en]
          clear eV en
          refine wpAnyH_ready (rs := [0]) (by kernel_rfl) (by simp) ?_
          refine AllReadyH.cons rfl (fun K hK => ?_) AllReadyH.nil
          go_simp
          refine hK.out _ _ trivial (fun _ => ?_)
          clear hK K
          (try simp only [Act.put, List.setIfInBounds_toArray, List.set_cons_zero, List.set_cons_succ, List.getElem_toArray, List.getElem_cons_succ, List.getElem_cons_zero])
          obtain ⟨V11, eV⟩ : ∃ v, v = V10.alloc (.cells #[] 3) := ⟨_, rfl⟩
          obtain ⟨n11, en⟩ : ∃ v, v = V10.heap.size := ⟨_, rfl⟩
          have bV11 : Below w.heap.size w V11 := (by rw [eV]; exact bV10.alloc bV10.size _)
          have cV11 : Below U0.heap.size U0 V11 := (by rw [eV]; exact cV10.alloc cV10.size _)
          have oV11 : V11.ownsRow n11 3 1 (.slice (some ⟨n11, 0, none⟩) 0 0) 0 [] := (by rw [eV, en]; exact own_emptyIn _ _)
          have l11 : U0.heap.size ≤ n11 := (by rw [en]; exact cV10.size)
          have u11 : n11 < V11.heap.size := (by rw [eV, en]; simp)
          have nz : n10 ≠ n11 := (by rw [en]; omega)
          replace z10 := (by rw [eV]; exact blk_alloc z10 _ : blk V11 n10 = some (ic n).toArray)
          replace u10 : n10 < V11.heap.size := (by rw [eV]; simp; omega)
          rw [← eV, ← en]
          clear eV en
          refine wpAnyH_ready (rs := [4]) (by kernel_rfl) (by simp) ?_
          refine AllReadyH.cons rfl (fun K hK => ?_) AllReadyH.nil
          refine wp_append_own _ (.tmp 20) (.tmp 23) 31 rfl U0.heap.size 3 i0 (.int .i64 0) 1 8 Tryd.underlying31 Hi.out Hz0.out Hz1.out Hz2.out rfl (by decide) (.slice (some ⟨n11, 0, none⟩) 0 0) 0 [] rfl (owns_base oV11 l11) ⟨g, 0, none⟩ k k (rowC ic (LL.take k)) rfl (by rw [rowC_length ic_len, TKL.out]) (fun j' u hj' => (by rw [Addr.add_mid, Nat.zero_add, cV11.cell (p := ⟨g, j', none⟩) gU, blk_cell kg]; exact irow_head HCT.out TD.out hj')) (rowIn_one_cell _) (by unfold maxLen; omega) (by omega) cV11.size ?_
          intro v12 V12 ho hg5 _
          have bV12 : Below w.heap.size w V12 := bV11.grown hg5 bV11.size (fun k e => by have h9 := (oV11.lt k e).1; omega)
          have cV12 : Below U0.heap.size U0 V12 := cV11.grown hg5 cV11.size (fun k e => by have h9 := (oV11.lt k e).1; omega)
          have OV12 : V12.ownsRow U0.heap.size 3 1 v12 (LL.take k).length (rowC ic (LL.take k)) := (by have h9 := ho; rw [Nat.zero_add, List.nil_append] at h9; rw [TKL.out]; exact h9)
          replace z10 := (blk_kept (hg5.block n10 u10 (fun e => by simp [Value.ownBlock] at e; omega))).trans z10
          replace u10 := Nat.lt_of_lt_of_le u10 hg5.size
          refine hK.out _ _ trivial (fun _ => ?_)
          clear hK K
          (try simp only [Act.put, List.setIfInBounds_toArray, List.set_cons_zero, List.set_cons_succ, List.getElem_toArray, List.getElem_cons_succ, List.getElem_cons_zero])
          clear ho hg5
          refine wpAnyH_ready (rs := [7]) (by kernel_rfl) (by simp) ?_
          refine AllReadyH.cons rfl (fun K hK => ?_) AllReadyH.nil
          refine wp_append_own _ (.tmp 24) (.tmp 26) 31 rfl U0.heap.size 3 i0 (.int .i64 0) 1 8 Tryd.underlying31 Hi.out Hz0.out Hz1.out Hz2.out rfl (by decide) _ (LL.take k).length (rowC ic (LL.take k)) rfl OV12 ⟨n10, 0, none⟩ 1 1 (ic n) rfl rfl (fun j' u hj' => (by rw [Addr.add_mid, Nat.zero_add, blk_cell z10]; simpa using hj')) (ic_one _) (by rw [TKL.out]; unfold maxLen; omega) (by rw [TKL.out]; omega) cV12.size ?_
          intro v13 V13 ho hg5 _
          have bV13 : Below w.heap.size w V13 := bV12.grown hg5 bV12.size (fun k e => by have h9 := (OV12.lt k e).1; omega)
          have cV13 : Below U0.heap.size U0 V13 := cV12.grown hg5 cV12.size (fun k e => (OV12.lt k e).1)
          refine hK.out _ _ trivial (fun _ => ?_)
          clear hK K
          (try simp only [Act.put, List.setIfInBounds_toArray, List.set_cons_zero, List.set_cons_succ, List.getElem_toArray, List.getElem_cons_succ, List.getElem_cons_zero])
          clear hg5
          refine wpAnyH_ready (rs := [11]) (by kernel_rfl) (by simp) ?_
          refine AllReadyH.cons rfl (fun K hK => ?_) AllReadyH.nil
          refine wp_append_own _ (.tmp 27) (.tmp 30) 31 rfl U0.heap.size 3 i0 (.int .i64 0) 1 8 Tryd.underlying31 Hi.out Hz0.out Hz1.out Hz2.out rfl (by decide) v13 ((LL.take k).length + 1) (rowC ic (LL.take k) ++ ic n) rfl ho ⟨g, 0, none⟩ 0 0 (rowC ic (LL.drop k)) rfl (by rw [rowC_length ic_len, LD.out]) (fun j' u hj' => by rw [DK.out] at hj'; simp [rowC] at hj') (rowIn_one_cell _) (by rw [TKL.out]; unfold maxLen; omega) (by rw [TKL.out]; omega) cV13.size ?_
          intro v14 V14 ho2 hg6 _
          have bV14 : Below w.heap.size w V14 := bV13.grown hg6 bV13.size (fun k e => by have h9 := (ho.lt k e).1; omega)
          refine hK.out _ _ trivial (fun _ => ?_)
          clear hK K
          (try simp only [Act.put, List.setIfInBounds_toArray, List.set_cons_zero, List.set_cons_succ, List.getElem_toArray, List.getElem_cons_succ, List.getElem_cons_zero])
          refine wpAnyH_take (i := 12) (oi := _) (v := ?_) rfl (by kernel_rfl) (by kernel_rfl) (by kernel_rfl) (fun _ _ _ h => h) (Or.inl ⟨by rfl, ?_⟩) (by assumption) ?_
          rotate_left
          focus (intro W hSw; (try dsimp only at hSw); go_simp; (try with_reducible rfl))
          (try simp only [Act.put, List.setIfInBounds_toArray, List.set_cons_zero, List.set_cons_succ, List.getElem_toArray, List.getElem_cons_succ, List.getElem_cons_zero])
          refine wpAnyH_done (by kernel_rfl) ?_ _
          have hN : Hid (V14.ownsRow w.heap.size 3 1 v14 (ascO (M ++ [n])).length (rowC ic (ascO (M ++ [n])))) := Lib.hid (by
            have h9 := owns_base ho2 (show w.heap.size ≤ U0.heap.size from sU)
            rw [← NEXT.out, show LL.take k ++ n :: LL.drop k = LL.take k ++ [n] ++ LL.drop k by simp, rowC_append, rowC_append, rowC_one, List.length_append, List.length_append, List.length_singleton, LD.out]
            exact h9)
          have bN := bV14
          clear ho ho2 hg6
          go_wp2
          go_ret
          exact ⟨_, rfl, hN.out, bN⟩
        · have hkc2 : ¬ (co = k) := fun h => hkc h.symm
          have hco1 : ¬ (co = 0) := by omega
          have hkco : k ≤ co := by omega
          have kgU := blk_below hBV hbg
          have HCT := Lib.hid hct
          have TKL : Hid ((LL.take k).length = k) := Lib.hid (by rw [List.length_take]; omega)
          have TD : Hid (LL = LL.take k ++ LL.drop k) := Lib.hid (List.take_append_drop k LL).symm
          have LD : Hid ((LL.drop k).length = LL.length - k) := Lib.hid (by rw [List.length_drop])
          clear hct hcs hbg
          go_upto_region 4 with fail
          refine wp_region_held_drew (S := fun W => True) (by kernel_rfl) trivial (fun hHeld => ?_)
          obtain ⟨U0, eU⟩ : ∃ v, v = wr.drew := ⟨_, rfl⟩
          have bU0 : Below w.heap.size w U0 := (by rw [eU]; exact hBV.drew)
          have cU0 : Below U0.heap.size U0 U0 := Below.refl _ _
          have sU := bU0.size
          have kg : blk U0 g = some cur := (by rw [eU]; exact blk_drew kgU)
          have gU := blk_lt kg
          clear kgU
          rw [← eU]
          clear eU hBV
          refine wpAnyH_take (i := 1) (oi := _) (v := ?_) rfl (by kernel_rfl) (by kernel_rfl) (by kernel_rfl) (fun _ _ _ h => h) (Or.inl ⟨by rfl, ?_⟩) (by assumption) ?_
          rotate_left
          focus (intro W hSw; (try dsimp only at hSw); go_simp; (try with_reducible rfl))
          (try simp only [Act.put, List.setIfInBounds_toArray, List.set_cons_zero, List.set_cons_succ, List.getElem_toArray, List.getElem_cons_succ, List.getElem_cons_zero])
          refine wpAnyH_take (i := 2) (oi := _) (v := ?_) rfl (by kernel_rfl) (by kernel_rfl) (by kernel_rfl) (fun _ _ _ h => h) (Or.inl ⟨by rfl, ?_⟩) (by assumption) ?_
          rotate_left
          focus (intro W hSw; (try dsimp only at hSw); go_simp; (try with_reducible rfl))
          (try simp only [Act.put, List.setIfInBounds_toArray, List.set_cons_zero, List.set_cons_succ, List.getElem_toArray, List.getElem_cons_succ, List.getElem_cons_zero])
          refine wpAnyH_take (i := 3) (oi := _) (v := ?_) rfl (by kernel_rfl) (by kernel_rfl) (by kernel_rfl) (fun _ _ _ h => h) (Or.inl ⟨by rfl, ?_⟩) (by assumption) ?_
          rotate_left
          focus (intro W hSw; (try dsimp only at hSw); go_simp; (try with_reducible rfl))
          (try simp only [Act.put, List.setIfInBounds_toArray, List.set_cons_zero, List.set_cons_succ, List.getElem_toArray, List.getElem_cons_succ, List.getElem_cons_zero])
          refine wpAnyH_take (i := 5) (oi := _) (v := ?_) rfl (by kernel_rfl) (by kernel_rfl) (by kernel_rfl) (fun _ _ _ h => h) (Or.inl ⟨by rfl, ?_⟩) (by assumption) ?_
          rotate_left
          focus (intro W hSw; (try dsimp only at hSw); go_simp; (try with_reducible rfl))
          (try simp only [Act.put, List.setIfInBounds_toArray, List.set_cons_zero, List.set_cons_succ, List.getElem_toArray, List.getElem_cons_succ, List.getElem_cons_zero])
          refine wpAnyH_take (i := 8) (oi := _) (v := ?_) rfl (by kernel_rfl) (by kernel_rfl) (by kernel_rfl) (fun _ _ _ h => h) (Or.inl ⟨by rfl, ?_⟩) (by assumption) ?_
          rotate_left
          focus (intro W hSw; (try dsimp only at hSw); go_simp; (try with_reducible rfl))
          (try simp only [Act.put, List.setIfInBounds_toArray, List.set_cons_zero, List.set_cons_succ, List.getElem_toArray, List.getElem_cons_succ, List.getElem_cons_zero])
          refine wpAnyH_take (i := 9) (oi := _) (v := ?_) rfl (by kernel_rfl) (by kernel_rfl) (by kernel_rfl) (fun _ _ _ h => h) (Or.inl ⟨by rfl, ?_⟩) (by assumption) ?_
          rotate_left
          focus (intro W hSw; (try dsimp only at hSw); go_simp; (try with_reducible rfl))
          (try simp only [Act.put, List.setIfInBounds_toArray, List.set_cons_zero, List.set_cons_succ, List.getElem_toArray, List.getElem_cons_succ, List.getElem_cons_zero])
          refine wpAnyH_take (i := 10) (oi := _) (v := ?_) rfl (by kernel_rfl) (by kernel_rfl) (by kernel_rfl) (fun _ _ _ h => h) (Or.inl ⟨by rfl, ?_⟩) (by assumption) ?_
          rotate_left
          focus (intro W hSw; (try dsimp only at hSw); go_simp; (try with_reducible rfl))
          (try simp only [Act.put, List.setIfInBounds_toArray, List.set_cons_zero, List.set_cons_succ, List.getElem_toArray, List.getElem_cons_succ, List.getElem_cons_zero])
          refine wpAnyH_ready (rs := [0, 6]) (by kernel_rfl) (by simp) ?_
          refine AllReadyH.cons rfl (fun K hK => ?_) ?_
          · skip
            go_simp
            refine hK.out _ _ trivial (fun _ => ?_)
            clear hK K
            (try simp only [Act.put, List.setIfInBounds_toArray, List.set_cons_zero, List.set_cons_succ, List.getElem_toArray, List.getElem_cons_succ, List.getElem_cons_zero])
            obtain ⟨V1, eV⟩ : ∃ v, v = U0.alloc (.cells #[] 3) := ⟨_, rfl⟩
            obtain ⟨n1, en⟩ : ∃ v, v = U0.heap.size := ⟨_, rfl⟩
            have bV1 : Below w.heap.size w V1 := (by rw [eV]; exact bU0.alloc bU0.size _)
            have cV1 : Below U0.heap.size U0 V1 := (by rw [eV]; exact cU0.alloc cU0.size _)
            have oV1 : V1.ownsRow n1 3 1 (.slice (some ⟨n1, 0, none⟩) 0 0) 0 [] := (by rw [eV, en]; exact own_emptyIn _ _)
            have l1 : U0.heap.size ≤ n1 := (by rw [en]; exact cU0.size)
            have u1 : n1 < V1.heap.size := (by rw [eV, en]; simp)
            rw [← eV, ← en]
            clear eV en
            refine wpAnyH_ready (rs := [4, 6]) (by kernel_rfl) (by simp) ?_
            refine AllReadyH.cons rfl (fun K hK => ?_) ?_
            · skip
              refine wp_append_own _ (.tmp 20) (.tmp 23) 31 rfl U0.heap.size 3 i0 (.int .i64 0) 1 8 Tryd.underlying31 Hi.out Hz0.out Hz1.out Hz2.out rfl (by decide) (.slice (some ⟨n1, 0, none⟩) 0 0) 0 [] rfl (owns_base oV1 l1) ⟨g, 0, none⟩ k co (rowC ic (LL.take k)) rfl (by rw [rowC_length ic_len, TKL.out]) (fun j' u hj' => (by rw [Addr.add_mid, Nat.zero_add, cV1.cell (p := ⟨g, j', none⟩) gU, blk_cell kg]; exact irow_head HCT.out TD.out hj')) (rowIn_one_cell _) (by unfold maxLen; omega) (by omega) cV1.size ?_
              intro v2 V2 ho hg5 _
              have bV2 : Below w.heap.size w V2 := bV1.grown hg5 bV1.size (fun k e => by have h9 := (oV1.lt k e).1; omega)
              have cV2 : Below U0.heap.size U0 V2 := cV1.grown hg5 cV1.size (fun k e => by have h9 := (oV1.lt k e).1; omega)
              have OV2 : V2.ownsRow U0.heap.size 3 1 v2 (LL.take k).length (rowC ic (LL.take k)) := (by have h9 := ho; rw [Nat.zero_add, List.nil_append] at h9; rw [TKL.out]; exact h9)
              refine hK.out _ _ trivial (fun _ => ?_)
              clear hK K
              (try simp only [Act.put, List.setIfInBounds_toArray, List.set_cons_zero, List.set_cons_succ, List.getElem_toArray, List.getElem_cons_succ, List.getElem_cons_zero])
              clear ho hg5
              refine wpAnyH_ready (rs := [6]) (by kernel_rfl) (by simp) ?_
              refine AllReadyH.cons rfl (fun K hK => ?_) AllReadyH.nil
              go_simp
              refine hK.out _ _ trivial (fun _ => ?_)
              clear hK K
              (try simp only [Act.put, List.setIfInBounds_toArray, List.set_cons_zero, List.set_cons_succ, List.getElem_toArray, List.getElem_cons_succ, List.getElem_cons_zero])
              obtain ⟨V3, eV⟩ : ∃ v, v = V2.alloc (.cells #[.int .i64 n] 3) := ⟨_, rfl⟩
              obtain ⟨n3, en⟩ : ∃ v, v = V2.heap.size := ⟨_, rfl⟩
              have bV3 : Below w.heap.size w V3 := (by rw [eV]; exact bV2.alloc bV2.size _)
              have cV3 : Below U0.heap.size U0 V3 := (by rw [eV]; exact cV2.alloc cV2.size _)
              have z3 : blk V3 n3 = some (ic n).toArray := (by rw [eV, en]; exact blk_alloc_new _ _ _ rfl)
              have l3 : U0.heap.size ≤ n3 := (by rw [en]; exact cV2.size)
              have u3 : n3 < V3.heap.size := (by rw [eV, en]; simp)
              have OV3 : V3.ownsRow U0.heap.size 3 1 _ (LL.take k).length (rowC ic (LL.take k)) := (by rw [eV]; exact OV2.alloc _)
              rw [← eV, ← en]
              clear eV en
              refine wpAnyH_ready (rs := [7]) (by kernel_rfl) (by simp) ?_
              refine AllReadyH.cons rfl (fun K hK => ?_) AllReadyH.nil
              refine wp_append_own _ (.tmp 24) (.tmp 26) 31 rfl U0.heap.size 3 i0 (.int .i64 0) 1 8 Tryd.underlying31 Hi.out Hz0.out Hz1.out Hz2.out rfl (by decide) _ (LL.take k).length (rowC ic (LL.take k)) rfl OV3 ⟨n3, 0, none⟩ 1 1 (ic n) rfl rfl (fun j' u hj' => (by rw [Addr.add_mid, Nat.zero_add, blk_cell z3]; simpa using hj')) (ic_one _) (by rw [TKL.out]; unfold maxLen; omega) (by rw [TKL.out]; omega) cV3.size ?_
              intro v4 V4 ho hg5 _
              have bV4 : Below w.heap.size w V4 := bV3.grown hg5 bV3.size (fun k e => by have h9 := (OV3.lt k e).1; omega)
              have cV4 : Below U0.heap.size U0 V4 := cV3.grown hg5 cV3.size (fun k e => (OV3.lt k e).1)
              refine hK.out _ _ trivial (fun _ => ?_)
              clear hK K
              (try simp only [Act.put, List.setIfInBounds_toArray, List.set_cons_zero, List.set_cons_succ, List.getElem_toArray, List.getElem_cons_succ, List.getElem_cons_zero])
              clear hg5
              refine wpAnyH_ready (rs := [11]) (by kernel_rfl) (by simp) ?_
              refine AllReadyH.cons rfl (fun K hK => ?_) AllReadyH.nil
              refine wp_append_own _ (.tmp 27) (.tmp 30) 31 rfl U0.heap.size 3 i0 (.int .i64 0) 1 8 Tryd.underlying31 Hi.out Hz0.out Hz1.out Hz2.out rfl (by decide) v4 ((LL.take k).length + 1) (rowC ic (LL.take k) ++ ic n) rfl ho ⟨g, k, none⟩ (LL.length - k) (co - k) (rowC ic (LL.drop k)) rfl (by rw [rowC_length ic_len, LD.out]) (fun j' u hj' => (by rw [Addr.add_mid, cV4.cell (p := ⟨g, k + j', none⟩) gU, blk_cell kg]; have h9 := irow_tail HCT.out TD.out hj'; rw [TKL.out] at h9; exact h9)) (rowIn_one_cell _) (by rw [TKL.out]; unfold maxLen; omega) (by rw [TKL.out]; omega) cV4.size ?_
              intro v5 V5 ho2 hg6 _
              have bV5 : Below w.heap.size w V5 := bV4.grown hg6 bV4.size (fun k e => by have h9 := (ho.lt k e).1; omega)
              refine hK.out _ _ trivial (fun _ => ?_)
              clear hK K
              (try simp only [Act.put, List.setIfInBounds_toArray, List.set_cons_zero, List.set_cons_succ, List.getElem_toArray, List.getElem_cons_succ, List.getElem_cons_zero])
              refine wpAnyH_take (i := 12) (oi := _) (v := ?_) rfl (by kernel_rfl) (by kernel_rfl) (by kernel_rfl) (fun _ _ _ h => h) (Or.inl ⟨by rfl, ?_⟩) (by assumption) ?_
              rotate_left
              focus (intro W hSw; (try dsimp only at hSw); go_simp; (try with_reducible rfl))
              (try simp only [Act.put, List.setIfInBounds_toArray, List.set_cons_zero, List.set_cons_succ, List.getElem_toArray, List.getElem_cons_succ, List.getElem_cons_zero])
              refine wpAnyH_done (by kernel_rfl) ?_ _
              have hN : Hid (V5.ownsRow w.heap.size 3 1 v5 (ascO (M ++ [n])).length (rowC ic (ascO (M ++ [n])))) := Lib.hid (by
                have h9 := owns_base ho2 (show w.heap.size ≤ U0.heap.size from sU)
                rw [← NEXT.out, show LL.take k ++ n :: LL.drop k = LL.take k ++ [n] ++ LL.drop k by simp, rowC_append, rowC_append, rowC_one, List.length_append, List.length_append, List.length_singleton, LD.out]
                exact h9)
              have bN := bV5
              clear ho ho2 hg6
              go_wp2
              go_ret
              exact ⟨_, rfl, hN.out, bN⟩
            refine AllReadyH.cons rfl (fun K hK => ?_) AllReadyH.nil
            go_simp
            refine hK.out _ _ trivial (fun _ => ?_)
            clear hK K
            (try simp only [Act.put, List.setIfInBounds_toArray, List.set_cons_zero, List.set_cons_succ, List.getElem_toArray, List.getElem_cons_succ, List.getElem_cons_zero])
            obtain ⟨V6, eV⟩ : ∃ v, v = V1.alloc (.cells #[.int .i64 n] 3) := ⟨_, rfl⟩
            obtain ⟨n6, en⟩ : ∃ v, v = V1.heap.size := ⟨_, rfl⟩
            have bV6 : Below w.heap.size w V6 := (by rw [eV]; exact bV1.alloc bV1.size _)
            have cV6 : Below U0.heap.size U0 V6 := (by rw [eV]; exact cV1.alloc cV1.size _)
            have z6 : blk V6 n6 = some (ic n).toArray := (by rw [eV, en]; exact blk_alloc_new _ _ _ rfl)
            have l6 : U0.heap.size ≤ n6 := (by rw [en]; exact cV1.size)
            have u6 : n6 < V6.heap.size := (by rw [eV, en]; simp)
            have oV6 : V6.ownsRow n1 3 1 (.slice (some ⟨n1, 0, none⟩) 0 0) 0 [] := (by rw [eV]; exact oV1.alloc _)
            have nz : n6 ≠ n1 := (by rw [en]; omega)
            rw [← eV, ← en]
            clear eV en
            refine wpAnyH_ready (rs := [4]) (by kernel_rfl) (by simp) ?_
            refine AllReadyH.cons rfl (fun K hK => ?_) AllReadyH.nil
            refine wp_append_own _ (.tmp 20) (.tmp 23) 31 rfl U0.heap.size 3 i0 (.int .i64 0) 1 8 Tryd.underlying31 Hi.out Hz0.out Hz1.out Hz2.out rfl (by decide) (.slice (some ⟨n1, 0, none⟩) 0 0) 0 [] rfl (owns_base oV6 l1) ⟨g, 0, none⟩ k co (rowC ic (LL.take k)) rfl (by rw [rowC_length ic_len, TKL.out]) (fun j' u hj' => (by rw [Addr.add_mid, Nat.zero_add, cV6.cell (p := ⟨g, j', none⟩) gU, blk_cell kg]; exact irow_head HCT.out TD.out hj')) (rowIn_one_cell _) (by unfold maxLen; omega) (by omega) cV6.size ?_
            intro v7 V7 ho hg5 _
            have bV7 : Below w.heap.size w V7 := bV6.grown hg5 bV6.size (fun k e => by have h9 := (oV6.lt k e).1; omega)
            have cV7 : Below U0.heap.size U0 V7 := cV6.grown hg5 cV6.size (fun k e => by have h9 := (oV6.lt k e).1; omega)
            have OV7 : V7.ownsRow U0.heap.size 3 1 v7 (LL.take k).length (rowC ic (LL.take k)) := (by have h9 := ho; rw [Nat.zero_add, List.nil_append] at h9; rw [TKL.out]; exact h9)
            replace z6 := (blk_kept (hg5.block n6 u6 (fun e => by simp [Value.ownBlock] at e; omega))).trans z6
            replace u6 := Nat.lt_of_lt_of_le u6 hg5.size
            refine hK.out _ _ trivial (fun _ => ?_)
            clear hK K
            (try simp only [Act.put, List.setIfInBounds_toArray, List.set_cons_zero, List.set_cons_succ, List.getElem_toArray, List.getElem_cons_succ, List.getElem_cons_zero])
            clear ho hg5
            refine wpAnyH_ready (rs := [7]) (by kernel_rfl) (by simp) ?_
            refine AllReadyH.cons rfl (fun K hK => ?_) AllReadyH.nil
            refine wp_append_own _ (.tmp 24) (.tmp 26) 31 rfl U0.heap.size 3 i0 (.int .i64 0) 1 8 Tryd.underlying31 Hi.out Hz0.out Hz1.out Hz2.out rfl (by decide) _ (LL.take k).length (rowC ic (LL.take k)) rfl OV7 ⟨n6, 0, none⟩ 1 1 (ic n) rfl rfl (fun j' u hj' => (by rw [Addr.add_mid, Nat.zero_add, blk_cell z6]; simpa using hj')) (ic_one _) (by rw [TKL.out]; unfold maxLen; omega) (by rw [TKL.out]; omega) cV7.size ?_
            intro v8 V8 ho hg5 _
            have bV8 : Below w.heap.size w V8 := bV7.grown hg5 bV7.size (fun k e => by have h9 := (OV7.lt k e).1; omega)
            have cV8 : Below U0.heap.size U0 V8 := cV7.grown hg5 cV7.size (fun k e => (OV7.lt k e).1)
            refine hK.out _ _ trivial (fun _ => ?_)
            clear hK K
            (try simp only [Act.put, List.setIfInBounds_toArray, List.set_cons_zero, List.set_cons_succ, List.getElem_toArray, List.getElem_cons_succ, List.getElem_cons_zero])
            clear hg5
            refine wpAnyH_ready (rs := [11]) (by kernel_rfl) (by simp) ?_
            refine AllReadyH.cons rfl (fun K hK => ?_) AllReadyH.nil
            refine wp_append_own _ (.tmp 27) (.tmp 30) 31 rfl U0.heap.size 3 i0 (.int .i64 0) 1 8 Tryd.underlying31 Hi.out Hz0.out Hz1.out Hz2.out rfl (by decide) v8 ((LL.take k).length + 1) (rowC ic (LL.take k) ++ ic n) rfl ho ⟨g, k, none⟩ (LL.length - k) (co - k) (rowC ic (LL.drop k)) rfl (by rw [rowC_length ic_len, LD.out]) (fun j' u hj' => (by rw [Addr.add_mid, cV8.cell (p := ⟨g, k + j', none⟩) gU, blk_cell kg]; have h9 := irow_tail HCT.out TD.out hj'; rw [TKL.out] at h9; exact h9)) (rowIn_one_cell _) (by rw [TKL.out]; unfold maxLen; omega) (by rw [TKL.out]; omega) cV8.size ?_
            intro v9 V9 ho2 hg6 _
            have bV9 : Below w.heap.size w V9 := bV8.grown hg6 bV8.size (fun k e => by have h9 := (ho.lt k e).1; omega)
            refine hK.out _ _ trivial (fun _ => ?_)
            clear hK K
            (try simp only [Act.put, List.setIfInBounds_toArray, List.set_cons_zero, List.set_cons_succ, List.getElem_toArray, List.getElem_cons_succ, List.getElem_cons_zero])
            refine wpAnyH_take (i := 12) (oi := _) (v := ?_) rfl (by kernel_rfl) (by kernel_rfl) (by kernel_rfl) (fun _ _ _ h => h) (Or.inl ⟨by rfl, ?_⟩) (by assumption) ?_
            rotate_left
            focus (intro W hSw; (try dsimp only at hSw); go_simp; (try with_reducible rfl))
            (try simp only [Act.put, List.setIfInBounds_toArray, List.set_cons_zero, List.set_cons_succ, List.getElem_toArray, List.getElem_cons_succ, List.getElem_cons_zero])
            refine wpAnyH_done (by kernel_rfl) ?_ _
            have hN : Hid (V9.ownsRow w.heap.size 3 1 v9 (ascO (M ++ [n])).length (rowC ic (ascO (M ++ [n])))) := Lib.hid (by
              have h9 := owns_base ho2 (show w.heap.size ≤ U0.heap.size from sU)
              rw [← NEXT.out, show LL.take k ++ n :: LL.drop k = LL.take k ++ [n] ++ LL.drop k by simp, rowC_append, rowC_append, rowC_one, List.length_append, List.length_append, List.length_singleton, LD.out]
              exact h9)
            have bN := bV9
            clear ho ho2 hg6
            go_wp2
            go_ret
            exact ⟨_, rfl, hN.out, bN⟩
          refine AllReadyH.cons rfl (fun K hK => ?_) AllReadyH.nil
          go_simp
          refine hK.out _ _ trivial (fun _ => ?_)
          clear hK K
          (try simp only [Act.put, List.setIfInBounds_toArray, List.set_cons_zero, List.set_cons_succ, List.getElem_toArray, List.getElem_cons_succ, List.getElem_cons_zero])
          obtain ⟨V10, eV⟩ : ∃ v, v = U0.alloc (.cells #[.int .i64 n] 3) := ⟨_, rfl⟩
          obtain ⟨n10, en⟩ : ∃ v, v = U0.heap.size := ⟨_, rfl⟩
          have bV10 : Below w.heap.size w V10 := (by rw [eV]; exact bU0.alloc bU0.size _)
          have cV10 : Below U0.heap.size U0 V10 := (by rw [eV]; exact cU0.alloc cU0.size _)
          have z10 : blk V10 n10 = some (ic n).toArray := (by rw [eV, en]; exact blk_alloc_new _ _ _ rfl)
          have l10 : U0.heap.size ≤ n10 := (by rw [en]; exact cU0.size)
          have u10 : n10 < V10.heap.size := (by rw [eV, en]; simp)
          rw [← eV, ← en]
          clear eV en
          refine wpAnyH_ready (rs := [0]) (by kernel_rfl) (by simp) ?_
          refine AllReadyH.cons rfl (fun K hK => ?_) AllReadyH.nil
          go_simp
          refine hK.out _ _ trivial (fun _ => ?_)
          clear hK K
          (try simp only [Act.put, List.setIfInBounds_toArray, List.set_cons_zero, List.set_cons_succ, List.getElem_toArray, List.getElem_cons_succ, List.getElem_cons_zero])
          obtain ⟨V11, eV⟩ : ∃ v, v = V10.alloc (.cells #[] 3) := ⟨_, rfl⟩
          obtain ⟨n11, en⟩ : ∃ v, v = V10.heap.size := ⟨_, rfl⟩
          have bV11 : Below w.heap.size w V11 := (by rw [eV]; exact bV10.alloc bV10.size _)
          have cV11 : Below U0.heap.size U0 V11 := (by rw [eV]; exact cV10.alloc cV10.size _)
          have oV11 : V11.ownsRow n11 3 1 (.slice (some ⟨n11, 0, none⟩) 0 0) 0 [] := (by rw [eV, en]; exact own_emptyIn _ _)
          have l11 : U0.heap.size ≤ n11 := (by rw [en]; exact cV10.size)
          have u11 : n11 < V11.heap.size := (by rw [eV, en]; simp)
          have nz : n10 ≠ n11 := (by rw [en]; omega)
          replace z10 := (by rw [eV]; exact blk_alloc z10 _ : blk V11 n10 = some (ic n).toArray)
          replace u10 : n10 < V11.heap.size := (by rw [eV]; simp; omega)
          rw [← eV, ← en]
          clear eV en
          refine wpAnyH_ready (rs := [4]) (by kernel_rfl) (by simp) ?_
          refine AllReadyH.cons rfl (fun K hK => ?_) AllReadyH.nil
          refine wp_append_own _ (.tmp 20) (.tmp 23) 31 rfl U0.heap.size 3 i0 (.int .i64 0) 1 8 Tryd.underlying31 Hi.out Hz0.out Hz1.out Hz2.out rfl (by decide) (.slice (some ⟨n11, 0, none⟩) 0 0) 0 [] rfl (owns_base oV11 l11) ⟨g, 0, none⟩ k co (rowC ic (LL.take k)) rfl (by rw [rowC_length ic_len, TKL.out]) (fun j' u hj' => (by rw [Addr.add_mid, Nat.zero_add, cV11.cell (p := ⟨g, j', none⟩) gU, blk_cell kg]; exact irow_head HCT.out TD.out hj')) (rowIn_one_cell _) (by unfold maxLen; omega) (by omega) cV11.size ?_
          intro v12 V12 ho hg5 _
          have bV12 : Below w.heap.size w V12 := bV11.grown hg5 bV11.size (fun k e => by have h9 := (oV11.lt k e).1; omega)
          have cV12 : Below U0.heap.size U0 V12 := cV11.grown hg5 cV11.size (fun k e => by have h9 := (oV11.lt k e).1; omega)
          have OV12 : V12.ownsRow U0.heap.size 3 1 v12 (LL.take k).length (rowC ic (LL.take k)) := (by have h9 := ho; rw [Nat.zero_add, List.nil_append] at h9; rw [TKL.out]; exact h9)
          replace z10 := (blk_kept (hg5.block n10 u10 (fun e => by simp [Value.ownBlock] at e; omega))).trans z10
          replace u10 := Nat.lt_of_lt_of_le u10 hg5.size
          refine hK.out _ _ trivial (fun _ => ?_)
          clear hK K
          (try simp only [Act.put, List.setIfInBounds_toArray, List.set_cons_zero, List.set_cons_succ, List.getElem_toArray, List.getElem_cons_succ, List.getElem_cons_zero])
          clear ho hg5
          refine wpAnyH_ready (rs := [7]) (by kernel_rfl) (by simp) ?_
          refine AllReadyH.cons rfl (fun K hK => ?_) AllReadyH.nil
          refine wp_append_own _ (.tmp 24) (.tmp 26) 31 rfl U0.heap.size 3 i0 (.int .i64 0) 1 8 Tryd.underlying31 Hi.out Hz0.out Hz1.out Hz2.out rfl (by decide) _ (LL.take k).length (rowC ic (LL.take k)) rfl OV12 ⟨n10, 0, none⟩ 1 1 (ic n) rfl rfl (fun j' u hj' => (by rw [Addr.add_mid, Nat.zero_add, blk_cell z10]; simpa using hj')) (ic_one _) (by rw [TKL.out]; unfold maxLen; omega) (by rw [TKL.out]; omega) cV12.size ?_
          intro v13 V13 ho hg5 _
          have bV13 : Below w.heap.size w V13 := bV12.grown hg5 bV12.size (fun k e => by have h9 := (OV12.lt k e).1; omega)
          have cV13 : Below U0.heap.size U0 V13 := cV12.grown hg5 cV12.size (fun k e => (OV12.lt k e).1)
          refine hK.out _ _ trivial (fun _ => ?_)
          clear hK K
          (try simp only [Act.put, List.setIfInBounds_toArray, List.set_cons_zero, List.set_cons_succ, List.getElem_toArray, List.getElem_cons_succ, List.getElem_cons_zero])
          clear hg5
          refine wpAnyH_ready (rs := [11]) (by kernel_rfl) (by simp) ?_
          refine AllReadyH.cons rfl (fun K hK => ?_) AllReadyH.nil
          refine wp_append_own _ (.tmp 27) (.tmp 30) 31 rfl U0.heap.size 3 i0 (.int .i64 0) 1 8 Tryd.underlying31 Hi.out Hz0.out Hz1.out Hz2.out rfl (by decide) v13 ((LL.take k).length + 1) (rowC ic (LL.take k) ++ ic n) rfl ho ⟨g, k, none⟩ (LL.length - k) (co - k) (rowC ic (LL.drop k)) rfl (by rw [rowC_length ic_len, LD.out]) (fun j' u hj' => (by rw [Addr.add_mid, cV13.cell (p := ⟨g, k + j', none⟩) gU, blk_cell kg]; have h9 := irow_tail HCT.out TD.out hj'; rw [TKL.out] at h9; exact h9)) (rowIn_one_cell _) (by rw [TKL.out]; unfold maxLen; omega) (by rw [TKL.out]; omega) cV13.size ?_
          intro v14 V14 ho2 hg6 _
          have bV14 : Below w.heap.size w V14 := bV13.grown hg6 bV13.size (fun k e => by have h9 := (ho.lt k e).1; omega)
          refine hK.out _ _ trivial (fun _ => ?_)
          clear hK K
          (try simp only [Act.put, List.setIfInBounds_toArray, List.set_cons_zero, List.set_cons_succ, List.getElem_toArray, List.getElem_cons_succ, List.getElem_cons_zero])
          refine wpAnyH_take (i := 12) (oi := _) (v := ?_) rfl (by kernel_rfl) (by kernel_rfl) (by kernel_rfl) (fun _ _ _ h => h) (Or.inl ⟨by rfl, ?_⟩) (by assumption) ?_
          rotate_left
          focus (intro W hSw; (try dsimp only at hSw); go_simp; (try with_reducible rfl))
          (try simp only [Act.put, List.setIfInBounds_toArray, List.set_cons_zero, List.set_cons_succ, List.getElem_toArray, List.getElem_cons_succ, List.getElem_cons_zero])
          refine wpAnyH_done (by kernel_rfl) ?_ _
          have hN : Hid (V14.ownsRow w.heap.size 3 1 v14 (ascO (M ++ [n])).length (rowC ic (ascO (M ++ [n])))) := Lib.hid (by
            have h9 := owns_base ho2 (show w.heap.size ≤ U0.heap.size from sU)
            rw [← NEXT.out, show LL.take k ++ n :: LL.drop k = LL.take k ++ [n] ++ LL.drop k by simp, rowC_append, rowC_append, rowC_one, List.length_append, List.length_append, List.length_singleton, LD.out]
            exact h9)
          have bN := bV14
          clear ho ho2 hg6
          go_wp2
          go_ret
          exact ⟨_, rfl, hN.out, bN⟩
end Go.Proofs.YthfmkkkdjgkaoaaDoor
namespace Go.Proofs.YthfmkkkdjgkaoaaDoor
open Go.RowKit
theorem mk6_cell (m0 m1 m2 m3 m4 m5 : Bool) {p : Nat} (hp : p < 6) : (#[.bool m0, .bool m1, .bool m2, .bool m3, .bool m4, .bool m5] : Array Value)[p]? = some (.bool (mk6 m0 m1 m2 m3 m4 m5 p)) := by
  match p, hp with
  | 0, _ => rfl
  | 1, _ => rfl
  | 2, _ => rfl
  | 3, _ => rfl
  | 4, _ => rfl
  | 5, _ => rfl
theorem mark_mk6 (l : List Oc) (id : Id3) {p : Nat} (hp : p < 6) : markO l id p = mk6 (hasO l 1 id) (hasO l 2 id || (hasO l 3 id || hasO l 4 id)) (hasO l 8 id) (hasO l 9 id) (hasO l 1 id && (!hasO l 8 id && !hasO l 9 id)) (!hasO l 1 id && !(hasO l 2 id || (hasO l 3 id || hasO l 4 id))) p := by
  match p, hp with
  | 0, _ => rfl
  | 1, _ => rfl
  | 2, _ => rfl
  | 3, _ => rfl
  | 4, _ => rfl
  | 5, _ => rfl
set_option maxRecDepth 100000 in
set_option maxHeartbeats 6400000 in
theorem rcounts_any (ab al : Option Addr) (cb cl : Nat) (b : List Bn) (l : List Oc) (prio : Int) (hd : ∀ x ∈ b, x.da.size ≤ maxLen) (w : World) (hb : SRow bn 9 w ab cb b) (hl : SRow oc 7 w al cl l) :
    Calls Tryd.prog 14 #[.slice ab b.length cb, .slice al l.length cl, .int .i64 prio] w (RetI (couR b l prio) (prioC b l prio) w) := by
  have g := rpchk_any ab al cb cl b l prio hd w hb hl
  by_cases hp : prioC b l prio = 0
  · have hv := prioC_v hp
    have hlen := hv.1.len
    have hp1 := hv.2.1
    have hp2 := hv.2.2
    have hcr : couR b l prio = couO b l prio := by unfold couR; rw [if_pos hp]
    have hcc : couO b l prio = [cntL (b.filter (inP prio)) l 0, cntL (b.filter (inP prio)) l 1, cntL (b.filter (inP prio)) l 2, cntL (b.filter (inP prio)) l 3, cntL (b.filter (inP prio)) l 4, cntL (b.filter (inP prio)) l 5] := by
      simp only [cntL_O]; rfl
    rw [hp] at g
    rw [hcr, hp, hcc]
    have gh : ∀ k id W, Below w.heap.size w W → Calls Tryd.prog 39 #[.slice al l.length cl, .int .i64 k, .agg (idL id).toArray] W fun e w' => e = .returned (.bool (hasO l k id)) ∧ Below W.heap.size W w' := fun k id W hB => has_any al cl l k id W (hl.below hB)
    have GH := Lib.hid gh
    have G := Lib.hid g
    have HR := Lib.hid hb
    have hcap := hb.1
    have hmax := hb.2.1
    unfold maxLen at hmax
    clear g gh hv hp hcr hcc hd hb hl
    have q0 : ((0 : Int) != 0) = false := rfl
    have hmk : ∀ w, (Instr.makeSlice 31 (.int .i64 6) (.int .i64 6)).run Tryd.prog w = .ok (.slice (some ⟨w.heap.size, 0, none⟩) 6 6) (w.alloc (.cells #[.int .i64 0, .int .i64 0, .int .i64 0, .int .i64 0, .int .i64 0, .int .i64 0] 3)) := fun w => by kernel_rfl
    go_enter Tryd.func14, Tryd.ntmps14
    go_wp2_with (go_at_call 38; (with_reducible refine (G.out).mono ?_); rintro e w2 ⟨rfl, h2⟩)
    obtain ⟨o, ho⟩ : ∃ o, o = w2.heap.size := ⟨_, rfl⟩
    obtain ⟨u0, hu0⟩ : ∃ u, u = w2.alloc (.cells #[.int .i64 0, .int .i64 0, .int .i64 0, .int .i64 0, .int .i64 0, .int .i64 0] 3) := ⟨_, rfl⟩
    have ko : blk u0 o = some (outI (cntL ((b.take 0).filter (inP prio)) l)) := by rw [hu0, ho]; exact blk_alloc_new _ _ _ rfl
    have B0 : Below w.heap.size w u0 := by rw [hu0]; exact h2.alloc h2.size _
    have hwo : w.heap.size ≤ o := by rw [ho]; exact h2.size
    rw [← hu0, ← ho]
    have KO := Lib.hid ko
    clear hu0 ho h2 hmk ko G
    go_loopw [10] (fun i wr => ∃ j : Nat, i = .int .i64 j ∧ j ≤ b.length ∧ Below w.heap.size w wr ∧ Hid (blk wr o = some (outI (cntL ((b.take j).filter (inP prio)) l)))) (fun i _ => b.length - (intOf i).toNat)
    case atStart => exact ⟨0, rfl, Nat.zero_le _, B0, KO⟩
    case round =>
      clear B0 KO
      obtain ⟨j, rfl, hj, hB, HM⟩ := hrel
      by_cases hlt : j < b.length
      · have hltz : (j : Int) < (b.length : Int) := by omega
        obtain ⟨g, off, hab, hbl, hcs⟩ := (HR.out.below hB).2.2.2 (by omega)
        subst hab
        obtain ⟨x, hx⟩ : ∃ x, x = b[j] := ⟨_, rfl⟩
        have hr := hcs j hlt
        rw [← hx] at hr
        have hsn := filter_snoc (inP prio) b j hlt
        rw [← hx] at hsn
        have HSN := Lib.hid hsn
        have cp : wr.cell? ⟨g, off + j * 9 + 4, none⟩ = some (.int .i64 x.pr) := hr 4 _ rfl
        have c0 : wr.cell? ⟨g, off + j * 9, none⟩ = some (.int .i64 x.no) := by simpa using hr 0 _ rfl
        have c1 : wr.cell? ⟨g, off + j * 9 + 1, none⟩ = some (.int .u64 x.sq) := hr 1 _ rfl
        have c2 : wr.cell? ⟨g, off + j * 9 + 2, none⟩ = some (.int .i64 x.of) := hr 2 _ rfl
        have hun : undef = Value.tuple #[] := rfl
        have hfl : ((b.take j).filter (inP prio)).length ≤ 1000 := Nat.le_trans (List.length_filter_le _ _) (by rw [List.length_take]; omega)
        have HFL := Lib.hid hfl
        clear hx hcs hsn hr hfl
        by_cases hin : inP prio x = true
        · rw [hin] at HSN
          have hcase : (decide (0 ≤ prio) = false) ∨ (decide (0 ≤ prio) = true ∧ (x.pr != prio) = false) := by
            unfold inP at hin
            by_cases h : prio < 0
            · exact .inl (decide_eq_false (by omega))
            · right
              refine ⟨decide_eq_true (by omega), ?_⟩
              simp [h] at hin
              simp [hin]
          clear hin
          go_upto_region 8 with fail
          go_cut [42] from 32 to 41 (fun s42 wq => s42 = .bool false ∧ wq = wr)
          case first =>
            rcases hcase with h | ⟨h, h2⟩
            · go_wp2
              go_meet
              case rel => exact ⟨rfl, rfl⟩
            · go_wp2
              go_meet
              case rel => exact ⟨rfl, rfl⟩
          case rest =>
          obtain ⟨rfl, rfl⟩ := hcut
          clear hcase cp
          have gx : ∀ k W, Below w.heap.size w W → Calls Tryd.prog 39 #[.slice al l.length cl, .int .i64 k, .agg #[.int .i64 x.no, .int .u64 x.sq, .int .i64 x.of]] W fun e w' => e = .returned (.bool (hasO l k (bid x))) ∧ Below W.heap.size W w' := fun k W hB => GH.out k (bid x) W hB
          have HMK : Hid (∀ p, p < 6 → markO l (bid x) p = mk6 (hasO l 1 (bid x)) (hasO l 2 (bid x) || (hasO l 3 (bid x) || hasO l 4 (bid x))) (hasO l 8 (bid x)) (hasO l 9 (bid x)) (hasO l 1 (bid x) && (!hasO l 8 (bid x) && !hasO l 9 (bid x))) (!hasO l 1 (bid x) && !(hasO l 2 (bid x) || (hasO l 3 (bid x) || hasO l 4 (bid x)))) p) := Lib.hid (fun p hp => mark_mk6 l (bid x) hp)
          have g1 := gx 1
          obtain ⟨q1, hq1⟩ : ∃ q, hasO l 1 (bid x) = q := ⟨_, rfl⟩
          rw [hq1] at g1 HMK
          have G1 := Lib.hid g1
          have g2 := gx 2
          obtain ⟨q2, hq2⟩ : ∃ q, hasO l 2 (bid x) = q := ⟨_, rfl⟩
          rw [hq2] at g2 HMK
          have G2 := Lib.hid g2
          have g3 := gx 3
          obtain ⟨q3, hq3⟩ : ∃ q, hasO l 3 (bid x) = q := ⟨_, rfl⟩
          rw [hq3] at g3 HMK
          have G3 := Lib.hid g3
          have g4 := gx 4
          obtain ⟨q4, hq4⟩ : ∃ q, hasO l 4 (bid x) = q := ⟨_, rfl⟩
          rw [hq4] at g4 HMK
          have G4 := Lib.hid g4
          have g8 := gx 8
          obtain ⟨q8, hq8⟩ : ∃ q, hasO l 8 (bid x) = q := ⟨_, rfl⟩
          rw [hq8] at g8 HMK
          have G8 := Lib.hid g8
          have g9 := gx 9
          obtain ⟨q9, hq9⟩ : ∃ q, hasO l 9 (bid x) = q := ⟨_, rfl⟩
          rw [hq9] at g9 HMK
          have G9 := Lib.hid g9
          clear gx g1 g2 g3 g4 g8 g9 hq1 hq2 hq3 hq4 hq8 hq9
          obtain ⟨OUT, hOUT⟩ : ∃ O, O = outI (cntL ((b.take j).filter (inP prio)) l) := ⟨_, rfl⟩
          have hm := HM.out
          rw [← hOUT] at hm
          have HO := Lib.hid hOUT
          have lo := blk_lt hm
          have sB := hB.size
          clear hOUT HM
          obtain ⟨c9, hc9⟩ : ∃ c, c = wc.heap.size := ⟨_, rfl⟩
          go_upto_region 10 with fail
          obtain ⟨u1, hu1⟩ : ∃ u, u = wc.alloc (.cells #[.int .i64 x.no, .int .u64 x.sq, .int .i64 x.of] 63) := ⟨_, rfl⟩
          have kk : blk u1 c9 = some #[.int .i64 x.no, .int .u64 x.sq, .int .i64 x.of] ∧ blk u1 o = some OUT := by rw [hu1]; exact ⟨blk_alloc_new _ _ _ hc9, blk_alloc hm _⟩
          have B1 : Below w.heap.size w u1 := by rw [hu1]; exact hB.alloc hB.size _
          have hoc : o ≠ c9 := by omega
          rw [← hu1, ← hc9]
          have KK := Lib.hid kk
          have nk := kn kk.1
          clear hu1 kk hm hc9 hB hbl c0 c1 c2
          go_upto_region 11 with (go_at_call 39; (with_reducible refine (G1.out _ B1).mono ?_); rintro e u2 ⟨rfl, h2⟩; (have KK2 := Lib.hid (And.intro (blk_below h2 KK.out.1) (blk_below h2 KK.out.2))); (have B2 := bt B1 h2); clear nk h2; (have nk := kn KK2.out.1))
          clear KK B1
          go_cut [13] from 51 to 63 (fun s13 wq => s13 = .bool (q2 || (q3 || q4)) ∧ Hid (blk wq c9 = some #[.int .i64 x.no, .int .u64 x.sq, .int .i64 x.of] ∧ blk wq o = some OUT) ∧ Below w.heap.size w wq)
          case first =>
            cases q2
            · cases q3
              · go_wp2_with (first
                  | (go_at_call 39; (with_reducible refine (G2.out _ B2).mono ?_); rintro e u3 ⟨rfl, h3⟩; (have KK3 := Lib.hid (And.intro (blk_below h3 KK2.out.1) (blk_below h3 KK2.out.2))); (have B3 := bt B2 h3); clear nk h3; (have nk := kn KK3.out.1))
                  | (go_at_call 39; (with_reducible refine (G3.out _ B3).mono ?_); rintro e u4 ⟨rfl, h4⟩; (have KK4 := Lib.hid (And.intro (blk_below h4 KK3.out.1) (blk_below h4 KK3.out.2))); (have B4 := bt B3 h4); clear nk h4; (have nk := kn KK4.out.1))
                  | (go_at_call 39; (with_reducible refine (G4.out _ B4).mono ?_); rintro e u5 ⟨rfl, h5⟩; (have KK5 := Lib.hid (And.intro (blk_below h5 KK4.out.1) (blk_below h5 KK4.out.2))); (have B5 := bt B4 h5); clear nk h5))
                (try simp only [← hun])
                go_meet
                case rel => exact ⟨rfl, KK5, B5⟩
              · go_wp2_with (first
                  | (go_at_call 39; (with_reducible refine (G2.out _ B2).mono ?_); rintro e u3 ⟨rfl, h3⟩; (have KK3 := Lib.hid (And.intro (blk_below h3 KK2.out.1) (blk_below h3 KK2.out.2))); (have B3 := bt B2 h3); clear nk h3; (have nk := kn KK3.out.1))
                  | (go_at_call 39; (with_reducible refine (G3.out _ B3).mono ?_); rintro e u4 ⟨rfl, h4⟩; (have KK4 := Lib.hid (And.intro (blk_below h4 KK3.out.1) (blk_below h4 KK3.out.2))); (have B4 := bt B3 h4); clear nk h4))
                (try simp only [← hun])
                go_meet
                case rel => exact ⟨rfl, KK4, B4⟩
            · go_wp2_with (go_at_call 39; (with_reducible refine (G2.out _ B2).mono ?_); rintro e u3 ⟨rfl, h3⟩; (have KK3 := Lib.hid (And.intro (blk_below h3 KK2.out.1) (blk_below h3 KK2.out.2))); (have B3 := bt B2 h3); clear nk h3)
              (try simp only [← hun])
              go_meet
              case rel => exact ⟨rfl, KK3, B3⟩
          case rest =>
          obtain ⟨rfl, KK3, B3⟩ := hcut
          obtain ⟨nn, hnn⟩ : ∃ q, (q2 || (q3 || q4)) = q := ⟨_, rfl⟩
          rw [hnn] at HMK
          rw [hnn]
          clear hnn G1 G2 G3 G4 nk KK2 B2
          go_upto_region 12 with fail
          refine wp_region_in (by kernel_rfl) (by kernel_rfl) ?_
          intro W0 hE hN
          have q0' : blk W0 c9 = some #[.int .i64 x.no, .int .u64 x.sq, .int .i64 x.of] ∧ blk W0 o = some OUT := (by rw [hE.out]; exact KK3.out)
          have qB : Below w.heap.size w W0 := (by rw [hE.out]; exact B3)
          have n0 := calm_kn q0'.1
          clear hE KK3 B3
          repeat (go_big_quiet_step (first | (go_at_call 39; (with_reducible refine Class.go _ (G8.out _ (bt qB (Class.ok _))))) | (go_at_call 39; (with_reducible refine Class.go _ (G9.out _ (bt qB (Class.ok _)))))))
          refine wpQuiet_nil ?_
          rintro _ ⟨x', rfl⟩
          have B4 := bt qB x'.ok
          have KK4 := Lib.hid (And.intro (blk_below x'.ok q0'.1) (blk_below x'.ok q0'.2))
          obtain ⟨u, hu⟩ : ∃ u, u = x'.wd := ⟨_, rfl⟩
          rw [← hu] at B4 KK4 ⊢
          clear hu x' hN q0' qB n0 G8 G9
          go_upto_region 13 with fail
          go_cut [16] from 70 to 89 (fun s16 wq => ∃ M, s16 = .slice (some ⟨M, 0, none⟩) 6 6 ∧ M ≠ o ∧ w.heap.size ≤ M ∧ Hid (blk wq M = some #[.bool q1, .bool nn, .bool q8, .bool q9, .bool (q1 && (!q8 && !q9)), .bool (!q1 && !nn)] ∧ blk wq o = some OUT) ∧ Below w.heap.size w wq)
          case first =>
            have lo2 := blk_lt KK4.out.2
            have sB4 := B4.size
            cases q1 <;> cases q8 <;> cases q9 <;> cases nn <;> (go_wp2; (try simp only [← hun]); go_meet; case rel => exact ⟨u.heap.size, rfl, by omega, sB4, Lib.hid ⟨blk_alloc_new _ _ _ rfl, blk_alloc KK4.out.2 _⟩, by (repeat (first | (with_reducible assumption) | (with_reducible exact Below.refl _ _) | (with_reducible refine beld_drew ?_) | ((with_reducible refine bset' ?_ ?_); (first | (focus (dsimp only; assumption)) | (focus (simp; done)) | (focus (dsimp only; omega)))) | (with_reducible refine belt_alloc ?_) | ((with_reducible refine zeroed_below' ?_ ?_); (first | (focus (simp; done)) | (focus (dsimp only; omega)))) | (with_reducible refine bt ?_ (by assumption))))⟩)
          case rest =>
          obtain ⟨M, rfl, hMo, hMw, KM, B5⟩ := hcut
          obtain ⟨m4, hm4⟩ : ∃ q, (q1 && (!q8 && !q9)) = q := ⟨_, rfl⟩
          obtain ⟨m5, hm5⟩ : ∃ q, (!q1 && !nn) = q := ⟨_, rfl⟩
          rw [hm4, hm5] at HMK KM
          clear hm4 hm5 KK4 B4
          have hsn : ∀ p, p < 6 → cntL ((b.take (j + 1)).filter (inP prio)) l p = cntL ((b.take j).filter (inP prio)) l p + if mk6 q1 nn q8 q9 m4 m5 p then 1 else 0 := fun p hp => by
            have h9 := HSN.out
            rw [if_pos (by first | trivial | rfl)] at h9
            rw [h9, cntL_snoc, HMK.out p hp]
          have HSN2 := Lib.hid hsn
          obtain ⟨F0, hF0⟩ : ∃ F, F = cntL ((b.take j).filter (inP prio)) l := ⟨_, rfl⟩
          obtain ⟨F1, hF1⟩ : ∃ F, F = cntL ((b.take (j + 1)).filter (inP prio)) l := ⟨_, rfl⟩
          have hbd : ∀ p, 0 ≤ F0 p ∧ F0 p ≤ 1000 := fun p => by
            have h1 := cntL_le ((b.take j).filter (inP prio)) l p
            have h2 := HFL.out
            rw [hF0]; omega
          rw [← hF0, ← hF1] at HSN2
          rw [← hF0] at HO
          have HBD := Lib.hid hbd
          have HF1 := Lib.hid hF1
          have KM2 : Hid (blk wc M = some #[.bool q1, .bool nn, .bool q8, .bool q9, .bool m4, .bool m5] ∧ blk wc o = some (outI (fun i => if i < 0 then F1 i else F0 i))) := Lib.hid ⟨KM.out.1, by rw [KM.out.2, HO.out]; simp⟩
          clear hsn hF0 hF1 hbd HO KM HSN HMK HFL
          (try simp only [← hun])
          clear hun
          go_wp2
          go_loopw [17] (fun s17 wr => ∃ p : Nat, s17 = .int .i64 p ∧ p ≤ 6 ∧ Below w.heap.size w wr ∧ Hid (blk wr M = some #[.bool q1, .bool nn, .bool q8, .bool q9, .bool m4, .bool m5] ∧ blk wr o = some (outI (fun i => if i < p then F1 i else F0 i)))) (fun s17 _ => 6 - (intOf s17).toNat)
          case atStart => exact ⟨0, rfl, Nat.zero_le _, B5, KM2⟩
          case round =>
            clear KM2 B5
            obtain ⟨p, rfl, hp6, hB, HQ⟩ := hrel
            by_cases hp : p < 6
            · have hpz : (p : Int) < 6 := by omega
              have km : wr.cell? ⟨M, p, none⟩ = some (.bool (mk6 q1 nn q8 q9 m4 m5 p)) := (blk_cell HQ.out.1 p).trans (mk6_cell _ _ _ _ _ _ hp)
              have hs := HSN2.out p hp
              have hb9 := HBD.out p
              obtain ⟨q, hq⟩ : ∃ q, mk6 q1 nn q8 q9 m4 m5 p = q := ⟨_, rfl⟩
              rw [hq] at km hs
              obtain ⟨cv, hcv⟩ : ∃ c, F0 p = c := ⟨_, rfl⟩
              rw [hcv] at hs hb9
              have HSN := Lib.hid hs
              have HCV := Lib.hid hcv
              have b1 : 0 ≤ cv := hb9.1
              have b2 : cv ≤ 1000 := hb9.2
              have kc : wr.cell? ⟨o, p, none⟩ = some (.int .i64 cv) := by
                have := blk_cell HQ.out.2 p
                rw [outI_at _ hp, if_neg (Nat.lt_irrefl p), hcv] at this
                exact this
              have kf : wr.frozen? ⟨o, p, none⟩ = false := blk_frozen HQ.out.2 p
              clear hq hs hcv hb9
              have nxt : ∀ W : World, blk W o = some (outI (fun i => if i < p then F1 i else if i = p then F1 p else F0 i)) → blk W o = some (outI (fun i => if i < p + 1 then F1 i else F0 i)) := fun W h => by
                rw [h]
                congr 2
                funext i
                by_cases h1 : i < p
                · rw [if_pos h1, if_pos (by omega)]
                · by_cases h2 : i = p
                  · subst h2; rw [if_neg h1, if_pos rfl, if_pos (by omega)]
                  · rw [if_neg h1, if_neg h2, if_neg (by omega)]
              have NXT := Lib.hid nxt
              clear nxt
              cases q
              · have hE : Hid (blk wr M = some #[.bool q1, .bool nn, .bool q8, .bool q9, .bool m4, .bool m5] ∧ blk wr o = some (outI (fun i => if i < p + 1 then F1 i else F0 i))) := Lib.hid ⟨HQ.out.1, NXT.out _ (by
                  rw [HQ.out.2]
                  congr 2
                  funext i
                  by_cases h1 : i < p
                  · rw [if_pos h1, if_pos h1]
                  · by_cases h2 : i = p
                    · subst h2; rw [if_neg h1, if_neg h1, if_pos rfl, HSN.out, HCV.out]; simp
                    · rw [if_neg h1, if_neg h1, if_neg h2])⟩
                go_wp2
                go_roundw
                case rel => exact ⟨p + 1, by go_num, by omega, hB, hE⟩
                case measure => simp [intOf]; omega
              · have hE : Hid (blk (wr.setCell ⟨o, p, none⟩ (.int .i64 (cv + 1))) M = some #[.bool q1, .bool nn, .bool q8, .bool q9, .bool m4, .bool m5] ∧ blk (wr.setCell ⟨o, p, none⟩ (.int .i64 (cv + 1))) o = some (outI (fun i => if i < p + 1 then F1 i else F0 i))) := Lib.hid ⟨blk_other HQ.out.1 hMo, NXT.out _ (by
                  have h8 := blk_set (i := p) (v := .int .i64 (cv + 1)) HQ.out.2
                  rw [outI_set _ hp] at h8
                  refine h8.trans ?_
                  congr 2
                  funext i
                  by_cases h2 : i = p
                  · subst h2; rw [if_pos rfl, if_neg (Nat.lt_irrefl i), if_pos rfl, HSN.out]; simp
                  · rw [if_neg h2]
                    by_cases h1 : i < p
                    · rw [if_pos h1, if_pos h1]
                    · rw [if_neg h1, if_neg h1, if_neg h2])⟩
                have hB' : Below w.heap.size w (wr.setCell ⟨o, p, none⟩ (.int .i64 (cv + 1))) := hB.setCell hwo _
                clear HQ hB
                go_wp2
                go_roundw
                case rel => exact ⟨p + 1, by go_num, by omega, hB', hE⟩
                case measure => simp [intOf]; omega
            · obtain rfl : p = 6 := by omega
              have hE : Hid (blk wr o = some (outI (cntL ((b.take (j + 1)).filter (inP prio)) l))) := Lib.hid (by rw [← HF1.out]; exact HQ.out.2)
              go_wp2
              go_roundw
              case rel => exact ⟨j + 1, by go_num, by omega, hB, hE⟩
              case measure => simp [intOf]; omega
        · have hin' : inP prio x = false := by simpa using hin
          rw [hin'] at HSN
          have h0 : decide (0 ≤ prio) = true := decide_eq_true (by unfold inP at hin'; simp at hin'; omega)
          have h1 : (x.pr != prio) = true := by unfold inP at hin'; simp at hin'; simp [hin'.2]
          have hM2 : Hid (blk wr o = some (outI (cntL ((b.take (j + 1)).filter (inP prio)) l))) := Lib.hid (by
            rw [HSN.out]; simpa using HM.out)
          clear hin hin' HM HSN c0 c1 c2 hbl
          go_wp2
          go_roundw
          case rel => exact ⟨j + 1, by go_num, by omega, hB, hM2⟩
          case measure => simp [intOf]; omega
      · obtain rfl : j = b.length := by omega
        have ko := HM.out
        rw [List.take_length] at ko
        have KO := Lib.hid ko
        clear ko HM
        go_wp2
        go_ret2
        exact ⟨_, 6, rfl, srow_cou KO.out, hB⟩
  · have hcr : couR b l prio = [] := by unfold couR; rw [if_neg hp]
    obtain ⟨p, hpp⟩ : ∃ p, prioC b l prio = p := ⟨_, rfl⟩
    rw [hpp] at g hp ⊢
    rw [hcr]
    have q0 : (p != 0) = true := by simpa using hp
    have G := Lib.hid g
    clear g hp hpp hcr hd hb hl
    go_enter Tryd.func14, Tryd.ntmps14
    go_wp2_with (go_at_call 38; (with_reducible refine (G.out).mono ?_); rintro e w2 ⟨rfl, h2⟩)
    go_ret2
    exact RetI.err p h2
end Go.Proofs.YthfmkkkdjgkaoaaDoor
