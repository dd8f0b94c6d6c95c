/- Parts of a proof, printed by a program of mine out of my texts: StAdd. -/
import Derived.OrdersHeld
import Derived.Deep.RegionHeld
import Derived.Deep.RegionHeld3
import Derived.Test.YtahopnlibmiafaaDoorMX
set_option linter.unusedSimpArgs false
set_option linter.unusedVariables false
namespace Go.Proofs.YtahopnlibmiafaaDoor
open Go.RowKit
set_option maxRecDepth 100000 in
theorem or2_any (b : Nat) (x y : Int) (w : World) (hb : blk w b = some #[.int .i64 x, .int .i64 y]) : Calls Tryd.prog 73 #[.slice (some ⟨b, 0, none⟩) 2 2] w fun e w' => e = .returned (.int .i64 (if x ≠ 0 then x else y)) ∧ w = w' := by
  have nk := kn hb
  clear hb
  by_cases hx : x = 0
  · subst hx
    have q0 : ((0 : Int) != 0) = false := rfl
    rw [if_neg (fun h => h rfl)]
    by_cases hy : y = 0
    · subst hy
      go_enter Tryd.func73, Tryd.ntmps73
      go_wp2
      refine wp_loop_rounds 3 ?_
      rw [rounds_succ]
      go_wp2
      rw [rounds_succ]
      go_wp2
      rw [rounds_succ]
      go_wp2
      go_ret
      exact ⟨rfl, rfl⟩
    · have q1 : (y != 0) = true := by simpa using hy
      go_enter Tryd.func73, Tryd.ntmps73
      go_wp2
      refine wp_loop_rounds 2 ?_
      rw [rounds_succ]
      go_wp2
      rw [rounds_succ]
      go_wp2
      go_ret
      exact ⟨rfl, rfl⟩
  · have q1 : (x != 0) = true := by simpa using hx
    rw [if_pos hx]
    go_enter Tryd.func73, Tryd.ntmps73
    go_wp2
    refine wp_loop_rounds 1 ?_
    rw [rounds_succ]
    go_wp2
    go_ret
    exact ⟨rfl, rfl⟩
def ordS (l : List Itm) : Int := l.getLast?.elim 0 (fun y => y.od + 1)
theorem ordS_nil : ordS [] = 0 := rfl
theorem ordS_last {l : List Itm} {y : Itm} (h : l.getLast? = some y) : ordS l = y.od + 1 := by unfold ordS; rw [h]; rfl
theorem addS_eq (l : List Itm) (b : Bn) : addS l b = if (chkS l).1 ≠ 0 then ([], (chkS l).1) else if bcode b ≠ 0 then ([], bcode b) else if 0 ≤ placeS l (bid b) then ([], 9)
    else if l.length = 1000 ∨ 1099511627776 < ordS l then ([], 5) else (l ++ [⟨b, 1, 0, 0, ordS l⟩], 0) := rfl
theorem itE_od {x : Itm} (h : itE x = 0) : 0 ≤ x.od ∧ x.od ≤ 1099511627776 := by
  rcases itE_cases x with ⟨h1, h2⟩ | ⟨_, h2⟩
  · rw [h2] at h; exact absurd h h1
  · rcases h2 with h2 | ⟨_, ⟨_, h3⟩ | ⟨_, _, h3⟩ | ⟨h3, h4, _⟩⟩
    · rcases h2 with ⟨_, _, h3⟩ | ⟨_, _, h3⟩ | ⟨_, _, _, h3⟩ | ⟨_, _, h3⟩ | ⟨_, _, _, h3⟩ <;> rw [h] at h3 <;> exact absurd h3 (by decide)
    · rw [h] at h3; exact absurd h3 (by decide)
    · rw [h] at h3; exact absurd h3 (by decide)
    · omega
theorem StV.od {l : List Itm} (h : StV l) {y : Itm} (hy : l.getLast? = some y) : 0 ≤ y.od ∧ y.od ≤ 1099511627776 := by
  obtain ⟨i, hi, e⟩ := List.getElem_of_mem (List.mem_of_getLast? hy)
  have := h.2 i hi
  rw [fltS_at hi] at this
  rw [← e]
  exact itE_od (itF_e this)
theorem k5of {w5 W : World} {B : Nat} {v : Value} {n : Nat} {xs : List Value} {e : TypeId} {size : Nat} {c : Array Value} (hg : W.grownBy w5 v.ownBlock) (ho : Hid (W.ownsRow (B + 1) e size v n xs)) (hk : blk W B = some c) : ∀ o, w5.cell? ⟨B, o, none⟩ = c[o]? := fun o => by
  refine blk_cell ((blk_kept (hg.block _ (blk_lt hk) (fun e => ?_))).trans hk) o
  have := (ho.out.lt _ e.symm).1
  omega
set_option maxRecDepth 100000 in
set_option maxHeartbeats 6400000 in
theorem add_any (a : Option Addr) (cap : Nat) (l : List Itm) (b : Bn) (hd : ∀ x ∈ l, x.b.da.size ≤ maxLen) (hb : b.da.size ≤ maxLen) (w : World) (hrow : SRow itm 13 w a cap l) :
    Calls Tryd.prog 30 #[.slice a l.length cap, .agg (bn b).toArray] w fun e w' => RetS (addS l b) w e w' := by
  rw [addS_eq]
  show Calls Tryd.prog 30 #[.slice a l.length cap, .agg #[.int .i64 b.no, .int .u64 b.sq, .int .i64 b.of, .int .i64 b.de, .int .i64 b.pr, .int .i64 b.bo, .int .i64 b.li, .int .i64 b.to, .string b.da]] w _
  have g1 : ∀ W, Below w.heap.size w W → Calls Tryd.prog 74 #[.slice a l.length cap] W fun e w' => e = .returned (.int .i64 (chkS l).1) ∧ Below W.heap.size W w' := fun W hB => valid_any a cap l hd W (hrow.below hB)
  have g0 : ∀ W, Calls Tryd.prog 54 #[.agg #[.int .i64 b.no, .int .u64 b.sq, .int .i64 b.of, .int .i64 b.de, .int .i64 b.pr, .int .i64 b.bo, .int .i64 b.li, .int .i64 b.to, .string b.da]] W fun e w' => e = .returned (.int .i64 (bcode b)) ∧ Below W.heap.size W w' := fun W => pchk_any b hb W
  obtain ⟨ec, hec⟩ : ∃ c, (if (chkS l).1 ≠ 0 then (chkS l).1 else bcode b) = c := ⟨_, rfl⟩
  by_cases hc : ec = 0
  · have hc1 : (chkS l).1 = 0 := by
      by_cases h : (chkS l).1 = 0
      · exact h
      · rw [if_pos h] at hec; rw [hec]; exact hc
    have hbc : bcode b = 0 := by rw [if_neg (fun h => h hc1)] at hec; rw [hec]; exact hc
    have hv := chkS_zero hc1
    rw [if_neg (fun h => h hc1)]
    rw [hc1] at g1
    replace g1 := Lib.hid g1
    clear hec hc hc1
    rw [if_neg (fun h => h hbc)]
    rw [hbc] at g0
    replace g0 := Lib.hid g0
    have q0 : ((0 : Int) != 0) = false := rfl
    have gp : ∀ W, Below w.heap.size w W → Calls Tryd.prog 75 #[.slice a l.length cap, .agg #[.int .i64 b.no, .int .u64 b.sq, .int .i64 b.of]] W fun e w' => e = .returned (.int .i64 (placeS l (bid b))) ∧ Below W.heap.size W w' := fun W hB => place_any a cap l (bid b) W (hrow.below hB)
    have g2 : ∀ W, Below w.heap.size w W → Calls Tryd.prog 76 #[.slice a l.length cap] W fun e w' => OwnS l W e w' := fun W hB => clone_any a cap l (by have := hv.1; omega) W (hrow.below hB)
    replace g2 := Lib.hid g2
    have hcap := hrow.1
    have hmax := hrow.2.1
    unfold maxLen at hmax
    have h1000 := hv.1
    obtain ⟨pl, hpl⟩ : ∃ p, placeS l (bid b) = p := ⟨_, rfl⟩
    rw [hpl] at gp ⊢
    replace gp := Lib.hid gp
    obtain ⟨i0, hi, hz0, hz1, hz2⟩ := info_parts infoIt
    have Hi := Lib.hid hi; have Hz0 := Lib.hid hz0; have Hz1 := Lib.hid hz1; have Hz2 := Lib.hid hz2
    clear hi hz0 hz1 hz2
    rcases List.eq_nil_or_concat l with rfl | ⟨l0, y, rfl⟩
    · have hp1 : pl = -1 := by rw [← hpl]; rfl
      subst hp1
      rw [if_neg (by decide), if_neg (by rw [ordS_nil]; simp), ordS_nil]
      obtain ⟨lx, hlx⟩ : ∃ z : List Itm, z = [] := ⟨_, rfl⟩
      have hR : ([] ++ [⟨b, 1, 0, 0, 0⟩] : List Itm) = lx ++ [⟨b, 1, 0, 0, 0⟩] := by rw [hlx]
      rw [hR, List.length_nil]
      rw [← hlx] at g1 gp g2
      have LZ : lx.length = 0 := by rw [hlx]; rfl
      rw [LZ] at g1 gp g2
      clear hR
      have HLZ := Lib.hid LZ
      clear LZ hlx hpl hv hrow hd h1000 hbc
      have hun : undef = Value.tuple #[] := rfl
      have t9 : decide ((0 : Int) ≤ -1) = false := rfl
      go_enter Tryd.func30, Tryd.ntmps30
      go_wp2_with fail
      refine wp_region_tail 4 (by kernel_rfl) (by kernel_rfl) ?_
      intro W0 hE hN
      have k0 : blk W0 w.heap.size = some #[.int .i64 b.no, .int .u64 b.sq, .int .i64 b.of, .int .i64 b.de, .int .i64 b.pr, .int .i64 b.bo, .int .i64 b.li, .int .i64 b.to, .string b.da] := (by rw [hE.out]; (apply blk_to; (focus (repeat (first | (with_reducible assumption) | (with_reducible apply blk_drew) | (with_reducible apply blk_set) | ((with_reducible apply blk_other'); (first | (focus (dsimp only; assumption)) | (focus (simp; done)) | (focus (dsimp only; omega)))) | ((with_reducible apply blk_alloc_new); (first | (with_reducible rfl) | (focus (simp; done)) | (focus (simp; omega)))) | (with_reducible apply blk_alloc) | ((with_reducible apply blk_below); (with_reducible assumption))))); rfl))
      have n0 := calm_kn k0
      have bW : Below w.heap.size w W0 := (by rw [hE.out]; (repeat (first | (with_reducible assumption) | (with_reducible exact Below.refl _ _) | (with_reducible refine beld_drew ?_) | ((with_reducible refine bset' ?_ ?_); (first | (focus (dsimp only; assumption)) | (focus (simp; done)) | (focus (dsimp only; omega)))) | (with_reducible refine belt_alloc ?_) | ((with_reducible refine zeroed_below' ?_ ?_); (first | (focus (simp; done)) | (focus (dsimp only; omega)))) | (with_reducible refine bt ?_ (by assumption)))))
      clear hE
      have g1c : ∀ X : Class (Calm W0), _ := fun X => g1.out X.wd (bW.trans (X.ok.mono bW.size))
      have G1 := Lib.hid g1c
      clear g1c
      simp only [List.take_succ_cons, List.take_zero, List.drop_succ_cons, List.drop_zero]
      repeat (go_big_quiet_step ((first | (go_at_call 74; (with_reducible refine Class.go _ (G1.out _))) | (go_at_call 54; (with_reducible refine Class.go _ (g0.out _))))))
      refine wpQuiet_nil ?_
      rintro _ ⟨x', rfl⟩
      have k1 := blk_below x'.ok k0
      have b1 := bt bW x'.ok
      obtain ⟨u, hu⟩ : ∃ u, u = x'.wd := ⟨_, rfl⟩
      rw [← hu] at k1 b1 ⊢
      clear hu x' hN n0 k0 bW G1
      have n1 := kn k1
      go_wp2_with (first | (go_at_call 73; (with_reducible refine (or2_any _ _ _ _ (blk_alloc_new _ _ _ rfl)).mono ?_); rintro e w2 ⟨rfl, rfl⟩; rw [if_neg (fun h => h rfl)]; (have kb : blk (u.alloc (.cells #[.int .i64 0, .int .i64 0] 30)) w.heap.size = some #[.int .i64 b.no, .int .u64 b.sq, .int .i64 b.of, .int .i64 b.de, .int .i64 b.pr, .int .i64 b.bo, .int .i64 b.li, .int .i64 b.to, .string b.da] := (by (apply blk_to; (focus (repeat (first | (with_reducible assumption) | (with_reducible apply blk_drew) | (with_reducible apply blk_set) | ((with_reducible apply blk_other'); (first | (focus (dsimp only; assumption)) | (focus (simp; done)) | (focus (dsimp only; omega)))) | ((with_reducible apply blk_alloc_new); (first | (with_reducible rfl) | (focus (simp; done)) | (focus (simp; omega)))) | (with_reducible apply blk_alloc) | ((with_reducible apply blk_below); (with_reducible assumption))))); rfl))); (have nk := kn kb); (have b2 : Below w.heap.size w (u.alloc (.cells #[.int .i64 0, .int .i64 0] 30)) := (by (repeat (first | (with_reducible assumption) | (with_reducible exact Below.refl _ _) | (with_reducible refine beld_drew ?_) | ((with_reducible refine bset' ?_ ?_); (first | (focus (dsimp only; assumption)) | (focus (simp; done)) | (focus (dsimp only; omega)))) | (with_reducible refine belt_alloc ?_) | ((with_reducible refine zeroed_below' ?_ ?_); (first | (focus (simp; done)) | (focus (dsimp only; omega)))) | (with_reducible refine bt ?_ (by assumption))))))) | (go_at_call 75; (with_reducible refine (gp.out _ b2).mono ?_); rintro e w3 ⟨rfl, h3'⟩; (have kb3 := blk_below h3' kb); (have nk3 := kn kb3); (have b3 := bt b2 h3'); clear h3' kb nk b2))
      refine wp_region_held_drew (S := (fun W => ∀ o, W.cell? ⟨w.heap.size, o, none⟩ = (#[.int .i64 b.no, .int .u64 b.sq, .int .i64 b.of, .int .i64 b.de, .int .i64 b.pr, .int .i64 b.bo, .int .i64 b.li, .int .i64 b.to, .string b.da] : Array Value)[o]?)) (by kernel_rfl) (fun o => blk_cell (blk_drew kb3) o) (fun hHeld => ?_)
      have b4 : Below w.heap.size w w3.drew := b3.drew
      have kb4 : blk w3.drew w.heap.size = some #[.int .i64 b.no, .int .u64 b.sq, .int .i64 b.of, .int .i64 b.de, .int .i64 b.pr, .int .i64 b.bo, .int .i64 b.li, .int .i64 b.to, .string b.da] := blk_drew kb3
      obtain ⟨d0, hd0⟩ : ∃ d, d = w3.drew := ⟨_, rfl⟩
      rw [← hd0] at b4 kb4 hHeld ⊢
      clear hd0 b3 kb3 nk3
      refine wpAnyH_take (i := 0) (oi := _) (v := ?_) rfl (by kernel_rfl) (by kernel_rfl) (by kernel_rfl) (fun _ _ _ h => h) (Or.inl ⟨by rfl, ?_⟩) (by assumption) ?_
      rotate_left
      focus (intro W hSw; (try dsimp only at hSw); go_simp; (try with_reducible rfl))
      (try simp only [Act.put, List.setIfInBounds_toArray, List.set_cons_zero, List.set_cons_succ, List.getElem_toArray, List.getElem_cons_succ, List.getElem_cons_zero])
      refine wpAnyH_take (i := 2) (oi := _) (v := ?_) rfl (by kernel_rfl) (by kernel_rfl) (by kernel_rfl) (fun _ _ _ h => h) (Or.inl ⟨by rfl, ?_⟩) (by assumption) ?_
      rotate_left
      focus (intro W hSw; (try dsimp only at hSw); go_simp; (try with_reducible rfl))
      (try simp only [Act.put, List.setIfInBounds_toArray, List.set_cons_zero, List.set_cons_succ, List.getElem_toArray, List.getElem_cons_succ, List.getElem_cons_zero])
      refine wpAnyH_take (i := 3) (oi := _) (v := ?_) rfl (by kernel_rfl) (by kernel_rfl) (by kernel_rfl) (fun _ _ _ h => h) (Or.inl ⟨by rfl, ?_⟩) (by assumption) ?_
      rotate_left
      focus (intro W hSw; (try dsimp only at hSw); go_simp; (try with_reducible rfl))
      (try simp only [Act.put, List.setIfInBounds_toArray, List.set_cons_zero, List.set_cons_succ, List.getElem_toArray, List.getElem_cons_succ, List.getElem_cons_zero])
      refine wpAnyH_take (i := 4) (oi := _) (v := ?_) rfl (by kernel_rfl) (by kernel_rfl) (by kernel_rfl) (fun _ _ _ h => h) (Or.inl ⟨by rfl, ?_⟩) (by assumption) ?_
      rotate_left
      focus (intro W hSw; (try dsimp only at hSw); go_simp; (try with_reducible rfl))
      (try simp only [Act.put, List.setIfInBounds_toArray, List.set_cons_zero, List.set_cons_succ, List.getElem_toArray, List.getElem_cons_succ, List.getElem_cons_zero])
      refine wpAnyH_ready (rs := [1, 5]) (by kernel_rfl) (by simp) ?_
      refine AllReadyH.cons rfl (fun K hK => ?_) ?_
      · skip
        go_simp
        go_at_call 76
        (with_reducible refine (g2.out _ b4).mono ?_)
        rintro e v1 ⟨rv1, rfl, hov1, hBv1⟩
        (try go_wp2_with fail)
        have kv1 := blk_below hBv1 kb4
        have bv1 := bt b4 hBv1
        have ov1 := Lib.hid (owns_base hov1 (show w.heap.size + 1 ≤ _ from blk_lt kb4))
        refine hK.out _ _ (fun o => blk_cell kv1 o) (fun hHeld2 => ?_)
        clear hK K
        (try simp only [Act.put, List.setIfInBounds_toArray, List.set_cons_zero, List.set_cons_succ, List.getElem_toArray, List.getElem_cons_succ, List.getElem_cons_zero])
        refine wpAnyH_ready (rs := [5]) (by kernel_rfl) (by simp) ?_
        refine AllReadyH.cons rfl (fun K hK => ?_) AllReadyH.nil
        go_simp
        refine hK.out _ _ (fun o => blk_cell (blk_alloc kv1 _) o) (fun hHeld3 => ?_)
        clear hK K
        (try simp only [Act.put, List.setIfInBounds_toArray, List.set_cons_zero, List.set_cons_succ, List.getElem_toArray, List.getElem_cons_succ, List.getElem_cons_zero])
        obtain ⟨v2, ev2⟩ : ∃ x, x = v1.alloc (.cells #[.int .i64 b.no, .int .u64 b.sq, .int .i64 b.of, .int .i64 b.de, .int .i64 b.pr, .int .i64 b.bo, .int .i64 b.li, .int .i64 b.to, .string b.da, .int .i64 1, .int .i64 0, .int .u64 0, .int .i64 0] 67) := ⟨_, rfl⟩
        obtain ⟨nv2, env2⟩ : ∃ x, x = v1.heap.size := ⟨_, rfl⟩
        have kv2 : blk v2 w.heap.size = some #[.int .i64 b.no, .int .u64 b.sq, .int .i64 b.of, .int .i64 b.de, .int .i64 b.pr, .int .i64 b.bo, .int .i64 b.li, .int .i64 b.to, .string b.da] := (by rw [ev2]; exact blk_alloc kv1 _)
        have bv2 : Below w.heap.size w v2 := (by rw [ev2]; exact bv1.alloc bv1.size _)
        have zv2 : blk v2 nv2 = some #[.int .i64 b.no, .int .u64 b.sq, .int .i64 b.of, .int .i64 b.de, .int .i64 b.pr, .int .i64 b.bo, .int .i64 b.li, .int .i64 b.to, .string b.da, .int .i64 1, .int .i64 0, .int .u64 0, .int .i64 0] := (by rw [ev2]; exact blk_alloc_new _ _ _ env2)
        have lzv2 := bv1.size
        have oo := Lib.hid (by rw [ev2]; have := ov1.out.alloc (.cells #[.int .i64 b.no, .int .u64 b.sq, .int .i64 b.of, .int .i64 b.de, .int .i64 b.pr, .int .i64 b.bo, .int .i64 b.li, .int .i64 b.to, .string b.da, .int .i64 1, .int .i64 0, .int .u64 0, .int .i64 0] 67); rw [HLZ.out] at this; exact this : World.ownsRow v2 (w.heap.size + 1) 67 13 rv1 0 (rowC itm lx))
        have zz := zv2
        rw [← ev2, ← env2]
        clear ev2 env2
        refine wpAnyH_ready (rs := [6]) (by kernel_rfl) (by simp) ?_
        refine AllReadyH.cons rfl (fun K hK => ?_) AllReadyH.nil
        refine wp_append_own _ (.tmp 44) (.tmp 48) 39 rfl (w.heap.size + 1) 67 i0 (.agg #[.int .i64 0, .int .u64 0, .int .i64 0, .int .i64 0, .int .i64 0, .int .i64 0, .int .i64 0, .int .i64 0, .string ⟨#[]⟩, .int .i64 0, .int .i64 0, .int .u64 0, .int .i64 0]) 13 112 Tryd.underlying39 Hi.out Hz0.out Hz1.out Hz2.out rfl (by decide) _ 0 (rowC itm lx) rfl oo.out ⟨nv2, 0, none⟩ 1 1 (itm ⟨b, 1, 0, 0, 0⟩) rfl rfl (fun j u hj => (by rw [Addr.add_mid, Nat.zero_add, blk_cell zz]; simpa [itm, bn] using hj)) (itm_one _) (by unfold maxLen; omega) (by omega) (show w.heap.size + 1 ≤ _ from blk_lt kv2) ?_
        intro v' w5 hown5 hgr5 _
        have b5 : Below w.heap.size w w5 := bv2.grown hgr5 bv2.size (fun k e => Nat.le_of_succ_le (oo.out.lt k e).1)
        have O5 := Lib.hid hown5
        have k5 : ∀ o, w5.cell? ⟨w.heap.size, o, none⟩ = (#[.int .i64 b.no, .int .u64 b.sq, .int .i64 b.of, .int .i64 b.de, .int .i64 b.pr, .int .i64 b.bo, .int .i64 b.li, .int .i64 b.to, .string b.da] : Array Value)[o]? := k5of hgr5 oo kv2
        refine hK.out _ _ k5 (fun hHeld5 => ?_)
        clear hK K hown5 hgr5
        (try simp only [Act.put, List.setIfInBounds_toArray, List.set_cons_zero, List.set_cons_succ, List.getElem_toArray, List.getElem_cons_succ, List.getElem_cons_zero])
        refine wpAnyH_take (i := 7) (oi := _) (v := ?_) rfl (by kernel_rfl) (by kernel_rfl) (by kernel_rfl) (fun _ _ _ h => h) (Or.inl ⟨by rfl, ?_⟩) (by assumption) ?_
        rotate_left
        focus (intro W hSw; (try dsimp only at hSw); go_simp; (try with_reducible rfl))
        (try simp only [Act.put, List.setIfInBounds_toArray, List.set_cons_zero, List.set_cons_succ, List.getElem_toArray, List.getElem_cons_succ, List.getElem_cons_zero])
        refine wpAnyH_take (i := 8) (oi := _) (v := ?_) rfl (by kernel_rfl) (by kernel_rfl) (by kernel_rfl) (fun _ _ _ h => h) (Or.inl ⟨by rfl, ?_⟩) (by assumption) ?_
        rotate_left
        focus (intro W hSw; (try dsimp only at hSw); go_simp; (try with_reducible rfl))
        (try simp only [Act.put, List.setIfInBounds_toArray, List.set_cons_zero, List.set_cons_succ, List.getElem_toArray, List.getElem_cons_succ, List.getElem_cons_zero])
        refine wpAnyH_done (by kernel_rfl) ?_ _
        go_wp2
        go_ret2
        refine ⟨_, rfl, ?_, b5⟩
        have o5 := owns_base O5.out (Nat.le_succ _)
        rw [← rowC_one (enc := itm), ← rowC_append] at o5
        rw [List.length_append, HLZ.out]
        exact o5
      refine AllReadyH.cons rfl (fun K hK => ?_) AllReadyH.nil
      go_simp
      refine hK.out _ _ (fun o => blk_cell (blk_alloc kb4 _) o) (fun hHeld3 => ?_)
      clear hK K
      (try simp only [Act.put, List.setIfInBounds_toArray, List.set_cons_zero, List.set_cons_succ, List.getElem_toArray, List.getElem_cons_succ, List.getElem_cons_zero])
      obtain ⟨v3, ev3⟩ : ∃ x, x = d0.alloc (.cells #[.int .i64 b.no, .int .u64 b.sq, .int .i64 b.of, .int .i64 b.de, .int .i64 b.pr, .int .i64 b.bo, .int .i64 b.li, .int .i64 b.to, .string b.da, .int .i64 1, .int .i64 0, .int .u64 0, .int .i64 0] 67) := ⟨_, rfl⟩
      obtain ⟨nv3, env3⟩ : ∃ x, x = d0.heap.size := ⟨_, rfl⟩
      have kv3 : blk v3 w.heap.size = some #[.int .i64 b.no, .int .u64 b.sq, .int .i64 b.of, .int .i64 b.de, .int .i64 b.pr, .int .i64 b.bo, .int .i64 b.li, .int .i64 b.to, .string b.da] := (by rw [ev3]; exact blk_alloc kb4 _)
      have bv3 : Below w.heap.size w v3 := (by rw [ev3]; exact b4.alloc b4.size _)
      have zv3 : blk v3 nv3 = some #[.int .i64 b.no, .int .u64 b.sq, .int .i64 b.of, .int .i64 b.de, .int .i64 b.pr, .int .i64 b.bo, .int .i64 b.li, .int .i64 b.to, .string b.da, .int .i64 1, .int .i64 0, .int .u64 0, .int .i64 0] := (by rw [ev3]; exact blk_alloc_new _ _ _ env3)
      have lzv3 := b4.size
      rw [← ev3, ← env3]
      clear ev3 env3
      refine wpAnyH_ready (rs := [1]) (by kernel_rfl) (by simp) ?_
      refine AllReadyH.cons rfl (fun K hK => ?_) AllReadyH.nil
      go_simp
      go_at_call 76
      (with_reducible refine (g2.out _ bv3).mono ?_)
      rintro e v4 ⟨rv4, rfl, hov4, hBv4⟩
      (try go_wp2_with fail)
      have kv4 := blk_below hBv4 kv3
      have bv4 := bt bv3 hBv4
      have ov4 := Lib.hid (owns_base hov4 (show w.heap.size + 1 ≤ _ from blk_lt kv3))
      refine hK.out _ _ (fun o => blk_cell kv4 o) (fun hHeld2 => ?_)
      clear hK K
      (try simp only [Act.put, List.setIfInBounds_toArray, List.set_cons_zero, List.set_cons_succ, List.getElem_toArray, List.getElem_cons_succ, List.getElem_cons_zero])
      have oo := Lib.hid (by have := ov4.out; rw [HLZ.out] at this; exact this : World.ownsRow v4 (w.heap.size + 1) 67 13 rv4 0 (rowC itm lx))
      have zz := blk_below hBv4 zv3
      refine wpAnyH_ready (rs := [6]) (by kernel_rfl) (by simp) ?_
      refine AllReadyH.cons rfl (fun K hK => ?_) AllReadyH.nil
      refine wp_append_own _ (.tmp 44) (.tmp 48) 39 rfl (w.heap.size + 1) 67 i0 (.agg #[.int .i64 0, .int .u64 0, .int .i64 0, .int .i64 0, .int .i64 0, .int .i64 0, .int .i64 0, .int .i64 0, .string ⟨#[]⟩, .int .i64 0, .int .i64 0, .int .u64 0, .int .i64 0]) 13 112 Tryd.underlying39 Hi.out Hz0.out Hz1.out Hz2.out rfl (by decide) _ 0 (rowC itm lx) rfl oo.out ⟨nv3, 0, none⟩ 1 1 (itm ⟨b, 1, 0, 0, 0⟩) rfl rfl (fun j u hj => (by rw [Addr.add_mid, Nat.zero_add, blk_cell zz]; simpa [itm, bn] using hj)) (itm_one _) (by unfold maxLen; omega) (by omega) (show w.heap.size + 1 ≤ _ from blk_lt kv4) ?_
      intro v' w5 hown5 hgr5 _
      have b5 : Below w.heap.size w w5 := bv4.grown hgr5 bv4.size (fun k e => Nat.le_of_succ_le (oo.out.lt k e).1)
      have O5 := Lib.hid hown5
      have k5 : ∀ o, w5.cell? ⟨w.heap.size, o, none⟩ = (#[.int .i64 b.no, .int .u64 b.sq, .int .i64 b.of, .int .i64 b.de, .int .i64 b.pr, .int .i64 b.bo, .int .i64 b.li, .int .i64 b.to, .string b.da] : Array Value)[o]? := k5of hgr5 oo kv4
      refine hK.out _ _ k5 (fun hHeld5 => ?_)
      clear hK K hown5 hgr5
      (try simp only [Act.put, List.setIfInBounds_toArray, List.set_cons_zero, List.set_cons_succ, List.getElem_toArray, List.getElem_cons_succ, List.getElem_cons_zero])
      refine wpAnyH_take (i := 7) (oi := _) (v := ?_) rfl (by kernel_rfl) (by kernel_rfl) (by kernel_rfl) (fun _ _ _ h => h) (Or.inl ⟨by rfl, ?_⟩) (by assumption) ?_
      rotate_left
      focus (intro W hSw; (try dsimp only at hSw); go_simp; (try with_reducible rfl))
      (try simp only [Act.put, List.setIfInBounds_toArray, List.set_cons_zero, List.set_cons_succ, List.getElem_toArray, List.getElem_cons_succ, List.getElem_cons_zero])
      refine wpAnyH_take (i := 8) (oi := _) (v := ?_) rfl (by kernel_rfl) (by kernel_rfl) (by kernel_rfl) (fun _ _ _ h => h) (Or.inl ⟨by rfl, ?_⟩) (by assumption) ?_
      rotate_left
      focus (intro W hSw; (try dsimp only at hSw); go_simp; (try with_reducible rfl))
      (try simp only [Act.put, List.setIfInBounds_toArray, List.set_cons_zero, List.set_cons_succ, List.getElem_toArray, List.getElem_cons_succ, List.getElem_cons_zero])
      refine wpAnyH_done (by kernel_rfl) ?_ _
      go_wp2
      go_ret2
      refine ⟨_, rfl, ?_, b5⟩
      have o5 := owns_base O5.out (Nat.le_succ _)
      rw [← rowC_one (enc := itm), ← rowC_append] at o5
      rw [List.length_append, HLZ.out]
      exact o5
    · have hy : (l0 ++ [y]).getLast? = some y := by simp
      rw [List.concat_eq_append] at *
      have hod := hv.od hy
      rw [ordS_last hy]
      obtain ⟨l, hl⟩ : ∃ l, l = l0 ++ [y] := ⟨_, rfl⟩
      have hk : l0.length + 1 = l.length := by rw [hl]; simp
      rw [← hl] at g1 gp g2 hcap h1000 hpl hrow hy hd hv ⊢
      obtain ⟨bb, o, rfl, hbl, gy⟩ := srow_last hrow hy hk
      clear hl
      obtain ⟨k, hk0⟩ : ∃ k, k = l0.length := ⟨_, rfl⟩
      rw [← hk0] at hk gy
      clear hk0
      have l0 : decide ((0 : Int) < (l.length : Int)) = true := decide_eq_true (by omega)
      have l1 : decide (0 < l.length) = true := decide_eq_true (by omega)
      have l2 : (k : Int) < (l.length : Int) := by omega
      have m1 : IntKind.i64.wrap ((l.length : Int) - 1) = k := (IntWalk.i64_in _ (by omega)).trans (by omega)
      obtain ⟨od, hod0⟩ : ∃ z, z = y.od := ⟨_, rfl⟩
      rw [← hod0] at hod gy ⊢
      have m2 : IntKind.i64.wrap (od + 1) = od + 1 := IntWalk.i64_in _ (by omega)
      clear hod0 hy hv hd hrow hbc
      by_cases hp : 0 ≤ pl
      · rw [if_pos hp]
        have t9 : decide ((0 : Int) ≤ pl) = true := decide_eq_true hp
        go_enter Tryd.func30, Tryd.ntmps30
        go_wp2_with fail
        refine wp_region_tail 4 (by kernel_rfl) (by kernel_rfl) ?_
        intro W0 hE hN
        have k0 : blk W0 w.heap.size = some #[.int .i64 b.no, .int .u64 b.sq, .int .i64 b.of, .int .i64 b.de, .int .i64 b.pr, .int .i64 b.bo, .int .i64 b.li, .int .i64 b.to, .string b.da] := (by rw [hE.out]; (apply blk_to; (focus (repeat (first | (with_reducible assumption) | (with_reducible apply blk_drew) | (with_reducible apply blk_set) | ((with_reducible apply blk_other'); (first | (focus (dsimp only; assumption)) | (focus (simp; done)) | (focus (dsimp only; omega)))) | ((with_reducible apply blk_alloc_new); (first | (with_reducible rfl) | (focus (simp; done)) | (focus (simp; omega)))) | (with_reducible apply blk_alloc) | ((with_reducible apply blk_below); (with_reducible assumption))))); rfl))
        have n0 := calm_kn k0
        have bW : Below w.heap.size w W0 := (by rw [hE.out]; (repeat (first | (with_reducible assumption) | (with_reducible exact Below.refl _ _) | (with_reducible refine beld_drew ?_) | ((with_reducible refine bset' ?_ ?_); (first | (focus (dsimp only; assumption)) | (focus (simp; done)) | (focus (dsimp only; omega)))) | (with_reducible refine belt_alloc ?_) | ((with_reducible refine zeroed_below' ?_ ?_); (first | (focus (simp; done)) | (focus (dsimp only; omega)))) | (with_reducible refine bt ?_ (by assumption)))))
        clear hE
        have g1c : ∀ X : Class (Calm W0), _ := fun X => g1.out X.wd (bW.trans (X.ok.mono bW.size))
        have G1 := Lib.hid g1c
        clear g1c
        simp only [List.take_succ_cons, List.take_zero, List.drop_succ_cons, List.drop_zero]
        repeat (go_big_quiet_step ((first | (go_at_call 74; (with_reducible refine Class.go _ (G1.out _))) | (go_at_call 54; (with_reducible refine Class.go _ (g0.out _))))))
        refine wpQuiet_nil ?_
        rintro _ ⟨x', rfl⟩
        have k1 := blk_below x'.ok k0
        have b1 := bt bW x'.ok
        obtain ⟨u, hu⟩ : ∃ u, u = x'.wd := ⟨_, rfl⟩
        rw [← hu] at k1 b1 ⊢
        clear hu x' hN n0 k0 bW G1
        have n1 := kn k1
        go_wp2_with (first | (go_at_call 73; (with_reducible refine (or2_any _ _ _ _ (blk_alloc_new _ _ _ rfl)).mono ?_); rintro e w2 ⟨rfl, rfl⟩; rw [if_neg (fun h => h rfl)]; (have kb : blk (u.alloc (.cells #[.int .i64 0, .int .i64 0] 30)) w.heap.size = some #[.int .i64 b.no, .int .u64 b.sq, .int .i64 b.of, .int .i64 b.de, .int .i64 b.pr, .int .i64 b.bo, .int .i64 b.li, .int .i64 b.to, .string b.da] := (by (apply blk_to; (focus (repeat (first | (with_reducible assumption) | (with_reducible apply blk_drew) | (with_reducible apply blk_set) | ((with_reducible apply blk_other'); (first | (focus (dsimp only; assumption)) | (focus (simp; done)) | (focus (dsimp only; omega)))) | ((with_reducible apply blk_alloc_new); (first | (with_reducible rfl) | (focus (simp; done)) | (focus (simp; omega)))) | (with_reducible apply blk_alloc) | ((with_reducible apply blk_below); (with_reducible assumption))))); rfl))); (have nk := kn kb); (have cy0 := ((by (repeat (first | (with_reducible assumption) | (with_reducible exact Below.refl _ _) | (with_reducible refine beld_drew ?_) | ((with_reducible refine bset' ?_ ?_); (first | (focus (dsimp only; assumption)) | (focus (simp; done)) | (focus (dsimp only; omega)))) | (with_reducible refine belt_alloc ?_) | ((with_reducible refine zeroed_below' ?_ ?_); (first | (focus (simp; done)) | (focus (dsimp only; omega)))) | (with_reducible refine bt ?_ (by assumption)))) : Below w.heap.size w (u.alloc (.cells #[.int .i64 0, .int .i64 0] 30))).cell (p := ⟨bb, o + k * 13 + 12, none⟩) hbl).trans gy); (have b2 : Below w.heap.size w (u.alloc (.cells #[.int .i64 0, .int .i64 0] 30)) := (by (repeat (first | (with_reducible assumption) | (with_reducible exact Below.refl _ _) | (with_reducible refine beld_drew ?_) | ((with_reducible refine bset' ?_ ?_); (first | (focus (dsimp only; assumption)) | (focus (simp; done)) | (focus (dsimp only; omega)))) | (with_reducible refine belt_alloc ?_) | ((with_reducible refine zeroed_below' ?_ ?_); (first | (focus (simp; done)) | (focus (dsimp only; omega)))) | (with_reducible refine bt ?_ (by assumption))))))) | (go_at_call 75; (with_reducible refine (gp.out _ b2).mono ?_); rintro e w3 ⟨rfl, h3'⟩; (have kb3 := blk_below h3' kb); (have nk3 := kn kb3); (have b3 := bt b2 h3'); clear h3' kb nk b2))
        go_ret2
        exact RetS.err _ b3
      · rw [if_neg hp]
        have t9 : decide ((0 : Int) ≤ pl) = false := decide_eq_false hp
        have hun : undef = Value.tuple #[] := rfl
        by_cases hq : l.length = 1000 ∨ 1099511627776 < od + 1
        · rw [if_pos hq]
          by_cases h10 : l.length = 1000
          · have t10 : decide ((1000 : Int) ≤ (l.length : Int)) = true := decide_eq_true (by omega)
            have t12 : decide (1000 ≤ l.length) = true := decide_eq_true (by omega)
            clear h10 hq
            go_enter Tryd.func30, Tryd.ntmps30
            go_wp2_with fail
            refine wp_region_tail 4 (by kernel_rfl) (by kernel_rfl) ?_
            intro W0 hE hN
            have k0 : blk W0 w.heap.size = some #[.int .i64 b.no, .int .u64 b.sq, .int .i64 b.of, .int .i64 b.de, .int .i64 b.pr, .int .i64 b.bo, .int .i64 b.li, .int .i64 b.to, .string b.da] := (by rw [hE.out]; (apply blk_to; (focus (repeat (first | (with_reducible assumption) | (with_reducible apply blk_drew) | (with_reducible apply blk_set) | ((with_reducible apply blk_other'); (first | (focus (dsimp only; assumption)) | (focus (simp; done)) | (focus (dsimp only; omega)))) | ((with_reducible apply blk_alloc_new); (first | (with_reducible rfl) | (focus (simp; done)) | (focus (simp; omega)))) | (with_reducible apply blk_alloc) | ((with_reducible apply blk_below); (with_reducible assumption))))); rfl))
            have n0 := calm_kn k0
            have bW : Below w.heap.size w W0 := (by rw [hE.out]; (repeat (first | (with_reducible assumption) | (with_reducible exact Below.refl _ _) | (with_reducible refine beld_drew ?_) | ((with_reducible refine bset' ?_ ?_); (first | (focus (dsimp only; assumption)) | (focus (simp; done)) | (focus (dsimp only; omega)))) | (with_reducible refine belt_alloc ?_) | ((with_reducible refine zeroed_below' ?_ ?_); (first | (focus (simp; done)) | (focus (dsimp only; omega)))) | (with_reducible refine bt ?_ (by assumption)))))
            clear hE
            have g1c : ∀ X : Class (Calm W0), _ := fun X => g1.out X.wd (bW.trans (X.ok.mono bW.size))
            have G1 := Lib.hid g1c
            clear g1c
            simp only [List.take_succ_cons, List.take_zero, List.drop_succ_cons, List.drop_zero]
            repeat (go_big_quiet_step ((first | (go_at_call 74; (with_reducible refine Class.go _ (G1.out _))) | (go_at_call 54; (with_reducible refine Class.go _ (g0.out _))))))
            refine wpQuiet_nil ?_
            rintro _ ⟨x', rfl⟩
            have k1 := blk_below x'.ok k0
            have b1 := bt bW x'.ok
            obtain ⟨u, hu⟩ : ∃ u, u = x'.wd := ⟨_, rfl⟩
            rw [← hu] at k1 b1 ⊢
            clear hu x' hN n0 k0 bW G1
            have n1 := kn k1
            go_wp2_with (first | (go_at_call 73; (with_reducible refine (or2_any _ _ _ _ (blk_alloc_new _ _ _ rfl)).mono ?_); rintro e w2 ⟨rfl, rfl⟩; rw [if_neg (fun h => h rfl)]; (have kb : blk (u.alloc (.cells #[.int .i64 0, .int .i64 0] 30)) w.heap.size = some #[.int .i64 b.no, .int .u64 b.sq, .int .i64 b.of, .int .i64 b.de, .int .i64 b.pr, .int .i64 b.bo, .int .i64 b.li, .int .i64 b.to, .string b.da] := (by (apply blk_to; (focus (repeat (first | (with_reducible assumption) | (with_reducible apply blk_drew) | (with_reducible apply blk_set) | ((with_reducible apply blk_other'); (first | (focus (dsimp only; assumption)) | (focus (simp; done)) | (focus (dsimp only; omega)))) | ((with_reducible apply blk_alloc_new); (first | (with_reducible rfl) | (focus (simp; done)) | (focus (simp; omega)))) | (with_reducible apply blk_alloc) | ((with_reducible apply blk_below); (with_reducible assumption))))); rfl))); (have nk := kn kb); (have cy0 := ((by (repeat (first | (with_reducible assumption) | (with_reducible exact Below.refl _ _) | (with_reducible refine beld_drew ?_) | ((with_reducible refine bset' ?_ ?_); (first | (focus (dsimp only; assumption)) | (focus (simp; done)) | (focus (dsimp only; omega)))) | (with_reducible refine belt_alloc ?_) | ((with_reducible refine zeroed_below' ?_ ?_); (first | (focus (simp; done)) | (focus (dsimp only; omega)))) | (with_reducible refine bt ?_ (by assumption)))) : Below w.heap.size w (u.alloc (.cells #[.int .i64 0, .int .i64 0] 30))).cell (p := ⟨bb, o + k * 13 + 12, none⟩) hbl).trans gy); (have b2 : Below w.heap.size w (u.alloc (.cells #[.int .i64 0, .int .i64 0] 30)) := (by (repeat (first | (with_reducible assumption) | (with_reducible exact Below.refl _ _) | (with_reducible refine beld_drew ?_) | ((with_reducible refine bset' ?_ ?_); (first | (focus (dsimp only; assumption)) | (focus (simp; done)) | (focus (dsimp only; omega)))) | (with_reducible refine belt_alloc ?_) | ((with_reducible refine zeroed_below' ?_ ?_); (first | (focus (simp; done)) | (focus (dsimp only; omega)))) | (with_reducible refine bt ?_ (by assumption))))))) | (go_at_call 75; (with_reducible refine (gp.out _ b2).mono ?_); rintro e w3 ⟨rfl, h3'⟩; (have kb3 := blk_below h3' kb); (have nk3 := kn kb3); (have b3 := bt b2 h3'); clear h3' kb nk b2))
            go_ret2
            exact RetS.err _ b3
          · have t10 : decide ((1000 : Int) ≤ (l.length : Int)) = false := decide_eq_false (by omega)
            have t12 : decide (1000 ≤ l.length) = false := decide_eq_false (by omega)
            have t11 : decide ((1099511627776 : Int) < od + 1) = true := decide_eq_true (by omega)
            clear h10 hq
            go_enter Tryd.func30, Tryd.ntmps30
            go_wp2_with fail
            refine wp_region_tail 4 (by kernel_rfl) (by kernel_rfl) ?_
            intro W0 hE hN
            have k0 : blk W0 w.heap.size = some #[.int .i64 b.no, .int .u64 b.sq, .int .i64 b.of, .int .i64 b.de, .int .i64 b.pr, .int .i64 b.bo, .int .i64 b.li, .int .i64 b.to, .string b.da] := (by rw [hE.out]; (apply blk_to; (focus (repeat (first | (with_reducible assumption) | (with_reducible apply blk_drew) | (with_reducible apply blk_set) | ((with_reducible apply blk_other'); (first | (focus (dsimp only; assumption)) | (focus (simp; done)) | (focus (dsimp only; omega)))) | ((with_reducible apply blk_alloc_new); (first | (with_reducible rfl) | (focus (simp; done)) | (focus (simp; omega)))) | (with_reducible apply blk_alloc) | ((with_reducible apply blk_below); (with_reducible assumption))))); rfl))
            have n0 := calm_kn k0
            have bW : Below w.heap.size w W0 := (by rw [hE.out]; (repeat (first | (with_reducible assumption) | (with_reducible exact Below.refl _ _) | (with_reducible refine beld_drew ?_) | ((with_reducible refine bset' ?_ ?_); (first | (focus (dsimp only; assumption)) | (focus (simp; done)) | (focus (dsimp only; omega)))) | (with_reducible refine belt_alloc ?_) | ((with_reducible refine zeroed_below' ?_ ?_); (first | (focus (simp; done)) | (focus (dsimp only; omega)))) | (with_reducible refine bt ?_ (by assumption)))))
            clear hE
            have g1c : ∀ X : Class (Calm W0), _ := fun X => g1.out X.wd (bW.trans (X.ok.mono bW.size))
            have G1 := Lib.hid g1c
            clear g1c
            simp only [List.take_succ_cons, List.take_zero, List.drop_succ_cons, List.drop_zero]
            repeat (go_big_quiet_step ((first | (go_at_call 74; (with_reducible refine Class.go _ (G1.out _))) | (go_at_call 54; (with_reducible refine Class.go _ (g0.out _))))))
            refine wpQuiet_nil ?_
            rintro _ ⟨x', rfl⟩
            have k1 := blk_below x'.ok k0
            have b1 := bt bW x'.ok
            obtain ⟨u, hu⟩ : ∃ u, u = x'.wd := ⟨_, rfl⟩
            rw [← hu] at k1 b1 ⊢
            clear hu x' hN n0 k0 bW G1
            have n1 := kn k1
            go_wp2_with (first | (go_at_call 73; (with_reducible refine (or2_any _ _ _ _ (blk_alloc_new _ _ _ rfl)).mono ?_); rintro e w2 ⟨rfl, rfl⟩; rw [if_neg (fun h => h rfl)]; (have kb : blk (u.alloc (.cells #[.int .i64 0, .int .i64 0] 30)) w.heap.size = some #[.int .i64 b.no, .int .u64 b.sq, .int .i64 b.of, .int .i64 b.de, .int .i64 b.pr, .int .i64 b.bo, .int .i64 b.li, .int .i64 b.to, .string b.da] := (by (apply blk_to; (focus (repeat (first | (with_reducible assumption) | (with_reducible apply blk_drew) | (with_reducible apply blk_set) | ((with_reducible apply blk_other'); (first | (focus (dsimp only; assumption)) | (focus (simp; done)) | (focus (dsimp only; omega)))) | ((with_reducible apply blk_alloc_new); (first | (with_reducible rfl) | (focus (simp; done)) | (focus (simp; omega)))) | (with_reducible apply blk_alloc) | ((with_reducible apply blk_below); (with_reducible assumption))))); rfl))); (have nk := kn kb); (have cy0 := ((by (repeat (first | (with_reducible assumption) | (with_reducible exact Below.refl _ _) | (with_reducible refine beld_drew ?_) | ((with_reducible refine bset' ?_ ?_); (first | (focus (dsimp only; assumption)) | (focus (simp; done)) | (focus (dsimp only; omega)))) | (with_reducible refine belt_alloc ?_) | ((with_reducible refine zeroed_below' ?_ ?_); (first | (focus (simp; done)) | (focus (dsimp only; omega)))) | (with_reducible refine bt ?_ (by assumption)))) : Below w.heap.size w (u.alloc (.cells #[.int .i64 0, .int .i64 0] 30))).cell (p := ⟨bb, o + k * 13 + 12, none⟩) hbl).trans gy); (have b2 : Below w.heap.size w (u.alloc (.cells #[.int .i64 0, .int .i64 0] 30)) := (by (repeat (first | (with_reducible assumption) | (with_reducible exact Below.refl _ _) | (with_reducible refine beld_drew ?_) | ((with_reducible refine bset' ?_ ?_); (first | (focus (dsimp only; assumption)) | (focus (simp; done)) | (focus (dsimp only; omega)))) | (with_reducible refine belt_alloc ?_) | ((with_reducible refine zeroed_below' ?_ ?_); (first | (focus (simp; done)) | (focus (dsimp only; omega)))) | (with_reducible refine bt ?_ (by assumption))))))) | (go_at_call 75; (with_reducible refine (gp.out _ b2).mono ?_); rintro e w3 ⟨rfl, h3'⟩; (have kb3 := blk_below h3' kb); (have nk3 := kn kb3); (have b3 := bt b2 h3'); clear h3' kb nk b2))
            go_ret2
            exact RetS.err _ b3
        · rw [if_neg hq]
          have t10 : decide ((1000 : Int) ≤ (l.length : Int)) = false := decide_eq_false (by omega)
          have t12 : decide (1000 ≤ l.length) = false := decide_eq_false (by omega)
          have t11 : decide ((1099511627776 : Int) < od + 1) = false := decide_eq_false (by omega)
          go_enter Tryd.func30, Tryd.ntmps30
          go_wp2_with fail
          refine wp_region_tail 4 (by kernel_rfl) (by kernel_rfl) ?_
          intro W0 hE hN
          have k0 : blk W0 w.heap.size = some #[.int .i64 b.no, .int .u64 b.sq, .int .i64 b.of, .int .i64 b.de, .int .i64 b.pr, .int .i64 b.bo, .int .i64 b.li, .int .i64 b.to, .string b.da] := (by rw [hE.out]; (apply blk_to; (focus (repeat (first | (with_reducible assumption) | (with_reducible apply blk_drew) | (with_reducible apply blk_set) | ((with_reducible apply blk_other'); (first | (focus (dsimp only; assumption)) | (focus (simp; done)) | (focus (dsimp only; omega)))) | ((with_reducible apply blk_alloc_new); (first | (with_reducible rfl) | (focus (simp; done)) | (focus (simp; omega)))) | (with_reducible apply blk_alloc) | ((with_reducible apply blk_below); (with_reducible assumption))))); rfl))
          have n0 := calm_kn k0
          have bW : Below w.heap.size w W0 := (by rw [hE.out]; (repeat (first | (with_reducible assumption) | (with_reducible exact Below.refl _ _) | (with_reducible refine beld_drew ?_) | ((with_reducible refine bset' ?_ ?_); (first | (focus (dsimp only; assumption)) | (focus (simp; done)) | (focus (dsimp only; omega)))) | (with_reducible refine belt_alloc ?_) | ((with_reducible refine zeroed_below' ?_ ?_); (first | (focus (simp; done)) | (focus (dsimp only; omega)))) | (with_reducible refine bt ?_ (by assumption)))))
          clear hE
          have g1c : ∀ X : Class (Calm W0), _ := fun X => g1.out X.wd (bW.trans (X.ok.mono bW.size))
          have G1 := Lib.hid g1c
          clear g1c
          simp only [List.take_succ_cons, List.take_zero, List.drop_succ_cons, List.drop_zero]
          repeat (go_big_quiet_step ((first | (go_at_call 74; (with_reducible refine Class.go _ (G1.out _))) | (go_at_call 54; (with_reducible refine Class.go _ (g0.out _))))))
          refine wpQuiet_nil ?_
          rintro _ ⟨x', rfl⟩
          have k1 := blk_below x'.ok k0
          have b1 := bt bW x'.ok
          obtain ⟨u, hu⟩ : ∃ u, u = x'.wd := ⟨_, rfl⟩
          rw [← hu] at k1 b1 ⊢
          clear hu x' hN n0 k0 bW G1
          have n1 := kn k1
          go_wp2_with (first | (go_at_call 73; (with_reducible refine (or2_any _ _ _ _ (blk_alloc_new _ _ _ rfl)).mono ?_); rintro e w2 ⟨rfl, rfl⟩; rw [if_neg (fun h => h rfl)]; (have kb : blk (u.alloc (.cells #[.int .i64 0, .int .i64 0] 30)) w.heap.size = some #[.int .i64 b.no, .int .u64 b.sq, .int .i64 b.of, .int .i64 b.de, .int .i64 b.pr, .int .i64 b.bo, .int .i64 b.li, .int .i64 b.to, .string b.da] := (by (apply blk_to; (focus (repeat (first | (with_reducible assumption) | (with_reducible apply blk_drew) | (with_reducible apply blk_set) | ((with_reducible apply blk_other'); (first | (focus (dsimp only; assumption)) | (focus (simp; done)) | (focus (dsimp only; omega)))) | ((with_reducible apply blk_alloc_new); (first | (with_reducible rfl) | (focus (simp; done)) | (focus (simp; omega)))) | (with_reducible apply blk_alloc) | ((with_reducible apply blk_below); (with_reducible assumption))))); rfl))); (have nk := kn kb); (have cy0 := ((by (repeat (first | (with_reducible assumption) | (with_reducible exact Below.refl _ _) | (with_reducible refine beld_drew ?_) | ((with_reducible refine bset' ?_ ?_); (first | (focus (dsimp only; assumption)) | (focus (simp; done)) | (focus (dsimp only; omega)))) | (with_reducible refine belt_alloc ?_) | ((with_reducible refine zeroed_below' ?_ ?_); (first | (focus (simp; done)) | (focus (dsimp only; omega)))) | (with_reducible refine bt ?_ (by assumption)))) : Below w.heap.size w (u.alloc (.cells #[.int .i64 0, .int .i64 0] 30))).cell (p := ⟨bb, o + k * 13 + 12, none⟩) hbl).trans gy); (have b2 : Below w.heap.size w (u.alloc (.cells #[.int .i64 0, .int .i64 0] 30)) := (by (repeat (first | (with_reducible assumption) | (with_reducible exact Below.refl _ _) | (with_reducible refine beld_drew ?_) | ((with_reducible refine bset' ?_ ?_); (first | (focus (dsimp only; assumption)) | (focus (simp; done)) | (focus (dsimp only; omega)))) | (with_reducible refine belt_alloc ?_) | ((with_reducible refine zeroed_below' ?_ ?_); (first | (focus (simp; done)) | (focus (dsimp only; omega)))) | (with_reducible refine bt ?_ (by assumption))))))) | (go_at_call 75; (with_reducible refine (gp.out _ b2).mono ?_); rintro e w3 ⟨rfl, h3'⟩; (have kb3 := blk_below h3' kb); (have nk3 := kn kb3); (have b3 := bt b2 h3'); clear h3' kb nk b2))
          refine wp_region_held_drew (S := (fun W => ∀ o, W.cell? ⟨w.heap.size, o, none⟩ = (#[.int .i64 b.no, .int .u64 b.sq, .int .i64 b.of, .int .i64 b.de, .int .i64 b.pr, .int .i64 b.bo, .int .i64 b.li, .int .i64 b.to, .string b.da] : Array Value)[o]?)) (by kernel_rfl) (fun o => blk_cell (blk_drew kb3) o) (fun hHeld => ?_)
          have b4 : Below w.heap.size w w3.drew := b3.drew
          have kb4 : blk w3.drew w.heap.size = some #[.int .i64 b.no, .int .u64 b.sq, .int .i64 b.of, .int .i64 b.de, .int .i64 b.pr, .int .i64 b.bo, .int .i64 b.li, .int .i64 b.to, .string b.da] := blk_drew kb3
          obtain ⟨d0, hd0⟩ : ∃ d, d = w3.drew := ⟨_, rfl⟩
          rw [← hd0] at b4 kb4 hHeld ⊢
          clear hd0 b3 kb3 nk3
          refine wpAnyH_take (i := 0) (oi := _) (v := ?_) rfl (by kernel_rfl) (by kernel_rfl) (by kernel_rfl) (fun _ _ _ h => h) (Or.inl ⟨by rfl, ?_⟩) (by assumption) ?_
          rotate_left
          focus (intro W hSw; (try dsimp only at hSw); go_simp; (try with_reducible rfl))
          (try simp only [Act.put, List.setIfInBounds_toArray, List.set_cons_zero, List.set_cons_succ, List.getElem_toArray, List.getElem_cons_succ, List.getElem_cons_zero])
          refine wpAnyH_take (i := 2) (oi := _) (v := ?_) rfl (by kernel_rfl) (by kernel_rfl) (by kernel_rfl) (fun _ _ _ h => h) (Or.inl ⟨by rfl, ?_⟩) (by assumption) ?_
          rotate_left
          focus (intro W hSw; (try dsimp only at hSw); go_simp; (try with_reducible rfl))
          (try simp only [Act.put, List.setIfInBounds_toArray, List.set_cons_zero, List.set_cons_succ, List.getElem_toArray, List.getElem_cons_succ, List.getElem_cons_zero])
          refine wpAnyH_take (i := 3) (oi := _) (v := ?_) rfl (by kernel_rfl) (by kernel_rfl) (by kernel_rfl) (fun _ _ _ h => h) (Or.inl ⟨by rfl, ?_⟩) (by assumption) ?_
          rotate_left
          focus (intro W hSw; (try dsimp only at hSw); go_simp; (try with_reducible rfl))
          (try simp only [Act.put, List.setIfInBounds_toArray, List.set_cons_zero, List.set_cons_succ, List.getElem_toArray, List.getElem_cons_succ, List.getElem_cons_zero])
          refine wpAnyH_take (i := 4) (oi := _) (v := ?_) rfl (by kernel_rfl) (by kernel_rfl) (by kernel_rfl) (fun _ _ _ h => h) (Or.inl ⟨by rfl, ?_⟩) (by assumption) ?_
          rotate_left
          focus (intro W hSw; (try dsimp only at hSw); go_simp; (try with_reducible rfl))
          (try simp only [Act.put, List.setIfInBounds_toArray, List.set_cons_zero, List.set_cons_succ, List.getElem_toArray, List.getElem_cons_succ, List.getElem_cons_zero])
          refine wpAnyH_ready (rs := [1, 5]) (by kernel_rfl) (by simp) ?_
          refine AllReadyH.cons rfl (fun K hK => ?_) ?_
          · skip
            go_simp
            go_at_call 76
            (with_reducible refine (g2.out _ b4).mono ?_)
            rintro e v1 ⟨rv1, rfl, hov1, hBv1⟩
            (try go_wp2_with fail)
            have kv1 := blk_below hBv1 kb4
            have bv1 := bt b4 hBv1
            have ov1 := Lib.hid (owns_base hov1 (show w.heap.size + 1 ≤ _ from blk_lt kb4))
            refine hK.out _ _ (fun o => blk_cell kv1 o) (fun hHeld2 => ?_)
            clear hK K
            (try simp only [Act.put, List.setIfInBounds_toArray, List.set_cons_zero, List.set_cons_succ, List.getElem_toArray, List.getElem_cons_succ, List.getElem_cons_zero])
            refine wpAnyH_ready (rs := [5]) (by kernel_rfl) (by simp) ?_
            refine AllReadyH.cons rfl (fun K hK => ?_) AllReadyH.nil
            go_simp
            refine hK.out _ _ (fun o => blk_cell (blk_alloc kv1 _) o) (fun hHeld3 => ?_)
            clear hK K
            (try simp only [Act.put, List.setIfInBounds_toArray, List.set_cons_zero, List.set_cons_succ, List.getElem_toArray, List.getElem_cons_succ, List.getElem_cons_zero])
            obtain ⟨v2, ev2⟩ : ∃ x, x = v1.alloc (.cells #[.int .i64 b.no, .int .u64 b.sq, .int .i64 b.of, .int .i64 b.de, .int .i64 b.pr, .int .i64 b.bo, .int .i64 b.li, .int .i64 b.to, .string b.da, .int .i64 1, .int .i64 0, .int .u64 0, .int .i64 (od + 1)] 67) := ⟨_, rfl⟩
            obtain ⟨nv2, env2⟩ : ∃ x, x = v1.heap.size := ⟨_, rfl⟩
            have kv2 : blk v2 w.heap.size = some #[.int .i64 b.no, .int .u64 b.sq, .int .i64 b.of, .int .i64 b.de, .int .i64 b.pr, .int .i64 b.bo, .int .i64 b.li, .int .i64 b.to, .string b.da] := (by rw [ev2]; exact blk_alloc kv1 _)
            have bv2 : Below w.heap.size w v2 := (by rw [ev2]; exact bv1.alloc bv1.size _)
            have zv2 : blk v2 nv2 = some #[.int .i64 b.no, .int .u64 b.sq, .int .i64 b.of, .int .i64 b.de, .int .i64 b.pr, .int .i64 b.bo, .int .i64 b.li, .int .i64 b.to, .string b.da, .int .i64 1, .int .i64 0, .int .u64 0, .int .i64 (od + 1)] := (by rw [ev2]; exact blk_alloc_new _ _ _ env2)
            have lzv2 := bv1.size
            have oo := Lib.hid (by rw [ev2]; have := ov1.out.alloc (.cells #[.int .i64 b.no, .int .u64 b.sq, .int .i64 b.of, .int .i64 b.de, .int .i64 b.pr, .int .i64 b.bo, .int .i64 b.li, .int .i64 b.to, .string b.da, .int .i64 1, .int .i64 0, .int .u64 0, .int .i64 (od + 1)] 67); exact this : World.ownsRow v2 (w.heap.size + 1) 67 13 rv1 l.length (rowC itm l))
            have zz := zv2
            rw [← ev2, ← env2]
            clear ev2 env2
            refine wpAnyH_ready (rs := [6]) (by kernel_rfl) (by simp) ?_
            refine AllReadyH.cons rfl (fun K hK => ?_) AllReadyH.nil
            refine wp_append_own _ (.tmp 44) (.tmp 48) 39 rfl (w.heap.size + 1) 67 i0 (.agg #[.int .i64 0, .int .u64 0, .int .i64 0, .int .i64 0, .int .i64 0, .int .i64 0, .int .i64 0, .int .i64 0, .string ⟨#[]⟩, .int .i64 0, .int .i64 0, .int .u64 0, .int .i64 0]) 13 112 Tryd.underlying39 Hi.out Hz0.out Hz1.out Hz2.out rfl (by decide) _ l.length (rowC itm l) rfl oo.out ⟨nv2, 0, none⟩ 1 1 (itm ⟨b, 1, 0, 0, (od + 1)⟩) rfl rfl (fun j u hj => (by rw [Addr.add_mid, Nat.zero_add, blk_cell zz]; simpa [itm, bn] using hj)) (itm_one _) (by unfold maxLen; omega) (by omega) (show w.heap.size + 1 ≤ _ from blk_lt kv2) ?_
            intro v' w5 hown5 hgr5 _
            have b5 : Below w.heap.size w w5 := bv2.grown hgr5 bv2.size (fun k e => Nat.le_of_succ_le (oo.out.lt k e).1)
            have O5 := Lib.hid hown5
            have k5 : ∀ o, w5.cell? ⟨w.heap.size, o, none⟩ = (#[.int .i64 b.no, .int .u64 b.sq, .int .i64 b.of, .int .i64 b.de, .int .i64 b.pr, .int .i64 b.bo, .int .i64 b.li, .int .i64 b.to, .string b.da] : Array Value)[o]? := k5of hgr5 oo kv2
            refine hK.out _ _ k5 (fun hHeld5 => ?_)
            clear hK K hown5 hgr5
            (try simp only [Act.put, List.setIfInBounds_toArray, List.set_cons_zero, List.set_cons_succ, List.getElem_toArray, List.getElem_cons_succ, List.getElem_cons_zero])
            refine wpAnyH_take (i := 7) (oi := _) (v := ?_) rfl (by kernel_rfl) (by kernel_rfl) (by kernel_rfl) (fun _ _ _ h => h) (Or.inl ⟨by rfl, ?_⟩) (by assumption) ?_
            rotate_left
            focus (intro W hSw; (try dsimp only at hSw); go_simp; (try with_reducible rfl))
            (try simp only [Act.put, List.setIfInBounds_toArray, List.set_cons_zero, List.set_cons_succ, List.getElem_toArray, List.getElem_cons_succ, List.getElem_cons_zero])
            refine wpAnyH_take (i := 8) (oi := _) (v := ?_) rfl (by kernel_rfl) (by kernel_rfl) (by kernel_rfl) (fun _ _ _ h => h) (Or.inl ⟨by rfl, ?_⟩) (by assumption) ?_
            rotate_left
            focus (intro W hSw; (try dsimp only at hSw); go_simp; (try with_reducible rfl))
            (try simp only [Act.put, List.setIfInBounds_toArray, List.set_cons_zero, List.set_cons_succ, List.getElem_toArray, List.getElem_cons_succ, List.getElem_cons_zero])
            refine wpAnyH_done (by kernel_rfl) ?_ _
            go_wp2
            go_ret2
            refine ⟨_, rfl, ?_, b5⟩
            have o5 := owns_base O5.out (Nat.le_succ _)
            rw [← rowC_one (enc := itm), ← rowC_append] at o5
            rw [List.length_append]
            exact o5
          refine AllReadyH.cons rfl (fun K hK => ?_) AllReadyH.nil
          go_simp
          refine hK.out _ _ (fun o => blk_cell (blk_alloc kb4 _) o) (fun hHeld3 => ?_)
          clear hK K
          (try simp only [Act.put, List.setIfInBounds_toArray, List.set_cons_zero, List.set_cons_succ, List.getElem_toArray, List.getElem_cons_succ, List.getElem_cons_zero])
          obtain ⟨v3, ev3⟩ : ∃ x, x = d0.alloc (.cells #[.int .i64 b.no, .int .u64 b.sq, .int .i64 b.of, .int .i64 b.de, .int .i64 b.pr, .int .i64 b.bo, .int .i64 b.li, .int .i64 b.to, .string b.da, .int .i64 1, .int .i64 0, .int .u64 0, .int .i64 (od + 1)] 67) := ⟨_, rfl⟩
          obtain ⟨nv3, env3⟩ : ∃ x, x = d0.heap.size := ⟨_, rfl⟩
          have kv3 : blk v3 w.heap.size = some #[.int .i64 b.no, .int .u64 b.sq, .int .i64 b.of, .int .i64 b.de, .int .i64 b.pr, .int .i64 b.bo, .int .i64 b.li, .int .i64 b.to, .string b.da] := (by rw [ev3]; exact blk_alloc kb4 _)
          have bv3 : Below w.heap.size w v3 := (by rw [ev3]; exact b4.alloc b4.size _)
          have zv3 : blk v3 nv3 = some #[.int .i64 b.no, .int .u64 b.sq, .int .i64 b.of, .int .i64 b.de, .int .i64 b.pr, .int .i64 b.bo, .int .i64 b.li, .int .i64 b.to, .string b.da, .int .i64 1, .int .i64 0, .int .u64 0, .int .i64 (od + 1)] := (by rw [ev3]; exact blk_alloc_new _ _ _ env3)
          have lzv3 := b4.size
          rw [← ev3, ← env3]
          clear ev3 env3
          refine wpAnyH_ready (rs := [1]) (by kernel_rfl) (by simp) ?_
          refine AllReadyH.cons rfl (fun K hK => ?_) AllReadyH.nil
          go_simp
          go_at_call 76
          (with_reducible refine (g2.out _ bv3).mono ?_)
          rintro e v4 ⟨rv4, rfl, hov4, hBv4⟩
          (try go_wp2_with fail)
          have kv4 := blk_below hBv4 kv3
          have bv4 := bt bv3 hBv4
          have ov4 := Lib.hid (owns_base hov4 (show w.heap.size + 1 ≤ _ from blk_lt kv3))
          refine hK.out _ _ (fun o => blk_cell kv4 o) (fun hHeld2 => ?_)
          clear hK K
          (try simp only [Act.put, List.setIfInBounds_toArray, List.set_cons_zero, List.set_cons_succ, List.getElem_toArray, List.getElem_cons_succ, List.getElem_cons_zero])
          have oo := Lib.hid (by have := ov4.out; exact this : World.ownsRow v4 (w.heap.size + 1) 67 13 rv4 l.length (rowC itm l))
          have zz := blk_below hBv4 zv3
          refine wpAnyH_ready (rs := [6]) (by kernel_rfl) (by simp) ?_
          refine AllReadyH.cons rfl (fun K hK => ?_) AllReadyH.nil
          refine wp_append_own _ (.tmp 44) (.tmp 48) 39 rfl (w.heap.size + 1) 67 i0 (.agg #[.int .i64 0, .int .u64 0, .int .i64 0, .int .i64 0, .int .i64 0, .int .i64 0, .int .i64 0, .int .i64 0, .string ⟨#[]⟩, .int .i64 0, .int .i64 0, .int .u64 0, .int .i64 0]) 13 112 Tryd.underlying39 Hi.out Hz0.out Hz1.out Hz2.out rfl (by decide) _ l.length (rowC itm l) rfl oo.out ⟨nv3, 0, none⟩ 1 1 (itm ⟨b, 1, 0, 0, (od + 1)⟩) rfl rfl (fun j u hj => (by rw [Addr.add_mid, Nat.zero_add, blk_cell zz]; simpa [itm, bn] using hj)) (itm_one _) (by unfold maxLen; omega) (by omega) (show w.heap.size + 1 ≤ _ from blk_lt kv4) ?_
          intro v' w5 hown5 hgr5 _
          have b5 : Below w.heap.size w w5 := bv4.grown hgr5 bv4.size (fun k e => Nat.le_of_succ_le (oo.out.lt k e).1)
          have O5 := Lib.hid hown5
          have k5 : ∀ o, w5.cell? ⟨w.heap.size, o, none⟩ = (#[.int .i64 b.no, .int .u64 b.sq, .int .i64 b.of, .int .i64 b.de, .int .i64 b.pr, .int .i64 b.bo, .int .i64 b.li, .int .i64 b.to, .string b.da] : Array Value)[o]? := k5of hgr5 oo kv4
          refine hK.out _ _ k5 (fun hHeld5 => ?_)
          clear hK K hown5 hgr5
          (try simp only [Act.put, List.setIfInBounds_toArray, List.set_cons_zero, List.set_cons_succ, List.getElem_toArray, List.getElem_cons_succ, List.getElem_cons_zero])
          refine wpAnyH_take (i := 7) (oi := _) (v := ?_) rfl (by kernel_rfl) (by kernel_rfl) (by kernel_rfl) (fun _ _ _ h => h) (Or.inl ⟨by rfl, ?_⟩) (by assumption) ?_
          rotate_left
          focus (intro W hSw; (try dsimp only at hSw); go_simp; (try with_reducible rfl))
          (try simp only [Act.put, List.setIfInBounds_toArray, List.set_cons_zero, List.set_cons_succ, List.getElem_toArray, List.getElem_cons_succ, List.getElem_cons_zero])
          refine wpAnyH_take (i := 8) (oi := _) (v := ?_) rfl (by kernel_rfl) (by kernel_rfl) (by kernel_rfl) (fun _ _ _ h => h) (Or.inl ⟨by rfl, ?_⟩) (by assumption) ?_
          rotate_left
          focus (intro W hSw; (try dsimp only at hSw); go_simp; (try with_reducible rfl))
          (try simp only [Act.put, List.setIfInBounds_toArray, List.set_cons_zero, List.set_cons_succ, List.getElem_toArray, List.getElem_cons_succ, List.getElem_cons_zero])
          refine wpAnyH_done (by kernel_rfl) ?_ _
          go_wp2
          go_ret2
          refine ⟨_, rfl, ?_, b5⟩
          have o5 := owns_base O5.out (Nat.le_succ _)
          rw [← rowC_one (enc := itm), ← rowC_append] at o5
          rw [List.length_append]
          exact o5
  · have hr : (if (chkS l).1 ≠ 0 then ([], (chkS l).1) else if bcode b ≠ 0 then ([], bcode b) else if 0 ≤ placeS l (bid b) then ([], 9) else if l.length = 1000 ∨ 1099511627776 < ordS l then ([], 5) else (l ++ [⟨b, 1, 0, 0, ordS l⟩], 0) : List Itm × Int) = ([], ec) := by
      rw [← hec] at hc ⊢
      by_cases h : (chkS l).1 = 0
      · simp only [h, ne_eq, not_true_eq_false, if_false] at hc ⊢
        rw [if_pos hc]
      · rw [if_pos h, if_pos h]
    rw [hr]
    clear hr
    obtain ⟨c, hcc⟩ : ∃ c, (chkS l).1 = c := ⟨_, rfl⟩
    obtain ⟨d, hdd⟩ : ∃ c, bcode b = c := ⟨_, rfl⟩
    rw [hcc] at g1 hec
    rw [hdd] at g0 hec
    have q0 : (ec != 0) = true := by simpa using hc
    have HEC := Lib.hid hec
    replace g1 := Lib.hid g1; replace g0 := Lib.hid g0
    clear hcc hdd hc hd hrow hec
    go_enter Tryd.func30, Tryd.ntmps30
    go_wp2_with fail
    refine wp_region_tail 4 (by kernel_rfl) (by kernel_rfl) ?_
    intro W0 hE hN
    have k0 : blk W0 w.heap.size = some #[.int .i64 b.no, .int .u64 b.sq, .int .i64 b.of, .int .i64 b.de, .int .i64 b.pr, .int .i64 b.bo, .int .i64 b.li, .int .i64 b.to, .string b.da] := (by rw [hE.out]; (apply blk_to; (focus (repeat (first | (with_reducible assumption) | (with_reducible apply blk_drew) | (with_reducible apply blk_set) | ((with_reducible apply blk_other'); (first | (focus (dsimp only; assumption)) | (focus (simp; done)) | (focus (dsimp only; omega)))) | ((with_reducible apply blk_alloc_new); (first | (with_reducible rfl) | (focus (simp; done)) | (focus (simp; omega)))) | (with_reducible apply blk_alloc) | ((with_reducible apply blk_below); (with_reducible assumption))))); rfl))
    have n0 := calm_kn k0
    have bW : Below w.heap.size w W0 := (by rw [hE.out]; (repeat (first | (with_reducible assumption) | (with_reducible exact Below.refl _ _) | (with_reducible refine beld_drew ?_) | ((with_reducible refine bset' ?_ ?_); (first | (focus (dsimp only; assumption)) | (focus (simp; done)) | (focus (dsimp only; omega)))) | (with_reducible refine belt_alloc ?_) | ((with_reducible refine zeroed_below' ?_ ?_); (first | (focus (simp; done)) | (focus (dsimp only; omega)))) | (with_reducible refine bt ?_ (by assumption)))))
    clear hE
    have g1c : ∀ X : Class (Calm W0), _ := fun X => g1.out X.wd (bW.trans (X.ok.mono bW.size))
    have G1 := Lib.hid g1c
    clear g1c
    simp only [List.take_succ_cons, List.take_zero, List.drop_succ_cons, List.drop_zero]
    repeat (go_big_quiet_step ((first | (go_at_call 74; (with_reducible refine Class.go _ (G1.out _))) | (go_at_call 54; (with_reducible refine Class.go _ (g0.out _))))))
    refine wpQuiet_nil ?_
    rintro _ ⟨x', rfl⟩
    have k1 := blk_below x'.ok k0
    have b1 := bt bW x'.ok
    obtain ⟨u, hu⟩ : ∃ u, u = x'.wd := ⟨_, rfl⟩
    rw [← hu] at k1 b1 ⊢
    clear hu x' hN n0 k0 bW G1
    have n1 := kn k1
    go_wp2_with (go_at_call 73; (with_reducible refine (or2_any _ _ _ _ (blk_alloc_new _ _ _ rfl)).mono ?_); rintro e w2 ⟨rfl, rfl⟩; rw [HEC.out])
    go_ret2
    exact RetS.err _ (by (repeat (first | (with_reducible assumption) | (with_reducible exact Below.refl _ _) | (with_reducible refine beld_drew ?_) | ((with_reducible refine bset' ?_ ?_); (first | (focus (dsimp only; assumption)) | (focus (simp; done)) | (focus (dsimp only; omega)))) | (with_reducible refine belt_alloc ?_) | ((with_reducible refine zeroed_below' ?_ ?_); (first | (focus (simp; done)) | (focus (dsimp only; omega)))) | (with_reducible refine bt ?_ (by assumption)))))
end Go.Proofs.YtahopnlibmiafaaDoor
