/- Parts of a proof, printed by a program of mine out of my texts: EgRNew, EgRNe2, EgLight. -/
import Derived.Test.YtkaehoihpgelnaaDoorML
import Derived.Test.YtkaehoihpgelnaaDoorMQ
import Derived.Test.YtkaehoihpgelnaaDoorMR
import Derived.Test.YtkaehoihpgelnaaDoorMT
import Derived.Test.YtkaehoihpgelnaaDoorMW
import Derived.Test.YtkaehoihpgelnaaDoorMX9
set_option linter.unusedSimpArgs false
set_option linter.unusedVariables false
namespace Go.Proofs.YtkaehoihpgelnaaDoor
open Go.RowKit
set_option maxRecDepth 100000 in
set_option maxHeartbeats 1600000 in
theorem rdnew_bad (a : Option Addr) (cap : Nat) (w0 w1 x q : Int) (w : World) (hrow : SRow ic 1 w a cap [w0, w1, x]) (hb : newD [w0, w1, x] q ≠ 0) :
    Calls Tryd.prog 44 #[.slice a 3 cap, .int .i64 q] w fun e w' => RetD [w0, w1, x] q w e w' := by
  have G := Lib.hid (fun W (hB : Below w.heap.size w W) => (show Calls Tryd.prog 68 #[.slice a 3 cap, .int .i64 q] W fun e w' => e = .returned (.int .i64 (newD [w0, w1, x] q)) ∧ W = w' from rweighed_any a cap [w0, w1, x] q W (hrow.below hB)))
  have HR := Lib.hid (show ∀ W', Below w.heap.size w W' → RetD [w0, w1, x] q w (.returned (.tuple #[.agg #[.slice none 0 0, .int .i64 0, .slice none 0 0, .int .i64 0], .int .i64 (newD [w0, w1, x] q)])) W' from fun W' hB => ⟨hB, .inl ⟨hb, rfl⟩⟩)
  obtain ⟨c, hc⟩ : ∃ c, newD [w0, w1, x] q = c := ⟨_, rfl⟩
  rw [hc] at G HR hb
  have t1 : (c != 0) = true := by simpa using hb
  clear hc hb hrow
  go_enter Tryd.func44, Tryd.ntmps44
  have k0 : blk (w.alloc (.cells #[.slice none 0 0, .int .i64 0, .slice none 0 0, .int .i64 0] 26)) w.heap.size = some #[.slice none 0 0, .int .i64 0, .slice none 0 0, .int .i64 0] := blk_alloc_new _ _ _ rfl
  have n0 := kn k0
  go_wp2_with (go_at_call 68; (with_reducible refine (G.out _ (by (repeat (first | (with_reducible assumption) | (with_reducible exact Below.refl _ _) | (with_reducible refine beld_drew ?_) | ((with_reducible refine bset' ?_ ?_); (first | (focus (dsimp only; assumption)) | (focus (simp; done)) | (focus (dsimp only; omega)))) | (with_reducible refine belt_alloc ?_) | ((with_reducible refine zeroed_below' ?_ ?_); (first | (focus (simp; done)) | (focus (dsimp only; omega)))) | (with_reducible refine bt ?_ (by assumption)))))).mono ?_); rintro e w2 ⟨rfl, rfl⟩)
  have z0 : blk (w.alloc (.cells #[.slice none 0 0, .int .i64 0, .slice none 0 0, .int .i64 0] 26)) w.heap.size = some #[.slice none 0 0, .int .i64 0, .slice none 0 0, .int .i64 0] := blk_alloc_new _ _ _ rfl
  have b0 : Below w.heap.size w (w.alloc (.cells #[.slice none 0 0, .int .i64 0, .slice none 0 0, .int .i64 0] 26)) := (Below.refl _ _).alloc (Nat.le_refl _) _
  refine ret_blk (b := w.heap.size) (c := #[.slice none 0 0, .int .i64 0, .slice none 0 0, .int .i64 0]) (v := .tuple #[.agg #[.slice none 0 0, .int .i64 0, .slice none 0 0, .int .i64 0], .int .i64 c]) z0 (fun W' hc => by simp [results, Tryd.results44, go_sem, hc]) rfl (HR.out _ ?_)
  exact b0
set_option maxRecDepth 100000 in
set_option maxHeartbeats 3200000 in
theorem rdnew_ok (a : Option Addr) (cap : Nat) (w0 w1 x q : Int) (w : World) (hrow : SRow ic 1 w a cap [w0, w1, x]) (hn : newD [w0, w1, x] q = 0) :
    Calls Tryd.prog 44 #[.slice a 3 cap, .int .i64 q] w fun e w' => RetD [w0, w1, x] q w e w' := by
  have hz : weiS [w0, w1, x] q = 0 := hn
  obtain ⟨hw, q1, q2⟩ := weiS_zero hz
  have hx := hw x (by simp)
  have GW := Lib.hid (fun W (hB : Below w.heap.size w W) => (show Calls Tryd.prog 68 #[.slice a 3 cap, .int .i64 q] W fun e w' => e = .returned (.int .i64 0) ∧ W = w' from by
    have h9 := rweighed_any a cap [w0, w1, x] q W (hrow.below hB)
    rw [hz] at h9
    exact h9))
  obtain ⟨i0, hi, hz0, hz1, hz2⟩ := info_parts infoI64
  have Hi := Lib.hid hi; have Hz0 := Lib.hid hz0; have Hz1 := Lib.hid hz1; have Hz2 := Lib.hid hz2
  obtain ⟨bh, oh, rfl, lh, rh⟩ := hrow.2.2.2 (by simp)
  have CC := Lib.hid (fun (j : Nat) (u : Value) (hj : (rowC ic [w0, w1, x])[j]? = some u) => row_cellsE hrow hj)
  have c2 : w.cell? ⟨bh, oh + 2, none⟩ = some (.int .i64 x) := (srow_cellE hrow (j := 2) (by simp)).2
  have hcap := hrow.1
  have hM : -(9223372036854775808 : Int) ≤ x * q ∧ x * q ≤ 9223372036854775807 := by
    have h1 : 0 ≤ x * q := Int.mul_nonneg (by omega) (by omega)
    have h2 : x * q ≤ 100 * 1200 := Int.mul_le_mul (by omega) (by omega) (by omega) (by omega)
    omega
  have v9 : IntKind.i64.wrap (x * q) = x * q := IntWalk.i64_in _ (by omega)
  have HN := Lib.hid hn
  clear hrow rh hn hz hw hM hi hz0 hz1 hz2
  have t1 : ((0 : Int) != 0) = false := rfl
  go_enter Tryd.func44, Tryd.ntmps44
  go_upto_region 6 with (go_at_call 68; (with_reducible refine (GW.out _ (by (repeat (first | (with_reducible assumption) | (with_reducible exact Below.refl _ _) | (with_reducible refine beld_drew ?_) | ((with_reducible refine bset' ?_ ?_); (first | (focus (dsimp only; assumption)) | (focus (simp; done)) | (focus (dsimp only; omega)))) | (with_reducible refine belt_alloc ?_) | ((with_reducible refine zeroed_below' ?_ ?_); (first | (focus (simp; done)) | (focus (dsimp only; omega)))) | (with_reducible refine bt ?_ (by assumption)))))).mono ?_); rintro e w2 ⟨rfl, rfl⟩)
  refine wp_region_held_drew (S := fun W => W.cell? ⟨bh, oh + 2, none⟩ = some (.int .i64 x)) (by kernel_rfl) (((((Below.refl _ _).alloc (Nat.le_refl _) _).drew).cell (p := ⟨bh, oh + 2, none⟩) lh).trans c2) (fun hHeld => ?_)
  obtain ⟨d0, ed⟩ : ∃ v, v = (w.alloc (.cells #[.slice none 0 0, .int .i64 0, .slice none 0 0, .int .i64 0] 26)).drew := ⟨_, rfl⟩
  have bd0 : Below w.heap.size w d0 := (by rw [ed]; exact ((Below.refl _ _).alloc (Nat.le_refl _) _).drew)
  have zd0 : blk d0 w.heap.size = some #[.slice none 0 0, .int .i64 0, .slice none 0 0, .int .i64 0] := (by rw [ed]; exact blk_drew (blk_alloc_new _ _ _ rfl))
  rw [← ed] at hHeld ⊢
  clear ed
  refine wpAnyH_take (i := 1) (oi := _) (v := ?_) rfl (by kernel_rfl) (by kernel_rfl) (by kernel_rfl) (fun _ _ _ h => h) (Or.inl ⟨by rfl, ?_⟩) (by assumption) ?_
  rotate_left
  focus (intro W hSw; (try dsimp only at hSw); go_simp; (try with_reducible rfl))
  (try simp only [Act.put, List.setIfInBounds_toArray, List.set_cons_zero, List.set_cons_succ, List.getElem_toArray, List.getElem_cons_succ, List.getElem_cons_zero])
  refine wpAnyH_take (i := 3) (oi := _) (v := ?_) rfl (by kernel_rfl) (by kernel_rfl) (by kernel_rfl) (fun _ _ _ h => h) (Or.inl ⟨by rfl, ?_⟩) (by assumption) ?_
  rotate_left
  focus (intro W hSw; (try dsimp only at hSw); go_simp; (try with_reducible rfl))
  (try simp only [Act.put, List.setIfInBounds_toArray, List.set_cons_zero, List.set_cons_succ, List.getElem_toArray, List.getElem_cons_succ, List.getElem_cons_zero])
  refine wpAnyH_take (i := 4) (oi := _) (v := ?_) rfl (by kernel_rfl) (by kernel_rfl) (by kernel_rfl) (fun _ _ _ h => h) (Or.inl ⟨by rfl, ?_⟩) (by assumption) ?_
  rotate_left
  focus (intro W hSw; (try dsimp only at hSw); go_simp; (try with_reducible rfl))
  (try simp only [Act.put, List.setIfInBounds_toArray, List.set_cons_zero, List.set_cons_succ, List.getElem_toArray, List.getElem_cons_succ, List.getElem_cons_zero])
  refine wpAnyH_take (i := 5) (oi := _) (v := ?_) rfl (by kernel_rfl) (by kernel_rfl) (by kernel_rfl) (fun _ _ _ h => h) (Or.inl ⟨by rfl, ?_⟩) (by assumption) ?_
  rotate_left
  focus (intro W hSw; (try dsimp only at hSw); go_simp; (try with_reducible rfl))
  (try simp only [Act.put, List.setIfInBounds_toArray, List.set_cons_zero, List.set_cons_succ, List.getElem_toArray, List.getElem_cons_succ, List.getElem_cons_zero])
  refine wpAnyH_take (i := 6) (oi := _) (v := ?_) rfl (by kernel_rfl) (by kernel_rfl) (by kernel_rfl) (fun _ _ _ h => h) (Or.inl ⟨by rfl, ?_⟩) (by assumption) ?_
  rotate_left
  focus (intro W hSw; (try dsimp only at hSw); go_simp; (try with_reducible rfl))
  (try simp only [Act.put, List.setIfInBounds_toArray, List.set_cons_zero, List.set_cons_succ, List.getElem_toArray, List.getElem_cons_succ, List.getElem_cons_zero])
  refine wpAnyH_take (i := 7) (oi := _) (v := ?_) rfl (by kernel_rfl) (by kernel_rfl) (by kernel_rfl) (fun _ _ _ h => h) (Or.inl ⟨by rfl, ?_⟩) (by assumption) ?_
  rotate_left
  focus (intro W hSw; (try dsimp only at hSw); go_simp; (try with_reducible rfl))
  (try simp only [Act.put, List.setIfInBounds_toArray, List.set_cons_zero, List.set_cons_succ, List.getElem_toArray, List.getElem_cons_succ, List.getElem_cons_zero])
  refine wpAnyH_take (i := 8) (oi := _) (v := ?_) rfl (by kernel_rfl) (by kernel_rfl) (by kernel_rfl) (fun _ _ _ h => h) (Or.inl ⟨by rfl, ?_⟩) (by assumption) ?_
  rotate_left
  focus (intro W hSw; (try dsimp only at hSw); go_simp; (try with_reducible rfl))
  (try simp only [Act.put, List.setIfInBounds_toArray, List.set_cons_zero, List.set_cons_succ, List.getElem_toArray, List.getElem_cons_succ, List.getElem_cons_zero])
  refine wpAnyH_ready (rs := [0, 9]) (by kernel_rfl) (by simp) ?_
  refine AllReadyH.cons rfl (fun K hK => ?_) ?_
  · skip
    go_simp
    obtain ⟨E, eE⟩ : ∃ v, v = d0.alloc (.cells #[] 3) := ⟨_, rfl⟩
    obtain ⟨s, es⟩ : ∃ v, v = d0.heap.size := ⟨_, rfl⟩
    have dE : Below d0.heap.size d0 E := (by rw [eE]; exact (Below.refl _ _).alloc (Nat.le_refl _) _)
    have bE := bt bd0 dE
    have zE := blk_below dE zd0
    have oE := Lib.hid (show E.ownsRow s 3 1 (.slice (some ⟨s, 0, none⟩) 0 0) 0 [] from by rw [eE, es]; exact own_emptyE _ _)
    have ls : w.heap.size < s := (by have := blk_lt zd0; omega)
    rw [← eE, ← es]
    clear eE es dE
    refine hK.out _ _ ((bE.cell (p := ⟨bh, oh + 2, none⟩) lh).trans c2) (fun _ => ?_)
    clear hK K
    (try simp only [Act.put, List.setIfInBounds_toArray, List.set_cons_zero, List.set_cons_succ, List.getElem_toArray, List.getElem_cons_succ, List.getElem_cons_zero])
    refine wpAnyH_ready (rs := [2, 9]) (by kernel_rfl) (by simp) ?_
    refine AllReadyH.cons rfl (fun K hK => ?_) ?_
    · skip
      refine wp_append_fresh (.tmp 18) (.tmp 19) 22 rfl s 3 i0 (.int .i64 0) 1 8 Tryd.underlying22 Hi.out Hz0.out Hz1.out Hz2.out rfl (by decide) (.slice (some ⟨s, 0, none⟩) 0 0) 0 [] rfl oE.out ⟨bh, oh, none⟩ 3 cap (rowC ic [w0, w1, x]) rfl rfl (fun jj u hj => (by rw [Addr.add_mid]; exact (bE.cell (p := ⟨bh, oh + jj, none⟩) lh).trans (CC.out jj u hj))) (ic_onesE _) (by decide) (by unfold maxLen; omega) (by omega) (by have := (oE.out.lt s rfl).2; omega) ?_
      intro v' A ho hg hf
      have ho2 : A.ownsRow s 3 1 v' [w0, w1, x].length (rowC ic [w0, w1, x]) := ho
      obtain ⟨a1, c1, rfl, R1, _⟩ := srow_of_owns ic_len ho2
      have A0 : upR (w.heap.size + 1) a1 := fun b off e => by subst e; have := (ho2.lt b rfl).1; omega
      have A1 := A0.ne (Nat.lt_succ_self _)
      have bA : Below w.heap.size w A := bE.grown hg bE.size (fun k e => by have h9 : s = k := Option.some.inj e; omega)
      have zA : blk A w.heap.size = some #[.slice none 0 0, .int .i64 0, .slice none 0 0, .int .i64 0] := (blk_kept (hg.block _ (blk_lt zE) (fun e => by have h9 : s = w.heap.size := Option.some.inj e.symm; omega))).trans zE
      clear ho ho2 hg hf
      refine hK.out _ _ ((bA.cell (p := ⟨bh, oh + 2, none⟩) lh).trans c2) (fun _ => ?_)
      clear hK K
      (try simp only [Act.put, List.setIfInBounds_toArray, List.set_cons_zero, List.set_cons_succ, List.getElem_toArray, List.getElem_cons_succ, List.getElem_cons_zero])
      refine wpAnyH_ready (rs := [9]) (by kernel_rfl) (by simp) ?_
      refine AllReadyH.cons rfl (fun K hK => ?_) AllReadyH.nil
      go_simp
      obtain ⟨V, eV⟩ : ∃ v, v = A.alloc (.cells #[.int .i64 0, .int .i64 0, .int .i64 (x * q)] 3) := ⟨_, rfl⟩
      obtain ⟨g, eg⟩ : ∃ v, v = A.heap.size := ⟨_, rfl⟩
      have dV : Below A.heap.size A V := (by rw [eV]; exact (Below.refl _ _).alloc (Nat.le_refl _) _)
      have bV := bt bA dV
      have zV := blk_below dV zA
      have kV : blk V g = some #[.int .i64 0, .int .i64 0, .int .i64 (x * q)] := (by rw [eV]; exact blk_alloc_new _ _ _ eg)
      have lg : w.heap.size ≤ g := (by have := blk_lt zA; omega)
      have ng : g ≠ w.heap.size := (by have := blk_lt zA; omega)
      have R1V := R1.below dV
      clear R1
      have R1 := R1V
      clear R1V
      rw [← eV, ← eg]
      clear eV eg dV
      refine hK.out _ _ ((bV.cell (p := ⟨bh, oh + 2, none⟩) lh).trans c2) (fun _ => ?_)
      clear hK K
      (try simp only [Act.put, List.setIfInBounds_toArray, List.set_cons_zero, List.set_cons_succ, List.getElem_toArray, List.getElem_cons_succ, List.getElem_cons_zero])
      refine wpAnyH_take (i := 10) (oi := _) (v := ?_) rfl (by kernel_rfl) (by kernel_rfl) (by kernel_rfl) (fun _ _ _ h => h) (Or.inl ⟨by rfl, ?_⟩) (by assumption) ?_
      rotate_left
      focus (intro W hSw; (try dsimp only at hSw); go_simp; (try with_reducible rfl))
      (try simp only [Act.put, List.setIfInBounds_toArray, List.set_cons_zero, List.set_cons_succ, List.getElem_toArray, List.getElem_cons_succ, List.getElem_cons_zero])
      refine wpAnyH_ready (rs := [11]) (by kernel_rfl) (by simp) ?_
      refine AllReadyH.cons rfl (fun K hK => ?_) AllReadyH.nil
      have R9 := Lib.hid R1
      clear R1
      have nz := kn zV
      go_simp
      refine hK.out _ _ (((((bV.setCell (Nat.le_refl _) _).setCell (Nat.le_refl _) _).setCell (Nat.le_refl _) _).setCell (Nat.le_refl _) _).cell (p := ⟨bh, oh + 2, none⟩) lh |>.trans c2) (fun _ => ?_)
      clear hK K
      (try simp only [Act.put, List.setIfInBounds_toArray, List.set_cons_zero, List.set_cons_succ, List.getElem_toArray, List.getElem_cons_succ, List.getElem_cons_zero])
      refine wpAnyH_take (i := 12) (oi := _) (v := ?_) rfl (by kernel_rfl) (by kernel_rfl) (by kernel_rfl) (fun _ _ _ h => h) (Or.inl ⟨by rfl, ?_⟩) (by assumption) ?_
      rotate_left
      focus (intro W hSw; (try dsimp only at hSw); go_simp; (try with_reducible rfl))
      (try simp only [Act.put, List.setIfInBounds_toArray, List.set_cons_zero, List.set_cons_succ, List.getElem_toArray, List.getElem_cons_succ, List.getElem_cons_zero])
      refine wpAnyH_done (by kernel_rfl) ?_ _
      go_wp2
      refine ret_blk (b := w.heap.size) (c := #[.slice a1 3 c1, .int .i64 q, .slice (some ⟨g, 0, none⟩) 3 3, .int .i64 2]) (v := .tuple #[.agg #[.slice a1 3 c1, .int .i64 q, .slice (some ⟨g, 0, none⟩) 3 3, .int .i64 2], .int .i64 0]) (by have h9 := blk_set (i := 3) (v := .int .i64 2) (blk_set (i := 2) (v := .slice (some ⟨g, 0, none⟩) 3 3) (blk_set (i := 1) (v := .int .i64 q) (blk_set (i := 0) (v := .slice a1 3 c1) zV))); exact h9) (fun W' hc => by simp [results, Tryd.results44, go_sem, hc]) rfl ?_
      refine ⟨(((bV.setCell (Nat.le_refl _) _).setCell (Nat.le_refl _) _).setCell (Nat.le_refl _) _).setCell (Nat.le_refl _) _, .inr ⟨HN.out, a1, c1, _, 3, rfl, ?_, ?_, A0.mono (Nat.le_succ _), upR_at lg⟩⟩
      · exact (((R9.out.setOtherE A1 _ _).setOtherE A1 _ _).setOtherE A1 _ _).setOtherE A1 _ _
      · exact srow3 (blk_other (blk_other (blk_other (blk_other kV ng) ng) ng) ng)
    refine AllReadyH.cons rfl (fun K hK => ?_) AllReadyH.nil
    go_simp
    obtain ⟨V, eV⟩ : ∃ v, v = E.alloc (.cells #[.int .i64 0, .int .i64 0, .int .i64 (x * q)] 3) := ⟨_, rfl⟩
    obtain ⟨g, eg⟩ : ∃ v, v = E.heap.size := ⟨_, rfl⟩
    have dV : Below E.heap.size E V := (by rw [eV]; exact (Below.refl _ _).alloc (Nat.le_refl _) _)
    have bV := bt bE dV
    have zV := blk_below dV zE
    have kV : blk V g = some #[.int .i64 0, .int .i64 0, .int .i64 (x * q)] := (by rw [eV]; exact blk_alloc_new _ _ _ eg)
    have lg : w.heap.size ≤ g := (by have := blk_lt zE; omega)
    have ng : g ≠ w.heap.size := (by have := blk_lt zE; omega)
    have sg : s < g := (by have := (oE.out.lt s rfl).2; omega)
    have oV := Lib.hid (owns_belowS oE.out dV)
    rw [← eV, ← eg]
    clear eV eg dV
    refine hK.out _ _ ((bV.cell (p := ⟨bh, oh + 2, none⟩) lh).trans c2) (fun _ => ?_)
    clear hK K
    (try simp only [Act.put, List.setIfInBounds_toArray, List.set_cons_zero, List.set_cons_succ, List.getElem_toArray, List.getElem_cons_succ, List.getElem_cons_zero])
    refine wpAnyH_ready (rs := [2]) (by kernel_rfl) (by simp) ?_
    refine AllReadyH.cons rfl (fun K hK => ?_) AllReadyH.nil
    refine wp_append_fresh (.tmp 18) (.tmp 19) 22 rfl s 3 i0 (.int .i64 0) 1 8 Tryd.underlying22 Hi.out Hz0.out Hz1.out Hz2.out rfl (by decide) (.slice (some ⟨s, 0, none⟩) 0 0) 0 [] rfl oV.out ⟨bh, oh, none⟩ 3 cap (rowC ic [w0, w1, x]) rfl rfl (fun jj u hj => (by rw [Addr.add_mid]; exact (bV.cell (p := ⟨bh, oh + jj, none⟩) lh).trans (CC.out jj u hj))) (ic_onesE _) (by decide) (by unfold maxLen; omega) (by omega) (by have := (oV.out.lt s rfl).2; omega) ?_
    intro v' A ho hg hf
    have ho2 : A.ownsRow s 3 1 v' [w0, w1, x].length (rowC ic [w0, w1, x]) := ho
    obtain ⟨a1, c1, rfl, R1, _⟩ := srow_of_owns ic_len ho2
    have A0 : upR (w.heap.size + 1) a1 := fun b off e => by subst e; have := (ho2.lt b rfl).1; omega
    have A1 := A0.ne (Nat.lt_succ_self _)
    have bA : Below w.heap.size w A := bV.grown hg bV.size (fun k e => by have h9 : s = k := Option.some.inj e; omega)
    have zA : blk A w.heap.size = some #[.slice none 0 0, .int .i64 0, .slice none 0 0, .int .i64 0] := (blk_kept (hg.block _ (blk_lt zV) (fun e => by have h9 : s = w.heap.size := Option.some.inj e.symm; omega))).trans zV
    have kA : blk A g = some #[.int .i64 0, .int .i64 0, .int .i64 (x * q)] := (blk_kept (hg.block _ (blk_lt kV) (fun e => by have h9 : s = g := Option.some.inj e.symm; omega))).trans kV
    clear ho ho2 hg hf
    refine hK.out _ _ ((bA.cell (p := ⟨bh, oh + 2, none⟩) lh).trans c2) (fun _ => ?_)
    clear hK K
    (try simp only [Act.put, List.setIfInBounds_toArray, List.set_cons_zero, List.set_cons_succ, List.getElem_toArray, List.getElem_cons_succ, List.getElem_cons_zero])
    refine wpAnyH_take (i := 10) (oi := _) (v := ?_) rfl (by kernel_rfl) (by kernel_rfl) (by kernel_rfl) (fun _ _ _ h => h) (Or.inl ⟨by rfl, ?_⟩) (by assumption) ?_
    rotate_left
    focus (intro W hSw; (try dsimp only at hSw); go_simp; (try with_reducible rfl))
    (try simp only [Act.put, List.setIfInBounds_toArray, List.set_cons_zero, List.set_cons_succ, List.getElem_toArray, List.getElem_cons_succ, List.getElem_cons_zero])
    refine wpAnyH_ready (rs := [11]) (by kernel_rfl) (by simp) ?_
    refine AllReadyH.cons rfl (fun K hK => ?_) AllReadyH.nil
    have R9 := Lib.hid R1
    clear R1
    have nz := kn zA
    go_simp
    refine hK.out _ _ (((((bA.setCell (Nat.le_refl _) _).setCell (Nat.le_refl _) _).setCell (Nat.le_refl _) _).setCell (Nat.le_refl _) _).cell (p := ⟨bh, oh + 2, none⟩) lh |>.trans c2) (fun _ => ?_)
    clear hK K
    (try simp only [Act.put, List.setIfInBounds_toArray, List.set_cons_zero, List.set_cons_succ, List.getElem_toArray, List.getElem_cons_succ, List.getElem_cons_zero])
    refine wpAnyH_take (i := 12) (oi := _) (v := ?_) rfl (by kernel_rfl) (by kernel_rfl) (by kernel_rfl) (fun _ _ _ h => h) (Or.inl ⟨by rfl, ?_⟩) (by assumption) ?_
    rotate_left
    focus (intro W hSw; (try dsimp only at hSw); go_simp; (try with_reducible rfl))
    (try simp only [Act.put, List.setIfInBounds_toArray, List.set_cons_zero, List.set_cons_succ, List.getElem_toArray, List.getElem_cons_succ, List.getElem_cons_zero])
    refine wpAnyH_done (by kernel_rfl) ?_ _
    go_wp2
    refine ret_blk (b := w.heap.size) (c := #[.slice a1 3 c1, .int .i64 q, .slice (some ⟨g, 0, none⟩) 3 3, .int .i64 2]) (v := .tuple #[.agg #[.slice a1 3 c1, .int .i64 q, .slice (some ⟨g, 0, none⟩) 3 3, .int .i64 2], .int .i64 0]) (by have h9 := blk_set (i := 3) (v := .int .i64 2) (blk_set (i := 2) (v := .slice (some ⟨g, 0, none⟩) 3 3) (blk_set (i := 1) (v := .int .i64 q) (blk_set (i := 0) (v := .slice a1 3 c1) zA))); exact h9) (fun W' hc => by simp [results, Tryd.results44, go_sem, hc]) rfl ?_
    refine ⟨(((bA.setCell (Nat.le_refl _) _).setCell (Nat.le_refl _) _).setCell (Nat.le_refl _) _).setCell (Nat.le_refl _) _, .inr ⟨HN.out, a1, c1, _, 3, rfl, ?_, ?_, A0.mono (Nat.le_succ _), upR_at lg⟩⟩
    · exact (((R9.out.setOtherE A1 _ _).setOtherE A1 _ _).setOtherE A1 _ _).setOtherE A1 _ _
    · exact srow3 (blk_other (blk_other (blk_other (blk_other kA ng) ng) ng) ng)
  refine AllReadyH.cons rfl (fun K hK => ?_) AllReadyH.nil
  go_simp
  obtain ⟨V, eV⟩ : ∃ v, v = d0.alloc (.cells #[.int .i64 0, .int .i64 0, .int .i64 (x * q)] 3) := ⟨_, rfl⟩
  obtain ⟨g, eg⟩ : ∃ v, v = d0.heap.size := ⟨_, rfl⟩
  have dV : Below d0.heap.size d0 V := (by rw [eV]; exact (Below.refl _ _).alloc (Nat.le_refl _) _)
  have bV := bt bd0 dV
  have zV := blk_below dV zd0
  have kV : blk V g = some #[.int .i64 0, .int .i64 0, .int .i64 (x * q)] := (by rw [eV]; exact blk_alloc_new _ _ _ eg)
  have lg : w.heap.size ≤ g := (by have := blk_lt zd0; omega)
  have ng : g ≠ w.heap.size := (by have := blk_lt zd0; omega)
  rw [← eV, ← eg]
  clear eV eg dV
  refine hK.out _ _ ((bV.cell (p := ⟨bh, oh + 2, none⟩) lh).trans c2) (fun _ => ?_)
  clear hK K
  (try simp only [Act.put, List.setIfInBounds_toArray, List.set_cons_zero, List.set_cons_succ, List.getElem_toArray, List.getElem_cons_succ, List.getElem_cons_zero])
  refine wpAnyH_ready (rs := [0]) (by kernel_rfl) (by simp) ?_
  refine AllReadyH.cons rfl (fun K hK => ?_) AllReadyH.nil
  go_simp
  obtain ⟨E, eE⟩ : ∃ v, v = V.alloc (.cells #[] 3) := ⟨_, rfl⟩
  obtain ⟨s, es⟩ : ∃ v, v = V.heap.size := ⟨_, rfl⟩
  have dE : Below V.heap.size V E := (by rw [eE]; exact (Below.refl _ _).alloc (Nat.le_refl _) _)
  have bE := bt bV dE
  have zE := blk_below dE zV
  have oE := Lib.hid (show E.ownsRow s 3 1 (.slice (some ⟨s, 0, none⟩) 0 0) 0 [] from by rw [eE, es]; exact own_emptyE _ _)
  have ls : w.heap.size < s := (by have := blk_lt zV; omega)
  have kE := blk_below dE kV
  have gs : g < s := (by have := blk_lt kV; omega)
  rw [← eE, ← es]
  clear eE es dE
  refine hK.out _ _ ((bE.cell (p := ⟨bh, oh + 2, none⟩) lh).trans c2) (fun _ => ?_)
  clear hK K
  (try simp only [Act.put, List.setIfInBounds_toArray, List.set_cons_zero, List.set_cons_succ, List.getElem_toArray, List.getElem_cons_succ, List.getElem_cons_zero])
  refine wpAnyH_ready (rs := [2]) (by kernel_rfl) (by simp) ?_
  refine AllReadyH.cons rfl (fun K hK => ?_) AllReadyH.nil
  refine wp_append_fresh (.tmp 18) (.tmp 19) 22 rfl s 3 i0 (.int .i64 0) 1 8 Tryd.underlying22 Hi.out Hz0.out Hz1.out Hz2.out rfl (by decide) (.slice (some ⟨s, 0, none⟩) 0 0) 0 [] rfl oE.out ⟨bh, oh, none⟩ 3 cap (rowC ic [w0, w1, x]) rfl rfl (fun jj u hj => (by rw [Addr.add_mid]; exact (bE.cell (p := ⟨bh, oh + jj, none⟩) lh).trans (CC.out jj u hj))) (ic_onesE _) (by decide) (by unfold maxLen; omega) (by omega) (by have := (oE.out.lt s rfl).2; omega) ?_
  intro v' A ho hg hf
  have ho2 : A.ownsRow s 3 1 v' [w0, w1, x].length (rowC ic [w0, w1, x]) := ho
  obtain ⟨a1, c1, rfl, R1, _⟩ := srow_of_owns ic_len ho2
  have A0 : upR (w.heap.size + 1) a1 := fun b off e => by subst e; have := (ho2.lt b rfl).1; omega
  have A1 := A0.ne (Nat.lt_succ_self _)
  have bA : Below w.heap.size w A := bE.grown hg bE.size (fun k e => by have h9 : s = k := Option.some.inj e; omega)
  have zA : blk A w.heap.size = some #[.slice none 0 0, .int .i64 0, .slice none 0 0, .int .i64 0] := (blk_kept (hg.block _ (blk_lt zE) (fun e => by have h9 : s = w.heap.size := Option.some.inj e.symm; omega))).trans zE
  have kA : blk A g = some #[.int .i64 0, .int .i64 0, .int .i64 (x * q)] := (blk_kept (hg.block _ (blk_lt kE) (fun e => by have h9 : s = g := Option.some.inj e.symm; omega))).trans kE
  clear ho ho2 hg hf
  refine hK.out _ _ ((bA.cell (p := ⟨bh, oh + 2, none⟩) lh).trans c2) (fun _ => ?_)
  clear hK K
  (try simp only [Act.put, List.setIfInBounds_toArray, List.set_cons_zero, List.set_cons_succ, List.getElem_toArray, List.getElem_cons_succ, List.getElem_cons_zero])
  refine wpAnyH_take (i := 10) (oi := _) (v := ?_) rfl (by kernel_rfl) (by kernel_rfl) (by kernel_rfl) (fun _ _ _ h => h) (Or.inl ⟨by rfl, ?_⟩) (by assumption) ?_
  rotate_left
  focus (intro W hSw; (try dsimp only at hSw); go_simp; (try with_reducible rfl))
  (try simp only [Act.put, List.setIfInBounds_toArray, List.set_cons_zero, List.set_cons_succ, List.getElem_toArray, List.getElem_cons_succ, List.getElem_cons_zero])
  refine wpAnyH_ready (rs := [11]) (by kernel_rfl) (by simp) ?_
  refine AllReadyH.cons rfl (fun K hK => ?_) AllReadyH.nil
  have R9 := Lib.hid R1
  clear R1
  have nz := kn zA
  go_simp
  refine hK.out _ _ (((((bA.setCell (Nat.le_refl _) _).setCell (Nat.le_refl _) _).setCell (Nat.le_refl _) _).setCell (Nat.le_refl _) _).cell (p := ⟨bh, oh + 2, none⟩) lh |>.trans c2) (fun _ => ?_)
  clear hK K
  (try simp only [Act.put, List.setIfInBounds_toArray, List.set_cons_zero, List.set_cons_succ, List.getElem_toArray, List.getElem_cons_succ, List.getElem_cons_zero])
  refine wpAnyH_take (i := 12) (oi := _) (v := ?_) rfl (by kernel_rfl) (by kernel_rfl) (by kernel_rfl) (fun _ _ _ h => h) (Or.inl ⟨by rfl, ?_⟩) (by assumption) ?_
  rotate_left
  focus (intro W hSw; (try dsimp only at hSw); go_simp; (try with_reducible rfl))
  (try simp only [Act.put, List.setIfInBounds_toArray, List.set_cons_zero, List.set_cons_succ, List.getElem_toArray, List.getElem_cons_succ, List.getElem_cons_zero])
  refine wpAnyH_done (by kernel_rfl) ?_ _
  go_wp2
  refine ret_blk (b := w.heap.size) (c := #[.slice a1 3 c1, .int .i64 q, .slice (some ⟨g, 0, none⟩) 3 3, .int .i64 2]) (v := .tuple #[.agg #[.slice a1 3 c1, .int .i64 q, .slice (some ⟨g, 0, none⟩) 3 3, .int .i64 2], .int .i64 0]) (by have h9 := blk_set (i := 3) (v := .int .i64 2) (blk_set (i := 2) (v := .slice (some ⟨g, 0, none⟩) 3 3) (blk_set (i := 1) (v := .int .i64 q) (blk_set (i := 0) (v := .slice a1 3 c1) zA))); exact h9) (fun W' hc => by simp [results, Tryd.results44, go_sem, hc]) rfl ?_
  refine ⟨(((bA.setCell (Nat.le_refl _) _).setCell (Nat.le_refl _) _).setCell (Nat.le_refl _) _).setCell (Nat.le_refl _) _, .inr ⟨HN.out, a1, c1, _, 3, rfl, ?_, ?_, A0.mono (Nat.le_succ _), upR_at lg⟩⟩
  · exact (((R9.out.setOtherE A1 _ _).setOtherE A1 _ _).setOtherE A1 _ _).setOtherE A1 _ _
  · exact srow3 (blk_other (blk_other (blk_other (blk_other kA ng) ng) ng) ng)
end Go.Proofs.YtkaehoihpgelnaaDoor
namespace Go.Proofs.YtkaehoihpgelnaaDoor
open Go.RowKit
set_option maxRecDepth 100000 in
set_option maxHeartbeats 1600000 in
theorem rxnew_any (x0 x1 x2 : Int) (w : World) :
    Calls Tryd.prog 20 #[.agg #[.int .i64 x0, .int .i64 x1, .int .i64 x2]] w fun e w' => RetN x0 x1 x2 w e w' := by
  obtain ⟨w1, hw1⟩ : ∃ v, v = ((w.alloc (.cells #[.int .i64 x0, .int .i64 x1, .int .i64 x2] 45)).alloc (.cells #[.slice none 0 0, .int .i64 0, .slice none 0 0, .int .i64 0, .slice none 0 0] 28)).alloc (.cells #[.int .i64 x0, .int .i64 x1, .int .i64 x2] 3) := ⟨_, rfl⟩
  have r0 : SRow ic 1 w1 (some ⟨w.heap.size + 2, 0, none⟩) 3 [x0, x1, x2] := srow3 (by rw [hw1]; exact blk_alloc_new _ _ _ (by simp))
  have sz : w1.heap.size = w.heap.size + 3 := by rw [hw1]; simp
  by_cases hn : newD [x0, x1, x2] 1200 = 0
  · have g : Calls Tryd.prog 44 #[.slice (some ⟨w.heap.size + 2, 0, none⟩) 3 3, .int .i64 1200] w1 fun e w' => ∃ a1 c1 a2 c2, e = .returned (.tuple #[.agg #[.slice a1 3 c1, .int .i64 1200, .slice a2 3 c2, .int .i64 2], .int .i64 0]) ∧ Below w1.heap.size w1 w' ∧ SRow ic 1 w' a1 c1 [x0, x1, x2] ∧ SRow ic 1 w' a2 c2 [0, 0, x2 * 1200] ∧ upR (w.heap.size + 3) a1 ∧ upR (w.heap.size + 3) a2 := by
      refine (rdnew_ok _ 3 x0 x1 x2 1200 w1 r0 hn).mono ?_
      rintro e w' ⟨h1, ⟨h2, _⟩ | ⟨_, a1, c1, a2, c2, h2, h3, h4, h5, h6⟩⟩
      · exact absurd hn h2
      · rw [sz] at h5 h6
        exact ⟨a1, c1, a2, c2, h2, h1, h3, h4, h5, h6⟩
    have G := Lib.hid g
    clear g
    rw [hw1] at G
    have HN := Lib.hid hn
    clear hn r0 hw1 sz w1
    have t1 : ((0 : Int) != 0) = false := rfl
    go_enter Tryd.func20, Tryd.ntmps20
    go_upto_region 4 with (go_at_call 44; (with_reducible refine (G.out).mono ?_); rintro e w2 ⟨a1, c1, a2, c2, rfl, h2, R1, R2, A01, A02⟩; (have b2 : Below w.heap.size w w2 := by (repeat (first | (with_reducible assumption) | (with_reducible exact Below.refl _ _) | (with_reducible refine beld_drew ?_) | ((with_reducible refine bset' ?_ ?_); (first | (focus (dsimp only; assumption)) | (focus (simp; done)) | (focus (dsimp only; omega)))) | (with_reducible refine belt_alloc ?_) | ((with_reducible refine zeroed_below' ?_ ?_); (first | (focus (simp; done)) | (focus (dsimp only; omega)))) | (with_reducible refine bt ?_ (by assumption))))); (have z2 : blk w2 (w.heap.size + 1) = some #[.slice none 0 0, .int .i64 0, .slice none 0 0, .int .i64 0, .slice none 0 0] := blk_below h2 (by (apply blk_to; (focus (repeat (first | (with_reducible assumption) | (with_reducible apply blk_drew) | (with_reducible apply blk_set) | ((with_reducible apply blk_other'); (first | (focus (dsimp only; assumption)) | (focus (simp; done)) | (focus (dsimp only; omega)))) | ((with_reducible apply blk_alloc_new); (first | (with_reducible rfl) | (focus (simp; done)) | (focus (simp; omega)))) | (with_reducible apply blk_alloc) | ((with_reducible apply blk_below); (with_reducible assumption))))); rfl))); (have n2 := kn z2); clear h2)
    obtain ⟨V, eV⟩ : ∃ v, v = w2.alloc (.cells #[.slice a1 3 c1, .int .i64 1200, .slice a2 3 c2, .int .i64 2] 26) := ⟨_, rfl⟩
    have hV : Below w2.heap.size w2 V := (by rw [eV]; exact (Below.refl _ _).alloc (Nat.le_refl _) _)
    have kV : blk V w2.heap.size = some #[.slice a1 3 c1, .int .i64 1200, .slice a2 3 c2, .int .i64 2] := (by rw [eV]; exact blk_alloc_new _ _ _ rfl)
    have R1V := R1.below hV
    have R2V := R2.below hV
    have bV := bt b2 hV
    have zV := blk_below hV z2
    obtain ⟨c, hc⟩ : ∃ c, c = w2.heap.size := ⟨_, rfl⟩
    have zc : w.heap.size + 1 < c := (by rw [hc]; exact blk_lt z2)
    rw [← hc] at kV
    rw [← eV, ← hc]
    clear eV R1 R2 hV b2 z2 n2 hc
    have RV1 := Lib.hid R1V
    have RV2 := Lib.hid R2V
    have nc := kn kV
    have nz := kn zV
    have A1 := A01.ne (show w.heap.size + 1 < w.heap.size + 3 by omega)
    have A2 := A02.ne (show w.heap.size + 1 < w.heap.size + 3 by omega)
    have HA := Lib.hid (And.intro A01 (And.intro A02 (And.intro A1 A2)))
    clear A01 A02 A1 A2 R1V R2V
    go_wp2
    have zz := blk_set (i := 4) (v := .slice (some ⟨V.heap.size, 0, none⟩) 3 3) (blk_set (i := 3) (v := .int .i64 2) (blk_set (i := 2) (v := .slice a2 3 c2) (blk_set (i := 1) (v := .int .i64 1200) (blk_set (i := 0) (v := .slice a1 3 c1) zV))))
    obtain ⟨A01, A02, A1, A2⟩ := HA.out
    refine ret_blk (b := w.heap.size + 1) (c := #[.slice a1 3 c1, .int .i64 1200, .slice a2 3 c2, .int .i64 2, .slice (some ⟨V.heap.size, 0, none⟩) 3 3]) (v := .tuple #[.agg #[.slice a1 3 c1, .int .i64 1200, .slice a2 3 c2, .int .i64 2, .slice (some ⟨V.heap.size, 0, none⟩) 3 3], .int .i64 0]) (by have h9 := blk_alloc zz (.cells #[.int .i64 0, .int .i64 0, .int .i64 0] 3); exact h9) (fun W' hc => by simp [results, Tryd.results20, go_sem, hc]) rfl ?_
    refine ⟨((((((bV).setCell (Nat.le_succ _) _).setCell (Nat.le_succ _) _).setCell (Nat.le_succ _) _).setCell (Nat.le_succ _) _).setCell (Nat.le_succ _) _).alloc (by have := bV.size; simpa using this) _, .inr ⟨HN.out, a1, c1, a2, c2, _, 3, rfl, ?_, ?_, srow3 (blk_alloc_new _ _ _ (by simp)), A01.mono (Nat.le_add_right _ _), A02.mono (Nat.le_add_right _ _), upR_at bV.size⟩⟩
    · exact ((((((RV1.out).setOtherE A1 _ _).setOtherE A1 _ _).setOtherE A1 _ _).setOtherE A1 _ _).setOtherE A1 _ _).below ((Below.refl _ _).alloc (Nat.le_refl _) _)
    · exact ((((((RV2.out).setOtherE A2 _ _).setOtherE A2 _ _).setOtherE A2 _ _).setOtherE A2 _ _).setOtherE A2 _ _).below ((Below.refl _ _).alloc (Nat.le_refl _) _)
  · have g : Calls Tryd.prog 44 #[.slice (some ⟨w.heap.size + 2, 0, none⟩) 3 3, .int .i64 1200] w1 fun e w' => e = .returned (.tuple #[.agg #[.slice none 0 0, .int .i64 0, .slice none 0 0, .int .i64 0], .int .i64 (newD [x0, x1, x2] 1200)]) ∧ Below w1.heap.size w1 w' := by
      refine (rdnew_bad _ 3 x0 x1 x2 1200 w1 r0 hn).mono ?_
      rintro e w' ⟨h1, ⟨_, h2⟩ | ⟨h2, _⟩⟩
      · exact ⟨h2, h1⟩
      · exact absurd h2 hn
    have HR := Lib.hid (show ∀ W', Below w.heap.size w W' → RetN x0 x1 x2 w (.returned (.tuple #[.agg #[.slice none 0 0, .int .i64 0, .slice none 0 0, .int .i64 0, .slice none 0 0], .int .i64 (newD [x0, x1, x2] 1200)])) W' from fun W' hB => ⟨hB, .inl ⟨hn, rfl⟩⟩)
    have G := Lib.hid g
    clear g
    rw [hw1] at G
    obtain ⟨c, hc⟩ : ∃ c, newD [x0, x1, x2] 1200 = c := ⟨_, rfl⟩
    rw [hc] at G HR hn
    have t1 : (c != 0) = true := by simpa using hn
    clear hc hn r0 hw1 sz w1
    go_enter Tryd.func20, Tryd.ntmps20
    go_wp2_with (go_at_call 44; (with_reducible refine (G.out).mono ?_); rintro e w2 ⟨rfl, h2⟩; (have b2 : Below w.heap.size w w2 := by (repeat (first | (with_reducible assumption) | (with_reducible exact Below.refl _ _) | (with_reducible refine beld_drew ?_) | ((with_reducible refine bset' ?_ ?_); (first | (focus (dsimp only; assumption)) | (focus (simp; done)) | (focus (dsimp only; omega)))) | (with_reducible refine belt_alloc ?_) | ((with_reducible refine zeroed_below' ?_ ?_); (first | (focus (simp; done)) | (focus (dsimp only; omega)))) | (with_reducible refine bt ?_ (by assumption))))); (have z2 : blk w2 (w.heap.size + 1) = some #[.slice none 0 0, .int .i64 0, .slice none 0 0, .int .i64 0, .slice none 0 0] := blk_below h2 (by (apply blk_to; (focus (repeat (first | (with_reducible assumption) | (with_reducible apply blk_drew) | (with_reducible apply blk_set) | ((with_reducible apply blk_other'); (first | (focus (dsimp only; assumption)) | (focus (simp; done)) | (focus (dsimp only; omega)))) | ((with_reducible apply blk_alloc_new); (first | (with_reducible rfl) | (focus (simp; done)) | (focus (simp; omega)))) | (with_reducible apply blk_alloc) | ((with_reducible apply blk_below); (with_reducible assumption))))); rfl))); (have n2 := kn z2); clear h2)
    have zz := blk_set (i := 4) (v := .slice none 0 0) (blk_set (i := 3) (v := .int .i64 0) (blk_set (i := 2) (v := .slice none 0 0) (blk_set (i := 1) (v := .int .i64 0) (blk_set (i := 0) (v := .slice none 0 0) (z2)))))
    refine ret_blk (b := w.heap.size + 1) (c := #[.slice none 0 0, .int .i64 0, .slice none 0 0, .int .i64 0, .slice none 0 0]) (v := .tuple #[.agg #[.slice none 0 0, .int .i64 0, .slice none 0 0, .int .i64 0, .slice none 0 0], .int .i64 c]) (blk_alloc zz _) (fun W' hc => by simp [results, Tryd.results20, go_sem, hc]) rfl (HR.out _ ?_)
    exact ((((((b2).setCell (Nat.le_succ _) _).setCell (Nat.le_succ _) _).setCell (Nat.le_succ _) _).setCell (Nat.le_succ _) _).setCell (Nat.le_succ _) _).alloc (show w.heap.size ≤ _ from Nat.le_of_lt (Nat.lt_of_succ_lt (blk_lt zz))) _
end Go.Proofs.YtkaehoihpgelnaaDoor
namespace Go.Proofs.YtkaehoihpgelnaaDoor
open Go.RowKit
def LightP (ws ds ps : List Int) (l : List Bn) : Prop := ws.length ≤ 10 ∧ ds.length ≤ 10 ∧ ps.length ≤ 10 ∧ l.length ≤ 20 ∧ ∀ x ∈ l, x.da.size ≤ 1100
set_option maxRecDepth 100000 in
set_option maxHeartbeats 3200000 in
theorem light_any (aw : Option Addr) (cw : Nat) (ad : Option Addr) (cd : Nat) (ap : Option Addr) (cp : Nat) (ws ds ps : List Int) (q t : Int) (a : Option Addr) (cap : Nat) (l : List Bn) (w : World) (hrow : SRow bn 9 w a cap l) :
    Calls Tryd.prog 17 #[.agg #[.slice aw ws.length cw, .int .i64 q, .slice ad ds.length cd, .int .i64 t, .slice ap ps.length cp], .slice a l.length cap] w fun e w' => ∃ p, e = .returned (.bool p) ∧ (p = true → LightP ws ds ps l) ∧ Below w.heap.size w w' := by
  have HR := Lib.hid hrow
  have hcap := hrow.1
  have hmax := hrow.2.1
  unfold maxLen at hmax
  clear hrow
  have bV : Below w.heap.size w (w.alloc (.cells #[.slice aw ws.length cw, .int .i64 q, .slice ad ds.length cd, .int .i64 t, .slice ap ps.length cp] 28)) := (Below.refl _ _).alloc (Nat.le_refl _) _
  by_cases h1 : 10 < ws.length
  · have t1 : decide ((10 : Int) < (ws.length : Int)) = true := decide_eq_true (by omega)
    have t1n : decide (10 < ws.length) = true := decide_eq_true h1
    go_enter Tryd.func17, Tryd.ntmps17
    go_wp2
    go_ret
    exact ⟨_, rfl, (fun h => by cases h), bV⟩
  have t1 : decide ((10 : Int) < (ws.length : Int)) = false := decide_eq_false (by omega)
  have t1n : decide (10 < ws.length) = false := decide_eq_false h1
  have H1 := Lib.hid h1
  by_cases h2 : 10 < ds.length
  · have t2 : decide ((10 : Int) < (ds.length : Int)) = true := decide_eq_true (by omega)
    have t2n : decide (10 < ds.length) = true := decide_eq_true h2
    clear h1
    go_enter Tryd.func17, Tryd.ntmps17
    go_wp2
    go_ret
    exact ⟨_, rfl, (fun h => by cases h), bV⟩
  have t2 : decide ((10 : Int) < (ds.length : Int)) = false := decide_eq_false (by omega)
  have t2n : decide (10 < ds.length) = false := decide_eq_false h2
  have H2 := Lib.hid h2
  by_cases h3 : 10 < ps.length
  · have t3 : decide ((10 : Int) < (ps.length : Int)) = true := decide_eq_true (by omega)
    have t3n : decide (10 < ps.length) = true := decide_eq_true h3
    clear h1 h2
    go_enter Tryd.func17, Tryd.ntmps17
    go_wp2
    go_ret
    exact ⟨_, rfl, (fun h => by cases h), bV⟩
  have t3 : decide ((10 : Int) < (ps.length : Int)) = false := decide_eq_false (by omega)
  have t3n : decide (10 < ps.length) = false := decide_eq_false h3
  have H3 := Lib.hid h3
  by_cases h4 : 20 < l.length
  · have t4 : decide ((20 : Int) < (l.length : Int)) = true := decide_eq_true (by omega)
    have t4n : decide (20 < l.length) = true := decide_eq_true h4
    clear h1 h2 h3
    go_enter Tryd.func17, Tryd.ntmps17
    go_wp2
    go_ret
    exact ⟨_, rfl, (fun h => by cases h), bV⟩
  have t4 : decide ((20 : Int) < (l.length : Int)) = false := decide_eq_false (by omega)
  have t4n : decide (20 < l.length) = false := decide_eq_false h4
  have l20 : l.length ≤ 20 := by omega
  clear h1 h2 h3 h4
  go_enter Tryd.func17, Tryd.ntmps17
  go_wp2
  go_loopw [5] (fun i wr => ∃ k : Nat, i = .int .i64 k ∧ k ≤ l.length ∧ Below w.heap.size w wr ∧ Hid (∀ i (h : i < l.length), i < k → (l[i]).da.size ≤ 1100)) (fun i _ => l.length - (intOf i).toNat)
  case atStart => exact ⟨0, rfl, Nat.zero_le _, bV, Lib.hid (fun i h h2 => absurd h2 (by omega))⟩
  case round =>
    clear t1 t1n t2 t2n t3 t3n t4 t4n bV
    obtain ⟨k, rfl, hk, hB, HA⟩ := hrel
    by_cases hlt : k < l.length
    · have tt : decide ((k : Int) < (l.length : Int)) = true := decide_eq_true (by omega)
      have i1 : (k : Int) < (l.length : Int) := by omega
      obtain ⟨b, o, rfl, g1, r1⟩ := (HR.out.below hB).2.2.2 (by omega)
      have c8' := r1 k hlt 8 _ rfl
      obtain ⟨da, hda⟩ : ∃ d, d = (l[k]'hlt).da := ⟨_, rfl⟩
      have c8 : wr.cell? ⟨b, o + k * 9 + 8, none⟩ = some (.string da) := by rw [hda]; exact c8'
      have HDA := Lib.hid hda
      clear r1 hda c8'
      by_cases h5 : 1100 < da.size
      · have t5 : decide ((1100 : Int) < (da.size : Int)) = true := decide_eq_true (by omega)
        go_wp2
        go_ret
        exact ⟨_, rfl, (fun h => by cases h), hB⟩
      · have t5 : decide ((1100 : Int) < (da.size : Int)) = false := decide_eq_false (by omega)
        have HN : Hid (∀ i (h : i < l.length), i < k + 1 → (l[i]).da.size ≤ 1100) := Lib.hid (fun i h h2 => by
          rcases Nat.lt_or_ge i k with h9 | h9
          · exact HA.out i h h9
          · obtain rfl : i = k := by omega
            rw [← HDA.out]; omega)
        clear HA h5
        go_wp2
        go_roundw
        case rel => exact ⟨k + 1, by go_num, by omega, hB, HN⟩
        case measure => simp [intOf]; omega
    · obtain rfl : k = l.length := by omega
      go_wp2
      go_ret
      exact ⟨_, rfl, (fun _ => ⟨by have := H1.out; omega, by have := H2.out; omega, by have := H3.out; omega, l20, fun x hx => by obtain ⟨i, hi, rfl⟩ := List.getElem_of_mem hx; exact HA.out i hi hi⟩), hB⟩
end Go.Proofs.YtkaehoihpgelnaaDoor
