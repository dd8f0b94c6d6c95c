/- Parts of a proof, printed by a program of mine out of my texts: StOwn, StFind, StFind2, StRow, StRef, StRChk. -/
import Derived.Test.YtahopnlibmiafaaDoorMU
import Derived.Test.YtahopnlibmiafaaDoorMV
set_option linter.unusedSimpArgs false
set_option linter.unusedVariables false
namespace Go.Proofs.YtahopnlibmiafaaDoor
open Go.RowKit
theorem infoIt : (Tryd.prog.info? 67).map (fun i => (i.zero, i.size, i.bytes)) = some (some (.agg #[.int .i64 0, .int .u64 0, .int .i64 0, .int .i64 0, .int .i64 0, .int .i64 0, .int .i64 0, .int .i64 0, .string ⟨#[]⟩, .int .i64 0, .int .i64 0, .int .u64 0, .int .i64 0]), 13, 112) := by kernel_rfl
theorem rowI_one_cell (l : List Itm) : ∀ u ∈ rowC itm l, u.oneCell' = true := by
  intro u hu
  simp only [rowC, List.mem_flatMap] at hu
  obtain ⟨x, _, hx⟩ := hu
  exact itm_one x u hx
theorem srow_cellsI {w : World} {a : Option Addr} {cap : Nat} {l : List Itm} (h : SRow itm 13 w a cap l) (h0 : 0 < l.length) : ∃ b off, a = some ⟨b, off, none⟩ ∧ b < w.heap.size ∧ ∀ j u, (rowC itm l)[j]? = some u → w.cell? ⟨b, off + j, none⟩ = some u := by
  obtain ⟨b, off, e, hlt, hc⟩ := h.2.2.2 h0
  refine ⟨b, off, e, hlt, fun j u hj => ?_⟩
  have hjl : j < l.length * 13 := by
    have := (List.getElem?_eq_some_iff.1 hj).1
    rwa [rowC_length itm_len] at this
  have hi : j / 13 < l.length := by omega
  have h2 := rowC_cell itm_len l (j / 13) (j % 13) hi (by omega) []
  rw [List.append_nil, show j / 13 * 13 + j % 13 = j by omega, hj] at h2
  have := hc (j / 13) hi (j % 13) u h2.symm
  rwa [show off + j / 13 * 13 + j % 13 = off + j by omega] at this
theorem own_emptyI (w : World) (e : TypeId) : (w.alloc (.cells #[] e)).ownsRow w.heap.size e 13 (.slice (some ⟨w.heap.size, 0, none⟩) 0 0) 0 [] :=
  ⟨rfl, .inr ⟨w.heap.size, 0, #[], rfl, Nat.le_refl _, heap_alloc_new w _, Nat.le_refl _, by unfold maxLen; omega, rfl, rfl⟩⟩
theorem nilEq (ad : Addr) (n c : Nat) (w : World) : Sem.run Tryd.prog (binOp BinOp.eql 39 (.slice (some ad) n c) (.slice none 0 0)) w = .ok (.bool false) w := by kernel_rfl
theorem nilEq0 (w : World) : Sem.run Tryd.prog (binOp BinOp.eql 39 (.slice none 0 0) (.slice none 0 0)) w = .ok (.bool true) w := by kernel_rfl
def OwnS (l : List Itm) (w : World) (e : Ending) (w' : World) : Prop := ∃ v, e = .returned v ∧ w'.ownsRow w.heap.size 67 13 v l.length (rowC itm l) ∧ Below w.heap.size w w'
set_option maxRecDepth 100000 in
set_option maxHeartbeats 1600000 in
theorem cloneL_any (a : Option Addr) (cap : Nat) (l : List Itm) (hl : l.length ≤ 100000) (h0 : 0 < l.length) (w : World) (hrow : SRow itm 13 w a cap l) :
    Calls Tryd.prog 76 #[.slice a l.length cap] w fun e w' => OwnS l w e w' := by
  obtain ⟨b, off, rfl, hlt, hc⟩ := srow_cellsI hrow h0
  have HC := Lib.hid hc
  obtain ⟨i0, hi, hz0, hz1, hz2⟩ := info_parts infoIt
  have Hi := Lib.hid hi; have Hz0 := Lib.hid hz0; have Hz1 := Lib.hid hz1; have Hz2 := Lib.hid hz2
  clear hi hz0 hz1 hz2
  clear hc hrow
  have ne := nilEq
  have ne0 := nilEq0
  go_enter Tryd.func76, Tryd.ntmps76
  go_wp2_with (at_builtin; refine wpList_append_own _ rfl _ _ 39 rfl w.heap.size 67 i0 (.agg #[.int .i64 0, .int .u64 0, .int .i64 0, .int .i64 0, .int .i64 0, .int .i64 0, .int .i64 0, .int .i64 0, .string ⟨#[]⟩, .int .i64 0, .int .i64 0, .int .u64 0, .int .i64 0]) 13 112 Tryd.underlying39 Hi.out Hz0.out Hz1.out Hz2.out rfl (by decide) _ 0 [] rfl (own_emptyI w _) ⟨b, off, none⟩ l.length cap (rowC itm l) rfl (rowC_length itm_len l) (fun j u hj => (by rw [Addr.add_mid, ((Below.refl w.heap.size w).alloc (Nat.le_refl _) _).cell (p := ⟨b, off + j, none⟩) hlt]; exact HC.out j u hj)) (rowI_one_cell l) (by unfold maxLen; omega) (by omega) (by simp) ?_; intro v' wb hown2 hgrow2 _)
  go_ret
  refine ⟨_, rfl, ?_, ?_⟩
  · simpa [rowC] using hown2
  · exact ((Below.refl _ _).alloc (Nat.le_refl _) _).grown hgrow2 (by simp) (fun k e => (own_emptyI w 67).lt k e |>.1)
set_option maxRecDepth 100000 in
set_option maxHeartbeats 1600000 in
theorem cloneN_any (a : Option Addr) (cap : Nat) (hn : a = none → cap = 0) (w : World) :
    Calls Tryd.prog 76 #[.slice a 0 cap] w fun e w' => OwnS [] w e w' := by
  obtain ⟨i0, hi, hz0, hz1, hz2⟩ := info_parts infoIt
  have Hi := Lib.hid hi; have Hz0 := Lib.hid hz0; have Hz1 := Lib.hid hz1; have Hz2 := Lib.hid hz2
  clear hi hz0 hz1 hz2
  cases a with
  | none =>
    obtain rfl := hn rfl
    clear hn
    have ne := nilEq
    have ne0 := nilEq0
    go_enter Tryd.func76, Tryd.ntmps76
    go_wp2
    go_ret
    exact ⟨_, rfl, by simpa [rowC] using World.ownsRow_nil w _ _ _, Below.refl _ _⟩
  | some ad =>
    clear hn
    have ne := nilEq
    have ne0 := nilEq0
    go_enter Tryd.func76, Tryd.ntmps76
    go_wp2_with (at_builtin; refine wpList_append_own _ rfl _ _ 39 rfl w.heap.size 67 i0 (.agg #[.int .i64 0, .int .u64 0, .int .i64 0, .int .i64 0, .int .i64 0, .int .i64 0, .int .i64 0, .int .i64 0, .string ⟨#[]⟩, .int .i64 0, .int .i64 0, .int .u64 0, .int .i64 0]) 13 112 Tryd.underlying39 Hi.out Hz0.out Hz1.out Hz2.out rfl (by decide) _ 0 [] rfl (own_emptyI w _) ad 0 cap [] rfl rfl (fun j u hj => by simp at hj) (by simp) (by unfold maxLen; omega) (by omega) (by simp) ?_; intro v' wb hown2 hgrow2 _)
    go_ret
    refine ⟨_, rfl, ?_, ?_⟩
    · simpa [rowC] using hown2
    · exact ((Below.refl _ _).alloc (Nat.le_refl _) _).grown hgrow2 (by simp) (fun k e => (own_emptyI w 67).lt k e |>.1)
theorem clone_any (a : Option Addr) (cap : Nat) (l : List Itm) (hl : l.length ≤ 100000) (w : World) (hrow : SRow itm 13 w a cap l) :
    Calls Tryd.prog 76 #[.slice a l.length cap] w fun e w' => OwnS l w e w' := by
  rcases Nat.eq_zero_or_pos l.length with h | h
  · obtain rfl := List.length_eq_zero_iff.1 h
    exact cloneN_any a cap hrow.2.2.1 w
  · exact cloneL_any a cap l hl h w hrow
set_option maxRecDepth 100000 in
set_option maxHeartbeats 1600000 in
theorem lownL_any (a : Option Addr) (cap : Nat) (l : List Itm) (hl : l.length ≤ 100000) (h0 : 0 < l.length) (w : World) (hrow : SRow itm 13 w a cap l) :
    Calls Tryd.prog 21 #[.slice a l.length cap] w fun e w' => OwnS l w e w' := by
  obtain ⟨b, off, rfl, hlt, hc⟩ := srow_cellsI hrow h0
  have HC := Lib.hid hc
  obtain ⟨i0, hi, hz0, hz1, hz2⟩ := info_parts infoIt
  have Hi := Lib.hid hi; have Hz0 := Lib.hid hz0; have Hz1 := Lib.hid hz1; have Hz2 := Lib.hid hz2
  clear hi hz0 hz1 hz2
  clear hc hrow
  go_enter Tryd.func21, Tryd.ntmps21
  go_wp2_with (at_builtin; refine wpList_append_own _ rfl _ _ 39 rfl w.heap.size 67 i0 (.agg #[.int .i64 0, .int .u64 0, .int .i64 0, .int .i64 0, .int .i64 0, .int .i64 0, .int .i64 0, .int .i64 0, .string ⟨#[]⟩, .int .i64 0, .int .i64 0, .int .u64 0, .int .i64 0]) 13 112 Tryd.underlying39 Hi.out Hz0.out Hz1.out Hz2.out rfl (by decide) _ 0 [] rfl (own_emptyI w _) ⟨b, off, none⟩ l.length cap (rowC itm l) rfl (rowC_length itm_len l) (fun j u hj => (by rw [Addr.add_mid, ((Below.refl w.heap.size w).alloc (Nat.le_refl _) _).cell (p := ⟨b, off + j, none⟩) hlt]; exact HC.out j u hj)) (rowI_one_cell l) (by unfold maxLen; omega) (by omega) (by simp) ?_; intro v' wb hown2 hgrow2 _)
  go_ret
  refine ⟨_, rfl, ?_, ?_⟩
  · simpa [rowC] using hown2
  · exact ((Below.refl _ _).alloc (Nat.le_refl _) _).grown hgrow2 (by simp) (fun k e => (own_emptyI w 67).lt k e |>.1)
set_option maxRecDepth 100000 in
set_option maxHeartbeats 1600000 in
theorem lownN_any (a : Option Addr) (cap : Nat) (hn : a = none → cap = 0) (w : World) :
    Calls Tryd.prog 21 #[.slice a 0 cap] w fun e w' => OwnS [] w e w' := by
  obtain ⟨i0, hi, hz0, hz1, hz2⟩ := info_parts infoIt
  have Hi := Lib.hid hi; have Hz0 := Lib.hid hz0; have Hz1 := Lib.hid hz1; have Hz2 := Lib.hid hz2
  clear hi hz0 hz1 hz2
  cases a with
  | none =>
    obtain rfl := hn rfl
    clear hn
    go_enter Tryd.func21, Tryd.ntmps21
    go_wp2_with (at_builtin; refine wpList_append_own_none rfl _ _ 39 rfl w.heap.size 67 i0 13 Tryd.underlying39 Hi.out _ 0 [] rfl (own_emptyI w _) rfl ?_)
    go_ret
    exact ⟨_, rfl, own_emptyI w _, by (repeat (first | (with_reducible assumption) | (with_reducible exact Below.refl _ _) | (with_reducible refine beld_drew ?_) | ((with_reducible refine bset' ?_ ?_); (first | (focus (dsimp only; assumption)) | (focus (simp; done)) | (focus (dsimp only; omega)))) | (with_reducible refine belt_alloc ?_) | ((with_reducible refine zeroed_below' ?_ ?_); (first | (focus (simp; done)) | (focus (dsimp only; omega)))) | (with_reducible refine bt ?_ (by assumption))))⟩
  | some ad =>
    clear hn
    go_enter Tryd.func21, Tryd.ntmps21
    go_wp2_with (at_builtin; refine wpList_append_own _ rfl _ _ 39 rfl w.heap.size 67 i0 (.agg #[.int .i64 0, .int .u64 0, .int .i64 0, .int .i64 0, .int .i64 0, .int .i64 0, .int .i64 0, .int .i64 0, .string ⟨#[]⟩, .int .i64 0, .int .i64 0, .int .u64 0, .int .i64 0]) 13 112 Tryd.underlying39 Hi.out Hz0.out Hz1.out Hz2.out rfl (by decide) _ 0 [] rfl (own_emptyI w _) ad 0 cap [] rfl rfl (fun j u hj => by simp at hj) (by simp) (by unfold maxLen; omega) (by omega) (by simp) ?_; intro v' wb hown2 hgrow2 _)
    go_ret
    refine ⟨_, rfl, ?_, ?_⟩
    · simpa [rowC] using hown2
    · exact ((Below.refl _ _).alloc (Nat.le_refl _) _).grown hgrow2 (by simp) (fun k e => (own_emptyI w 67).lt k e |>.1)
theorem lown_any (a : Option Addr) (cap : Nat) (l : List Itm) (hl : l.length ≤ 100000) (w : World) (hrow : SRow itm 13 w a cap l) :
    Calls Tryd.prog 21 #[.slice a l.length cap] w fun e w' => OwnS l w e w' := by
  rcases Nat.eq_zero_or_pos l.length with h | h
  · obtain rfl := List.length_eq_zero_iff.1 h
    exact lownN_any a cap hrow.2.2.1 w
  · exact lownL_any a cap l hl h w hrow
end Go.Proofs.YtahopnlibmiafaaDoor
namespace Go.Proofs.YtahopnlibmiafaaDoor
open Go.RowKit
set_option maxRecDepth 100000 in
theorem valid_any (a : Option Addr) (cap : Nat) (l : List Itm) (hd : ∀ x ∈ l, x.b.da.size ≤ maxLen) (w : World) (hrow : SRow itm 13 w a cap l) :
    Calls Tryd.prog 74 #[.slice a l.length cap] w fun e w' => e = .returned (.int .i64 (chkS l).1) ∧ Below w.heap.size w w' := by
  have g := Lib.hid (sCheck_any a cap l hd w hrow)
  go_enter Tryd.func74, Tryd.ntmps74
  go_wp2_with (go_at_call 28; (with_reducible refine (g.out).mono ?_); rintro e w2 ⟨rfl, h2⟩)
  go_ret
  exact ⟨rfl, h2⟩
set_option maxRecDepth 100000 in
set_option maxHeartbeats 1600000 in
theorem placeF_any (x : Itm) (k : Id3) (c : Nat) (w : World) (hk : blk w c = some (idL k).toArray) : Calls Tryd.prog 102 #[.agg (itm x).toArray, .pointer (some ⟨c, 0, none⟩)] w fun e w' => e = .returned (.bool (decide (bid x.b = k))) ∧ Below w.heap.size w w' := by
  have E := fun W => run_idKEq (bid x.b) k W
  obtain ⟨k1, k2, k3⟩ := k
  obtain ⟨q, hq⟩ : ∃ q, decide (bid x.b = (k1, k2, k3)) = q := ⟨_, rfl⟩
  rw [hq] at E ⊢
  clear hq
  have hk : blk w c = some #[.int .i64 k1, .int .u64 k2, .int .i64 k3] := hk
  have E : ∀ W, Sem.run Tryd.prog (binOp BinOp.eql 26 (.agg #[.int .i64 x.b.no, .int .u64 x.b.sq, .int .i64 x.b.of]) (.agg #[.int .i64 k1, .int .u64 k2, .int .i64 k3])) W = .ok (.bool q) W := E
  show Calls Tryd.prog 102 #[.agg #[.int .i64 x.b.no, .int .u64 x.b.sq, .int .i64 x.b.of, .int .i64 x.b.de, .int .i64 x.b.pr, .int .i64 x.b.bo, .int .i64 x.b.li, .int .i64 x.b.to, .string x.b.da, .int .i64 x.st, .int .i64 x.to, .int .u64 x.off, .int .i64 x.od], .pointer (some ⟨c, 0, none⟩)] w _
  have nk := kn hk
  clear hk
  go_enter Tryd.func102, Tryd.ntmps102
  go_wp2
  go_ret
  exact ⟨rfl, by (repeat (first | (with_reducible assumption) | (with_reducible exact Below.refl _ _) | (with_reducible refine beld_drew ?_) | ((with_reducible refine bset' ?_ ?_); (first | (focus (dsimp only; assumption)) | (focus (simp; done)) | (focus (dsimp only; omega)))) | (with_reducible refine belt_alloc ?_) | ((with_reducible refine zeroed_below' ?_ ?_); (first | (focus (simp; done)) | (focus (dsimp only; omega)))) | (with_reducible refine bt ?_ (by assumption))))⟩
set_option maxRecDepth 100000 in
set_option maxHeartbeats 1600000 in
theorem indexF_any (a : Option Addr) (cap : Nat) (l : List Itm) (k : Id3) (c : Nat) (w : World) (hrow : SRow itm 13 w a cap l) (hk : blk w c = some (idL k).toArray) :
    Calls Tryd.prog 101 #[.slice a l.length cap, .func (.func 102) #[] #[.pointer (some ⟨c, 0, none⟩)]] w fun e w' => e = .returned (.int .i64 (placeS l k)) ∧ Below w.heap.size w w' := by
  have HR := Lib.hid hrow; have HK := Lib.hid hk
  have hcap := hrow.1
  have hmax := hrow.2.1
  unfold maxLen at hmax
  clear hrow hk
  go_enter Tryd.func101, Tryd.ntmps101
  go_wp2
  go_loopw [8] (fun i wr => ∃ j : Nat, i = .int .i64 j ∧ j ≤ l.length ∧ Below w.heap.size w wr ∧ Hid (∀ i (h : i < j) (h2 : i < l.length), bid l[i].b ≠ k)) (fun i _ => l.length - (intOf i).toNat)
  case atStart => exact ⟨0, rfl, Nat.zero_le _, Below.refl _ _, Lib.hid (fun i h => absurd h (by omega))⟩
  case round =>
    obtain ⟨j, rfl, hj, hB, HM⟩ := hrel
    by_cases hlt : j < l.length
    · have hltz : (j : Int) < (l.length : Int) := by omega
      obtain ⟨b, off, hab, hbl, hcs⟩ := HR.out.2.2.2 (by omega)
      subst hab
      obtain ⟨x, hx⟩ : ∃ x, x = l[j] := ⟨_, rfl⟩
      have hr := hcs j hlt
      rw [← hx] at hr
      have hrw := range_below hbl hr hB
      have hkw := blk_below hB HK.out
      have HX := Lib.hid hx
      clear hx hr hcs
      have bwr : b < wr.heap.size := Nat.lt_of_lt_of_le hbl hB.size
      go_upto_region 4 with fail
      refine wp_region_tail0 4 ?_
      intro W0 hE hN
      have hrW : W0.rangeAt b (off + j * 13) (itm x) := (by rw [hE.out]; exact hrw)
      have hBW : Below w.heap.size w W0 := (by rw [hE.out]; exact hB)
      have hkW : blk W0 c = some (idL k).toArray := (by rw [hE.out]; exact hkw)
      have bW : b < W0.heap.size := (by rw [hE.out]; exact bwr)
      clear hE hrw hB bwr hkw
      simp only [List.take_succ_cons, List.take_zero, List.drop_succ_cons, List.drop_zero]
      repeat (go_big_quiet_step (fail))
      refine wpQuiet_nil ?_
      rintro _ ⟨x', rfl⟩
      have hr1 := range_below bW hrW x'.ok
      have hB1 := bt hBW x'.ok
      have gp := placeF_any x k c x'.wd (blk_below x'.ok hkW)
      obtain ⟨u, hu⟩ : ∃ u, u = x'.wd := ⟨_, rfl⟩
      rw [← hu] at hr1 hB1 gp ⊢
      obtain ⟨q, hq⟩ : ∃ q, decide (bid x.b = k) = q := ⟨_, rfl⟩
      rw [hq] at gp
      have HQ := Lib.hid hq
      replace gp := Lib.hid gp
      clear hu x' hN hrW hBW bW hkW hq
      refine wpList_load_mid rfl 67 (.tmp 14) rfl b (off + j * 13) rfl (itm x) _ hr1 Tryd.underlying67 rfl (by kernel_rfl) ?_
      conv => arg 5; simp [Act.put]
      cases q
      · go_wp2_with (go_at_call 102; (with_reducible refine (gp.out).mono ?_); rintro e w2 ⟨rfl, h2⟩)
        go_roundw
        case rel => exact ⟨j + 1, by go_num, by omega, bt hB1 h2, Lib.hid (fun i h h3 => by
          rcases Nat.lt_or_ge i j with h4 | h4
          · exact HM.out i h4 h3
          · obtain rfl : i = j := by omega
            rw [← HX.out]; exact of_decide_eq_false HQ.out)⟩
        case measure => simp [intOf]; omega
      · have hp : placeS l k = j := placeS_some hlt (fun i hi => HM.out i hi (by omega)) (by rw [← HX.out]; exact of_decide_eq_true HQ.out)
        have HP := Lib.hid hp
        clear hp
        go_wp2_with (go_at_call 102; (with_reducible refine (gp.out).mono ?_); rintro e w2 ⟨rfl, h2⟩)
        go_ret
        exact ⟨by rw [HP.out]; rfl, bt hB1 h2⟩
    · obtain rfl : j = l.length := by omega
      have hp : placeS l k = -1 := placeS_none (fun i hi => HM.out i hi hi)
      have HP := Lib.hid hp
      clear hp
      go_wp2
      go_ret
      exact ⟨by rw [HP.out]; rfl, hB⟩
set_option maxRecDepth 100000 in
theorem place_any (a : Option Addr) (cap : Nat) (l : List Itm) (k : Id3) (w : World) (hrow : SRow itm 13 w a cap l) :
    Calls Tryd.prog 75 #[.slice a l.length cap, .agg (idL k).toArray] w fun e w' => e = .returned (.int .i64 (placeS l k)) ∧ Below w.heap.size w w' := by
  have g := Lib.hid (indexF_any a cap l k w.heap.size (w.alloc (.cells (idL k).toArray 26)) (hrow.below ((Below.refl _ _).alloc (Nat.le_refl _) _)) (blk_alloc_new _ _ _ rfl))
  obtain ⟨p, hp⟩ : ∃ p, placeS l k = p := ⟨_, rfl⟩
  rw [hp] at g ⊢
  clear hp hrow
  obtain ⟨k1, k2, k3⟩ := k
  have g : Hid (Calls Tryd.prog 101 #[.slice a l.length cap, .func (.func 102) #[] #[.pointer (some ⟨w.heap.size, 0, none⟩)]] (w.alloc (.cells #[.int .i64 k1, .int .u64 k2, .int .i64 k3] 26)) fun e w' => e = .returned (.int .i64 p) ∧ Below (w.alloc (.cells #[.int .i64 k1, .int .u64 k2, .int .i64 k3] 26)).heap.size (w.alloc (.cells #[.int .i64 k1, .int .u64 k2, .int .i64 k3] 26)) w') := g
  show Calls Tryd.prog 75 #[.slice a l.length cap, .agg #[.int .i64 k1, .int .u64 k2, .int .i64 k3]] w _
  go_enter Tryd.func75, Tryd.ntmps75
  go_wp2_with (go_at_call 101; (with_reducible refine (g.out).mono ?_); rintro e w2 ⟨rfl, h2⟩)
  go_ret
  exact ⟨rfl, bta h2⟩
end Go.Proofs.YtahopnlibmiafaaDoor
namespace Go.Proofs.YtahopnlibmiafaaDoor
open Go.RowKit
theorem findS_cases (l : List Itm) (k : Id3) : ((chkS l).1 ≠ 0 ∧ findS l k = (0, (chkS l).1)) ∨ ((chkS l).1 = 0 ∧ placeS l k < 0 ∧ findS l k = (0, 8)) ∨ ((chkS l).1 = 0 ∧ ¬ placeS l k < 0 ∧ findS l k = (placeS l k, 0)) := by
  unfold findS
  by_cases h : (chkS l).1 = 0
  · by_cases h2 : placeS l k < 0
    · exact .inr (.inl ⟨h, h2, by simp [h, h2]⟩)
    · exact .inr (.inr ⟨h, h2, by simp [h, h2]⟩)
  · exact .inl ⟨h, by simp [h]⟩
set_option maxRecDepth 100000 in
set_option maxHeartbeats 1600000 in
theorem sfind_any (a : Option Addr) (cap : Nat) (l : List Itm) (k : Id3) (hd : ∀ x ∈ l, x.b.da.size ≤ maxLen) (w : World) (hrow : SRow itm 13 w a cap l) :
    Calls Tryd.prog 78 #[.slice a l.length cap, .agg (idL k).toArray] w fun e w' => e = .returned (.tuple #[.int .i64 (findS l k).1, .int .i64 (findS l k).2]) ∧ Below w.heap.size w w' := by
  have g1 : ∀ W, Below w.heap.size w W → Calls Tryd.prog 74 #[.slice a l.length cap] W fun e w' => e = .returned (.int .i64 (chkS l).1) ∧ Below W.heap.size W w' := fun W hB => valid_any a cap l hd W (hrow.below hB)
  have g2 : ∀ W, Below w.heap.size w W → Calls Tryd.prog 75 #[.slice a l.length cap, .agg #[.int .i64 k.1, .int .u64 k.2.1, .int .i64 k.2.2]] W fun e w' => e = .returned (.int .i64 (placeS l k)) ∧ Below W.heap.size W w' := fun W hB => place_any a cap l k W (hrow.below hB)
  have hc := findS_cases l k
  obtain ⟨c, hcc⟩ : ∃ c, (chkS l).1 = c := ⟨_, rfl⟩
  obtain ⟨p, hp⟩ : ∃ c, placeS l k = c := ⟨_, rfl⟩
  obtain ⟨f, hf⟩ : ∃ c, findS l k = c := ⟨_, rfl⟩
  rw [hcc] at g1 hc
  rw [hp] at g2 hc
  rw [hf] at hc ⊢
  replace g1 := Lib.hid g1; replace g2 := Lib.hid g2
  clear hcc hp hf hd hrow
  obtain ⟨k1, k2, k3⟩ := k
  show Calls Tryd.prog 78 #[.slice a l.length cap, .agg #[.int .i64 k1, .int .u64 k2, .int .i64 k3]] w _
  rcases hc with ⟨h, rfl⟩ | ⟨rfl, h, rfl⟩ | ⟨rfl, h, rfl⟩
  · have q0 : (c != 0) = true := by simpa using h
    go_enter Tryd.func78, Tryd.ntmps78
    go_wp2_with (go_at_call 74; (with_reducible refine (g1.out _ (by (repeat (first | (with_reducible assumption) | (with_reducible exact Below.refl _ _) | (with_reducible refine beld_drew ?_) | ((with_reducible refine bset' ?_ ?_); (first | (focus (dsimp only; assumption)) | (focus (simp; done)) | (focus (dsimp only; omega)))) | (with_reducible refine belt_alloc ?_) | ((with_reducible refine zeroed_below' ?_ ?_); (first | (focus (simp; done)) | (focus (dsimp only; omega)))) | (with_reducible refine bt ?_ (by assumption)))))).mono ?_); rintro e w2 ⟨rfl, h2⟩)
    go_ret2
    exact ⟨rfl, by (repeat (first | (with_reducible assumption) | (with_reducible exact Below.refl _ _) | (with_reducible refine beld_drew ?_) | ((with_reducible refine bset' ?_ ?_); (first | (focus (dsimp only; assumption)) | (focus (simp; done)) | (focus (dsimp only; omega)))) | (with_reducible refine belt_alloc ?_) | ((with_reducible refine zeroed_below' ?_ ?_); (first | (focus (simp; done)) | (focus (dsimp only; omega)))) | (with_reducible refine bt ?_ (by assumption))))⟩
  · have q0 : ((0 : Int) != 0) = false := rfl
    have q1 : decide (p < 0) = true := decide_eq_true h
    go_enter Tryd.func78, Tryd.ntmps78
    go_wp2_with (first | (go_at_call 74; (with_reducible refine (g1.out _ (by (repeat (first | (with_reducible assumption) | (with_reducible exact Below.refl _ _) | (with_reducible refine beld_drew ?_) | ((with_reducible refine bset' ?_ ?_); (first | (focus (dsimp only; assumption)) | (focus (simp; done)) | (focus (dsimp only; omega)))) | (with_reducible refine belt_alloc ?_) | ((with_reducible refine zeroed_below' ?_ ?_); (first | (focus (simp; done)) | (focus (dsimp only; omega)))) | (with_reducible refine bt ?_ (by assumption)))))).mono ?_); rintro e w2 ⟨rfl, h2⟩; (have kb : blk w2 w.heap.size = some #[.int .i64 k1, .int .u64 k2, .int .i64 k3] := (by (apply blk_to; (focus (repeat (first | (with_reducible assumption) | (with_reducible apply blk_drew) | (with_reducible apply blk_set) | ((with_reducible apply blk_other'); (first | (focus (dsimp only; assumption)) | (focus (simp; done)) | (focus (dsimp only; omega)))) | ((with_reducible apply blk_alloc_new); (first | (with_reducible rfl) | (focus (simp; done)) | (focus (simp; omega)))) | (with_reducible apply blk_alloc) | ((with_reducible apply blk_below); (with_reducible assumption))))); rfl))); (have nk := kn kb); (have b2 : Below w.heap.size w w2 := (by (repeat (first | (with_reducible assumption) | (with_reducible exact Below.refl _ _) | (with_reducible refine beld_drew ?_) | ((with_reducible refine bset' ?_ ?_); (first | (focus (dsimp only; assumption)) | (focus (simp; done)) | (focus (dsimp only; omega)))) | (with_reducible refine belt_alloc ?_) | ((with_reducible refine zeroed_below' ?_ ?_); (first | (focus (simp; done)) | (focus (dsimp only; omega)))) | (with_reducible refine bt ?_ (by assumption))))))) | (go_at_call 75; (with_reducible refine (g2.out _ b2).mono ?_); rintro e w3 ⟨rfl, h3⟩))
    go_ret2
    exact ⟨rfl, bt b2 h3⟩
  · have q0 : ((0 : Int) != 0) = false := rfl
    have q1 : decide (p < 0) = false := decide_eq_false h
    go_enter Tryd.func78, Tryd.ntmps78
    go_wp2_with (first | (go_at_call 74; (with_reducible refine (g1.out _ (by (repeat (first | (with_reducible assumption) | (with_reducible exact Below.refl _ _) | (with_reducible refine beld_drew ?_) | ((with_reducible refine bset' ?_ ?_); (first | (focus (dsimp only; assumption)) | (focus (simp; done)) | (focus (dsimp only; omega)))) | (with_reducible refine belt_alloc ?_) | ((with_reducible refine zeroed_below' ?_ ?_); (first | (focus (simp; done)) | (focus (dsimp only; omega)))) | (with_reducible refine bt ?_ (by assumption)))))).mono ?_); rintro e w2 ⟨rfl, h2⟩; (have kb : blk w2 w.heap.size = some #[.int .i64 k1, .int .u64 k2, .int .i64 k3] := (by (apply blk_to; (focus (repeat (first | (with_reducible assumption) | (with_reducible apply blk_drew) | (with_reducible apply blk_set) | ((with_reducible apply blk_other'); (first | (focus (dsimp only; assumption)) | (focus (simp; done)) | (focus (dsimp only; omega)))) | ((with_reducible apply blk_alloc_new); (first | (with_reducible rfl) | (focus (simp; done)) | (focus (simp; omega)))) | (with_reducible apply blk_alloc) | ((with_reducible apply blk_below); (with_reducible assumption))))); rfl))); (have nk := kn kb); (have b2 : Below w.heap.size w w2 := (by (repeat (first | (with_reducible assumption) | (with_reducible exact Below.refl _ _) | (with_reducible refine beld_drew ?_) | ((with_reducible refine bset' ?_ ?_); (first | (focus (dsimp only; assumption)) | (focus (simp; done)) | (focus (dsimp only; omega)))) | (with_reducible refine belt_alloc ?_) | ((with_reducible refine zeroed_below' ?_ ?_); (first | (focus (simp; done)) | (focus (dsimp only; omega)))) | (with_reducible refine bt ?_ (by assumption))))))) | (go_at_call 75; (with_reducible refine (g2.out _ b2).mono ?_); rintro e w3 ⟨rfl, h3⟩))
    go_ret2
    exact ⟨rfl, bt b2 h3⟩
set_option maxRecDepth 100000 in
theorem sFind_any (a : Option Addr) (cap : Nat) (l : List Itm) (k : Id3) (hd : ∀ x ∈ l, x.b.da.size ≤ maxLen) (w : World) (hrow : SRow itm 13 w a cap l) :
    Calls Tryd.prog 34 #[.slice a l.length cap, .agg (idL k).toArray] w fun e w' => e = .returned (.tuple #[.int .i64 (findS l k).1, .int .i64 (findS l k).2]) ∧ Below w.heap.size w w' := by
  have g : ∀ W, Below w.heap.size w W → Calls Tryd.prog 78 #[.slice a l.length cap, .agg #[.int .i64 k.1, .int .u64 k.2.1, .int .i64 k.2.2]] W fun e w' => e = .returned (.tuple #[.int .i64 (findS l k).1, .int .i64 (findS l k).2]) ∧ Below W.heap.size W w' := fun W hB => sfind_any a cap l k hd W (hrow.below hB)
  obtain ⟨f, hf⟩ : ∃ c, findS l k = c := ⟨_, rfl⟩
  rw [hf] at g ⊢
  replace g := Lib.hid g
  clear hf hd hrow
  obtain ⟨k1, k2, k3⟩ := k
  show Calls Tryd.prog 34 #[.slice a l.length cap, .agg #[.int .i64 k1, .int .u64 k2, .int .i64 k3]] w _
  go_enter Tryd.func34, Tryd.ntmps34
  go_wp2_with (go_at_call 78; (with_reducible refine (g.out _ (by (repeat (first | (with_reducible assumption) | (with_reducible exact Below.refl _ _) | (with_reducible refine beld_drew ?_) | ((with_reducible refine bset' ?_ ?_); (first | (focus (dsimp only; assumption)) | (focus (simp; done)) | (focus (dsimp only; omega)))) | (with_reducible refine belt_alloc ?_) | ((with_reducible refine zeroed_below' ?_ ?_); (first | (focus (simp; done)) | (focus (dsimp only; omega)))) | (with_reducible refine bt ?_ (by assumption)))))).mono ?_); rintro e w2 ⟨rfl, h2⟩)
  go_ret2
  exact ⟨rfl, by (repeat (first | (with_reducible assumption) | (with_reducible exact Below.refl _ _) | (with_reducible refine beld_drew ?_) | ((with_reducible refine bset' ?_ ?_); (first | (focus (dsimp only; assumption)) | (focus (simp; done)) | (focus (dsimp only; omega)))) | (with_reducible refine belt_alloc ?_) | ((with_reducible refine zeroed_below' ?_ ?_); (first | (focus (simp; done)) | (focus (dsimp only; omega)))) | (with_reducible refine bt ?_ (by assumption))))⟩
end Go.Proofs.YtahopnlibmiafaaDoor
namespace Go.Proofs.YtahopnlibmiafaaDoor
open Go.RowKit
theorem owns_parts {w : World} {base : Nat} {l : List Itm} {v : Value} (h : w.ownsRow base 67 13 v l.length (rowC itm l)) (h0 : 0 < l.length) :
    ∃ g cap, v = .slice (some ⟨g, 0, none⟩) l.length cap ∧ base ≤ g ∧ g < w.heap.size ∧ l.length ≤ cap ∧ cap ≤ maxLen ∧
      (∀ i (hi : i < l.length) j u, (itm l[i])[j]? = some u → w.cell? ⟨g, i * 13 + j, none⟩ = some u) ∧ ∀ o, w.frozen? ⟨g, o, none⟩ = false := by
  obtain ⟨a, cap, rfl, hS, hd⟩ := srow_of_owns itm_len h
  rcases hd with ⟨_, rfl⟩ | ⟨g, cur, rfl, hb, hk, _, _⟩
  · simp at h0
  · obtain ⟨b, off, e, hlt, hc⟩ := hS.2.2.2 h0
    cases e
    refine ⟨g, cap, rfl, hb, hlt, hS.1, hS.2.1, fun i hi j u hj => ?_, blk_frozen hk⟩
    have := hc i hi j u hj
    rwa [Nat.zero_add] at this
theorem row_sets (l : List Itm) (i : Nat) (hi : i < l.length) (st to off : Int) :
    (((rowC itm l).set (i * 13 + 9) (.int .i64 st)).set (i * 13 + 10) (.int .i64 to)).set (i * 13 + 11) (.int .u64 off) = rowC itm (l.set i ⟨l[i].b, st, to, off, l[i].od⟩) := by
  have e : (rowC itm (l.take i)).length = i * 13 := by rw [rowC_length itm_len, List.length_take, Nat.min_eq_left (by omega)]
  rw [rowC_split l i hi, ← e]
  have hs : ∀ (A M C : List Value) (j : Nat) (u : Value), j < M.length → (A ++ (M ++ C)).set (A.length + j) u = A ++ (M.set j u ++ C) := fun A M C j u hj => by
    rw [List.set_append_right _ _ (by omega), Nat.add_sub_cancel_left, List.set_append_left _ _ hj]
  rw [hs _ _ _ _ _ (by rw [itm_len]; decide), hs _ _ _ _ _ (by rw [List.length_set, itm_len]; decide), hs _ _ _ _ _ (by rw [List.length_set, List.length_set, itm_len]; decide)]
  have e2 : l.set i ⟨l[i].b, st, to, off, l[i].od⟩ = l.take i ++ ⟨l[i].b, st, to, off, l[i].od⟩ :: l.drop (i + 1) := by rw [List.set_eq_take_append_cons_drop, if_pos hi]
  rw [e2, rowC_append]
  rfl
theorem rowC_set_length (l : List Itm) (i : Nat) (x : Itm) : (l.set i x).length = l.length := List.length_set
def RetS (R : List Itm × Int) (w : World) (e : Ending) (w' : World) : Prop := ∃ v, e = .returned (.tuple #[v, .int .i64 R.2]) ∧ w'.ownsRow w.heap.size 67 13 v R.1.length (rowC itm R.1) ∧ Below w.heap.size w w'
theorem RetS.err {w w' : World} (c : Int) (h : Below w.heap.size w w') : RetS ([], c) w (.returned (.tuple #[.slice none 0 0, .int .i64 c])) w' := ⟨_, rfl, by simpa [rowC] using World.ownsRow_nil w' _ _ _, h⟩
theorem findS_ok {l : List Itm} {k : Id3} (h : (findS l k).2 = 0) : ∃ i, ∃ h : i < l.length, findS l k = ((i : Int), 0) ∧ bid l[i].b = k ∧ StV l := by
  rcases findS_cases l k with ⟨h1, h2⟩ | ⟨h1, h2, h3⟩ | ⟨h1, h2, h3⟩
  · rw [h2] at h; exact absurd h h1
  · rw [h3] at h; exact absurd h (by decide)
  · rcases placeS_cases l k with ⟨h4, _⟩ | ⟨i, hi, h4, h5, _⟩
    · rw [h4] at h2; exact absurd (by decide) h2
    · exact ⟨i, hi, by rw [h3, h4], h5, chkS_zero h1⟩
theorem offerS_bad {l : List Itm} {k : Id3} (to off : Int) (h : (findS l k).2 ≠ 0) : offerS l k to off = ([], (findS l k).2) := by unfold offerS; rw [if_pos h]
theorem offerS_at {l : List Itm} {k : Id3} (to off : Int) {i : Nat} (hi : i < l.length) (h : findS l k = ((i : Int), 0)) : offerS l k to off = if l[i].st ≠ 1 then ([], 12) else if to < 1 ∨ 16 < to then ([], 2) else (l.set i ⟨l[i].b, 2, to, off, l[i].od⟩, 0) := by
  unfold offerS
  rw [h, if_neg (fun h => h rfl)]
  simp only [Int.toNat_natCast]
  rw [List.getElem?_eq_getElem hi]
end Go.Proofs.YtahopnlibmiafaaDoor
namespace Go.Proofs.YtahopnlibmiafaaDoor
open Go.RowKit
theorem range_id {w : World} {b o : Nat} {x : Itm} (h : w.rangeAt b o (itm x)) : w.rangeAt b o (idL (bid x.b)) := fun j v hj => h j v (by
  have : j < 3 := (List.getElem?_eq_some_iff.1 hj).1
  match j, this with
  | 0, _ => exact hj
  | 1, _ => exact hj
  | 2, _ => exact hj)
set_option maxRecDepth 100000 in
set_option maxHeartbeats 1600000 in
theorem rfind_any (a : Option Addr) (cap : Nat) (l : List Itm) (k : Id3) (w : World) (hrow : SRow itm 13 w a cap l) :
    Calls Tryd.prog 72 #[.slice a l.length cap, .agg (idL k).toArray] w fun e w' => e = .returned (.int .i64 (placeS l k)) ∧ Below w.heap.size w w' := by
  have HR := Lib.hid hrow
  have hcap := hrow.1
  have hmax := hrow.2.1
  unfold maxLen at hmax
  clear hrow
  obtain ⟨K, hK⟩ : ∃ K, K = k := ⟨_, rfl⟩
  obtain ⟨k1, k2, k3⟩ := k
  show Calls Tryd.prog 72 #[.slice a l.length cap, .agg #[.int .i64 k1, .int .u64 k2, .int .i64 k3]] w _
  have HK : Hid ((idL K).toArray = #[.int .i64 k1, .int .u64 k2, .int .i64 k3]) := Lib.hid (by rw [hK]; rfl)
  rw [← hK]
  clear hK
  go_enter Tryd.func72, Tryd.ntmps72
  go_wp2
  have b0 : Below w.heap.size w (w.alloc (.cells #[.int .i64 k1, .int .u64 k2, .int .i64 k3] 26)) := (Below.refl _ _).alloc (Nat.le_refl _) _
  have k0 : blk (w.alloc (.cells #[.int .i64 k1, .int .u64 k2, .int .i64 k3] 26)) w.heap.size = some (idL K).toArray := by rw [HK.out]; exact blk_alloc_new _ _ _ rfl
  go_loopw [5] (fun i wr => ∃ j : Nat, i = .int .i64 j ∧ j ≤ l.length ∧ Below w.heap.size w wr ∧ Hid (blk wr w.heap.size = some (idL K).toArray ∧ ∀ i (h : i < j) (h2 : i < l.length), bid l[i].b ≠ K)) (fun i _ => l.length - (intOf i).toNat)
  case atStart => exact ⟨0, rfl, Nat.zero_le _, b0, Lib.hid ⟨k0, fun i h => absurd h (by omega)⟩⟩
  case round =>
    clear b0 k0
    obtain ⟨j, rfl, hj, hB, HM⟩ := hrel
    by_cases hlt : j < l.length
    · have hltz : (j : Int) < (l.length : Int) := by omega
      obtain ⟨b, off, hab, hbl, hcs⟩ := HR.out.2.2.2 (by omega)
      subst hab
      obtain ⟨x, hx⟩ : ∃ x, x = l[j] := ⟨_, rfl⟩
      have hr := hcs j hlt
      rw [← hx] at hr
      have hrw := range_id (range_below hbl hr hB)
      have HX := Lib.hid hx
      have bwr : b < wr.heap.size := Nat.lt_of_lt_of_le hbl hB.size
      have E := fun W => run_idKEq (bid x.b) K W
      obtain ⟨q, hq⟩ : ∃ q, decide (bid x.b = K) = q := ⟨_, rfl⟩
      rw [hq] at E
      have HQ := Lib.hid hq
      clear hx hr hcs hq
      go_wp2_with fail
      refine wp_region_in (by kernel_rfl) (by kernel_rfl) ?_
      intro W0 hE hN
      have r1 : W0.rangeAt b (off + j * 13) (idL (bid x.b)) := (by rw [hE.out]; exact hrw)
      have q1 : blk W0 w.heap.size = some (idL K).toArray := (by rw [hE.out]; exact HM.out.1)
      have r2 : W0.rangeAt w.heap.size 0 (idL K) := range_of_blk q1 0 (idL K) rfl
      have g1 : b < W0.heap.size := (by rw [hE.out]; exact bwr)
      have g2 := blk_lt q1
      have hB' : Below w.heap.size w W0 := (by rw [hE.out]; exact hB)
      clear hE hrw hB bwr
      refine wpQuiet_split 5 ?_
      simp only [List.take_succ_cons, List.take_zero, List.drop_succ_cons, List.drop_zero]
      repeat (go_big_quiet_step (fail))
      refine wpQuiet_nil ?_
      refine wpQuiet_load_range 26 (.tmp 16) b (off + j * 13) (idL (bid x.b)) (fun W hW => by obtain ⟨x', rfl⟩ := hW; exact range_below g1 r1 x'.ok) _ (by kernel_rfl) rfl (by kernel_rfl) Tryd.underlying26 rfl (by kernel_rfl) ?_
      conv => arg 6; simp [Act.put]
      refine wpQuiet_load_range 26 (.tmp 3) w.heap.size 0 (idL K) (fun W hW => by obtain ⟨x', rfl⟩ := hW; exact range_below g2 r2 x'.ok) _ (by kernel_rfl) rfl (by kernel_rfl) Tryd.underlying26 rfl (by kernel_rfl) ?_
      conv => arg 6; simp [Act.put]
      repeat (go_big_quiet_step (fail))
      refine wpQuiet_nil ?_
      rintro _ ⟨x', rfl⟩
      have hB2 := bt hB' x'.ok
      have kb2 := Lib.hid (blk_below x'.ok q1)
      obtain ⟨u, hu⟩ : ∃ u, u = x'.wd := ⟨_, rfl⟩
      rw [← hu] at hB2 kb2 ⊢
      clear hu x' hN r1 r2 g1 g2 hB' E q1
      cases q
      · go_wp2
        go_roundw
        case rel => exact ⟨j + 1, by go_num, by omega, hB2, Lib.hid ⟨kb2.out, fun i h h3 => by
          rcases Nat.lt_or_ge i j with h4 | h4
          · exact HM.out.2 i h4 h3
          · obtain rfl : i = j := by omega
            rw [← HX.out]; exact of_decide_eq_false HQ.out⟩⟩
        case measure => simp [intOf]; omega
      · have hp : placeS l K = j := placeS_some hlt (fun i hi => HM.out.2 i hi (by omega)) (by rw [← HX.out]; exact of_decide_eq_true HQ.out)
        have HP := Lib.hid hp
        clear hp
        go_wp2
        go_ret
        exact ⟨by rw [HP.out]; rfl, hB2⟩
    · obtain rfl : j = l.length := by omega
      have hp : placeS l K = -1 := placeS_none (fun i hi => HM.out.2 i hi hi)
      have HP := Lib.hid hp
      clear hp
      go_wp2
      go_ret
      exact ⟨by rw [HP.out]; rfl, hB⟩
end Go.Proofs.YtahopnlibmiafaaDoor
namespace Go.Proofs.YtahopnlibmiafaaDoor
open Go.RowKit
theorem place_mem {l : List Itm} {k : Id3} (h : k ∈ l.map (bid ·.b)) : ∃ i : Nat, placeS l k = i := by
  rcases placeS_cases l k with ⟨_, h2⟩ | ⟨i, _, h2, _⟩
  · exact absurd h h2
  · exact ⟨i, h2⟩
theorem place_not {l : List Itm} {k : Id3} (h : k ∉ l.map (bid ·.b)) : placeS l k = -1 := by
  rcases placeS_cases l k with ⟨h2, _⟩ | ⟨i, hi, _, h3, _⟩
  · exact h2
  · exact absurd (List.mem_map.2 ⟨l[i], List.getElem_mem hi, h3⟩) h
theorem take_last {l : List Itm} {k : Nat} (hk : k + 1 ≤ l.length) : (l.take (k + 1)).getLast? = some l[k] := by
  rw [List.take_succ_eq_append_getElem (by omega), List.getLast?_concat]
set_option maxRecDepth 100000 in
set_option maxHeartbeats 6400000 in
theorem rCheck_any (a : Option Addr) (cap : Nat) (l : List Itm) (hd : ∀ x ∈ l, x.b.da.size ≤ maxLen) (w : World) (hrow : SRow itm 13 w a cap l) :
    Calls Tryd.prog 29 #[.slice a l.length cap] w fun e w' => e = .returned (.tuple #[.int .i64 (chkS l).1, .int .i64 (chkS l).2]) ∧ Below w.heap.size w w' := by
  have HR := Lib.hid hrow
  have HD := Lib.hid hd
  clear hrow hd
  by_cases h0 : 1000 < l.length
  · rw [chkS_full h0]
    have t0 : decide ((1000 : Int) < (l.length : Int)) = true := decide_eq_true (by omega)
    go_enter Tryd.func29, Tryd.ntmps29
    go_wp2
    go_ret2
    exact ⟨rfl, Below.refl _ _⟩
  · have t0 : decide ((1000 : Int) < (l.length : Int)) = false := decide_eq_false (by omega)
    have hcap := HR.out.1
    have hmax := HR.out.2.1
    unfold maxLen at hmax
    go_enter Tryd.func29, Tryd.ntmps29
    go_wp2
    go_loopw [4] (fun i wr => ∃ j : Nat, i = .int .i64 j ∧ j ≤ l.length ∧ Below w.heap.size w wr ∧ Hid (∀ k < j, fltS l k = 0)) (fun i _ => l.length - (intOf i).toNat)
    case atStart => exact ⟨0, rfl, Nat.zero_le _, Below.refl _ _, Lib.hid (fun k hk => absurd hk (by omega))⟩
    case round =>
      obtain ⟨j, rfl, hj, hB, HM⟩ := hrel
      by_cases hlt : j < l.length
      · have hltz : (j : Int) < (l.length : Int) := by omega
        obtain ⟨b, off, hab, hbl, hcs⟩ := HR.out.2.2.2 (by omega)
        subst hab
        obtain ⟨x, hx⟩ : ∃ x, x = l[j] := ⟨_, rfl⟩
        have hr := hcs j hlt
        rw [← hx] at hr
        have HC := Lib.hid hcs
        have HX := Lib.hid hx
        have HG := Lib.hid hr
        clear hx hcs
        have hrw := range_below hbl hr hB
        clear hr
        have bwr : b < wr.heap.size := Nat.lt_of_lt_of_le hbl hB.size
        go_upto_region 6 with fail
        refine wp_region_tail0 3 ?_
        intro W0 hE hN
        have hrW : W0.rangeAt b (off + j * 13) (itm x) := (by rw [hE.out]; exact hrw)
        have hBW : Below w.heap.size w W0 := (by rw [hE.out]; exact hB)
        have bW : b < W0.heap.size := (by rw [hE.out]; exact bwr)
        clear hE hrw hB bwr
        simp only [List.take_succ_cons, List.take_zero, List.drop_succ_cons, List.drop_zero]
        repeat (go_big_quiet_step (fail))
        refine wpQuiet_nil ?_
        rintro _ ⟨x', rfl⟩
        have hr1 := range_below bW hrW x'.ok
        have hB1 := bt hBW x'.ok
        obtain ⟨u, hu⟩ : ∃ u, u = x'.wd := ⟨_, rfl⟩
        rw [← hu] at hr1 hB1 ⊢
        clear hu x' hN hrW hBW bW
        have g1 := one_any x (by rw [HX.out]; exact HD.out _ (List.getElem_mem _)) u
        have g1 : Calls Tryd.prog 71 #[.agg (itm x).toArray] u fun e w' => e = .returned (.int .i64 (itE x)) ∧ Below u.heap.size u w' := g1
        have hF := itF_ok (x := x) (p := l.take j)
        have hb := itF_bad (x := x) (p := l.take j)
        have hf : itF x (l.take j) = fltS l j := by rw [fltS_at hlt, HX.out]
        obtain ⟨v, hv⟩ : ∃ v, itE x = v := ⟨_, rfl⟩
        rw [hv] at g1 hF hb
        rw [hf] at hF hb
        replace g1 := Lib.hid g1
        have HF := Lib.hid hF
        clear hv hf hF
        refine wpList_load_mid rfl 67 (.tmp 17) rfl b (off + j * 13) rfl (itm x) _ hr1 Tryd.underlying67 rfl (by kernel_rfl) ?_
        conv => arg 5; simp [Act.put]
        clear hr1
        by_cases hv0 : v = 0
        · subst hv0
          have q0 : ((0 : Int) != 0) = false := rfl
          go_wp2_with (go_at_call 71; (with_reducible refine (g1.out).mono ?_); rintro e w2 ⟨rfl, h2⟩)
          have hB2 := bt hB1 h2
          have hF := HF.out (by first | rfl | trivial)
          clear hB1 h2 g1 hb HF
          rcases hF with ⟨hp, hf⟩ | ⟨y, hy, hF⟩
          · obtain rfl : j = 0 := by
              have := congrArg List.length hp
              simp at this
              rcases this with h | h
              · exact h
              · subst h; simp at hlt
            have hun : undef = Value.tuple #[] := rfl
            refine wp_region_in (by kernel_rfl) (by kernel_rfl) ?_
            intro W0 hE hN
            have qB : Below w.heap.size w W0 := (by rw [hE.out]; exact hB2)
            clear hE hB2
            repeat (go_big_quiet_step (fail))
            refine wpQuiet_nil ?_
            rintro _ ⟨x', rfl⟩
            have hB2 := bt qB x'.ok
            obtain ⟨u2, hu⟩ : ∃ u, u = x'.wd := ⟨_, rfl⟩
            rw [← hu] at hB2 ⊢
            clear hu x' hN qB
            go_wp2_with fail
            refine wp_region_in (by kernel_rfl) (by kernel_rfl) ?_
            intro W0 hE hN
            have qB : Below w.heap.size w W0 := (by rw [hE.out]; exact hB2)
            have r1 : W0.rangeAt b (off + 0 * 13) (idL (bid x.b)) := range_id (range_below hbl HG.out qB)
            have gl : b < W0.heap.size := Nat.lt_of_lt_of_le hbl qB.size
            clear hE hB2
            obtain ⟨pv, hpv⟩ : ∃ p : Int, p = -1 := ⟨_, rfl⟩
            have HP : Hid (placeS (l.take 0) (bid x.b) = pv) := Lib.hid (by rw [hpv]; rfl)
            have g : ∀ X : Class (Calm W0), Calls Tryd.prog 72 #[.slice (some ⟨b, off, none⟩) 0 cap, .agg (idL (bid x.b)).toArray] X.wd fun e w' => e = .returned (.int .i64 pv) ∧ Below X.wd.heap.size X.wd w' := fun X => by
              have ht := (HR.out.below (qB.trans (X.ok.mono qB.size))).take (i := 0) (by omega)
              have := rfind_any (some ⟨b, off, none⟩) cap (l.take 0) (bid x.b) X.wd ht.2
              rw [ht.1, HP.out] at this
              exact this
            have G := Lib.hid g
            clear g
            have s1 : (0 : Nat) ≤ cap := by omega
            have tq : decide ((0 : Int) ≤ pv) = false := decide_eq_false (by omega)
            clear hpv
            refine wpQuiet_split 8 ?_
            simp only [List.take_succ_cons, List.take_zero, List.drop_succ_cons, List.drop_zero]
            repeat (go_big_quiet_step (fail))
            refine wpQuiet_nil ?_
            refine wpQuiet_load_range 26 (.tmp 51) b (off + 0 * 13) (idL (bid x.b)) (fun W hW => by obtain ⟨x', rfl⟩ := hW; exact range_below gl r1 x'.ok) _ (by kernel_rfl) rfl (by kernel_rfl) Tryd.underlying26 rfl (by kernel_rfl) ?_
            conv => arg 6; simp [Act.put]
            repeat (go_big_quiet_step ((go_at_call 72; (with_reducible refine Class.go _ (G.out _)))))
            refine wpQuiet_nil ?_
            rintro _ ⟨x', rfl⟩
            have hB3 := bt qB x'.ok
            obtain ⟨u3, hu⟩ : ∃ u, u = x'.wd := ⟨_, rfl⟩
            rw [← hu] at hB3 ⊢
            clear hu x' hN qB r1 gl G tq s1
            have hf2 : Hid (∀ k < 0 + 1, fltS l k = 0) := Lib.hid (fun k hk => by
              rcases Nat.lt_or_ge k (0) with h | h
              · exact HM.out k h
              · obtain rfl : k = 0 := by omega
                exact hf)
            go_wp2
            go_roundw
            case rel => exact ⟨0 + 1, by go_num, by omega, hB3, hf2⟩
            case measure => simp [intOf]; omega
          · obtain ⟨k, rfl⟩ : ∃ k, j = k + 1 := ⟨j - 1, by
              rcases Nat.eq_zero_or_pos j with h | h
              · subst h; simp at hy
              · omega⟩
            have hyk : y = l[k] := by
              rw [take_last (by omega)] at hy
              exact (Option.some.inj hy).symm
            have gx : w.cell? ⟨b, off + (k + 1) * 13 + 12, none⟩ = some (.int .i64 x.od) := HG.out 12 _ rfl
            have gy : w.cell? ⟨b, off + k * 13 + 12, none⟩ = some (.int .i64 y.od) := by rw [hyk]; exact HC.out k (by omega) 12 _ rfl
            have HY := Lib.hid hy
            clear hyk hy HX
            have m1 : IntKind.i64.wrap (((k + 1 : Nat) : Int) - 1) = k := (IntWalk.i64_in _ (by omega)).trans (by omega)
            have l0 : decide ((0 : Int) < ((k + 1 : Nat) : Int)) = true := decide_eq_true (by omega)
            have l1 : decide (0 < k + 1) = true := decide_eq_true (by omega)
            have l2 : (k : Int) < (l.length : Int) := by omega
            obtain ⟨n, hn⟩ : ∃ n, n = k + 1 := ⟨_, rfl⟩
            rw [← hn] at l0 l1 m1 gx HG HM hlt hltz hj hF HY ⊢
            have HN := Lib.hid hn
            clear hn
            have hun : undef = Value.tuple #[] := rfl
            rcases hF with ⟨h5, hf⟩ | ⟨h5, hF⟩
            · have l5 : decide (x.od ≤ y.od) = true := decide_eq_true h5
              refine wp_region_in (by kernel_rfl) (by kernel_rfl) ?_
              intro W0 hE hN
              have qB : Below w.heap.size w W0 := (by rw [hE.out]; exact hB2)
              clear hE hB2
              have n1 : ∀ X : Class (Calm W0), X.wd.cell? ⟨b, off + n * 13 + 12, none⟩ = some (.int .i64 x.od) := fun X => ((qB.trans (X.ok.mono qB.size)).cell (p := ⟨b, off + n * 13 + 12, none⟩) hbl).trans gx
              have n2 : ∀ X : Class (Calm W0), X.wd.cell? ⟨b, off + k * 13 + 12, none⟩ = some (.int .i64 y.od) := fun X => ((qB.trans (X.ok.mono qB.size)).cell (p := ⟨b, off + k * 13 + 12, none⟩) hbl).trans gy
              repeat (go_big_quiet_step (fail))
              refine wpQuiet_nil ?_
              rintro _ ⟨x', rfl⟩
              have hB2 := bt qB x'.ok
              obtain ⟨u2, hu⟩ : ∃ u, u = x'.wd := ⟨_, rfl⟩
              rw [← hu] at hB2 ⊢
              clear hu x' hN qB n1 n2
              have hr : chkS l = (19, n) := by rw [chkS_bad (by omega) hlt HM.out (by rw [hf]; decide), hf]
              have HH := Lib.hid hr
              clear hr
              go_wp2
              go_ret2
              exact ⟨by rw [HH.out]; rfl, hB2⟩
            · have l5 : decide (x.od ≤ y.od) = false := decide_eq_false (by omega)
              refine wp_region_in (by kernel_rfl) (by kernel_rfl) ?_
              intro W0 hE hN
              have qB : Below w.heap.size w W0 := (by rw [hE.out]; exact hB2)
              clear hE hB2
              have n1 : ∀ X : Class (Calm W0), X.wd.cell? ⟨b, off + n * 13 + 12, none⟩ = some (.int .i64 x.od) := fun X => ((qB.trans (X.ok.mono qB.size)).cell (p := ⟨b, off + n * 13 + 12, none⟩) hbl).trans gx
              have n2 : ∀ X : Class (Calm W0), X.wd.cell? ⟨b, off + k * 13 + 12, none⟩ = some (.int .i64 y.od) := fun X => ((qB.trans (X.ok.mono qB.size)).cell (p := ⟨b, off + k * 13 + 12, none⟩) hbl).trans gy
              repeat (go_big_quiet_step (fail))
              refine wpQuiet_nil ?_
              rintro _ ⟨x', rfl⟩
              have hB2 := bt qB x'.ok
              obtain ⟨u2, hu⟩ : ∃ u, u = x'.wd := ⟨_, rfl⟩
              rw [← hu] at hB2 ⊢
              clear hu x' hN qB n1 n2 l5 gx gy l0 l1 m1 l2
              rcases hF with ⟨h6, hf⟩ | ⟨h6, hf⟩
              · go_wp2_with fail
                refine wp_region_in (by kernel_rfl) (by kernel_rfl) ?_
                intro W0 hE hN
                have qB : Below w.heap.size w W0 := (by rw [hE.out]; exact hB2)
                have r1 : W0.rangeAt b (off + n * 13) (idL (bid x.b)) := range_id (range_below hbl HG.out qB)
                have gl : b < W0.heap.size := Nat.lt_of_lt_of_le hbl qB.size
                clear hE hB2
                obtain ⟨pi, hpi⟩ := place_mem h6
                obtain ⟨pv, hpv⟩ : ∃ p : Int, p = pi := ⟨_, rfl⟩
                have HP : Hid (placeS (l.take n) (bid x.b) = pv) := Lib.hid (by rw [hpv]; exact hpi)
                clear hpi
                have g : ∀ X : Class (Calm W0), Calls Tryd.prog 72 #[.slice (some ⟨b, off, none⟩) n cap, .agg (idL (bid x.b)).toArray] X.wd fun e w' => e = .returned (.int .i64 pv) ∧ Below X.wd.heap.size X.wd w' := fun X => by
                  have ht := (HR.out.below (qB.trans (X.ok.mono qB.size))).take (i := n) (by omega)
                  have := rfind_any (some ⟨b, off, none⟩) cap (l.take n) (bid x.b) X.wd ht.2
                  rw [ht.1, HP.out] at this
                  exact this
                have G := Lib.hid g
                clear g
                have s1 : (n : Nat) ≤ cap := by omega
                have tq : decide ((0 : Int) ≤ pv) = true := decide_eq_true (by omega)
                clear hpv
                refine wpQuiet_split 8 ?_
                simp only [List.take_succ_cons, List.take_zero, List.drop_succ_cons, List.drop_zero]
                repeat (go_big_quiet_step (fail))
                refine wpQuiet_nil ?_
                refine wpQuiet_load_range 26 (.tmp 51) b (off + n * 13) (idL (bid x.b)) (fun W hW => by obtain ⟨x', rfl⟩ := hW; exact range_below gl r1 x'.ok) _ (by kernel_rfl) rfl (by kernel_rfl) Tryd.underlying26 rfl (by kernel_rfl) ?_
                conv => arg 6; simp [Act.put]
                repeat (go_big_quiet_step ((go_at_call 72; (with_reducible refine Class.go _ (G.out _)))))
                refine wpQuiet_nil ?_
                rintro _ ⟨x', rfl⟩
                have hB3 := bt qB x'.ok
                obtain ⟨u3, hu⟩ : ∃ u, u = x'.wd := ⟨_, rfl⟩
                rw [← hu] at hB3 ⊢
                clear hu x' hN qB r1 gl G tq s1
                have hr : chkS l = (9, n) := by rw [chkS_bad (by omega) hlt HM.out (by rw [hf]; decide), hf]
                have HH := Lib.hid hr
                clear hr
                go_wp2
                go_ret2
                exact ⟨by rw [HH.out]; rfl, hB3⟩
              · go_wp2_with fail
                refine wp_region_in (by kernel_rfl) (by kernel_rfl) ?_
                intro W0 hE hN
                have qB : Below w.heap.size w W0 := (by rw [hE.out]; exact hB2)
                have r1 : W0.rangeAt b (off + n * 13) (idL (bid x.b)) := range_id (range_below hbl HG.out qB)
                have gl : b < W0.heap.size := Nat.lt_of_lt_of_le hbl qB.size
                clear hE hB2
                obtain ⟨pv, hpv⟩ : ∃ p : Int, p = -1 := ⟨_, rfl⟩
                have HP : Hid (placeS (l.take n) (bid x.b) = pv) := Lib.hid (by rw [hpv]; exact place_not h6)
                have g : ∀ X : Class (Calm W0), Calls Tryd.prog 72 #[.slice (some ⟨b, off, none⟩) n cap, .agg (idL (bid x.b)).toArray] X.wd fun e w' => e = .returned (.int .i64 pv) ∧ Below X.wd.heap.size X.wd w' := fun X => by
                  have ht := (HR.out.below (qB.trans (X.ok.mono qB.size))).take (i := n) (by omega)
                  have := rfind_any (some ⟨b, off, none⟩) cap (l.take n) (bid x.b) X.wd ht.2
                  rw [ht.1, HP.out] at this
                  exact this
                have G := Lib.hid g
                clear g
                have s1 : (n : Nat) ≤ cap := by omega
                have tq : decide ((0 : Int) ≤ pv) = false := decide_eq_false (by omega)
                clear hpv
                refine wpQuiet_split 8 ?_
                simp only [List.take_succ_cons, List.take_zero, List.drop_succ_cons, List.drop_zero]
                repeat (go_big_quiet_step (fail))
                refine wpQuiet_nil ?_
                refine wpQuiet_load_range 26 (.tmp 51) b (off + n * 13) (idL (bid x.b)) (fun W hW => by obtain ⟨x', rfl⟩ := hW; exact range_below gl r1 x'.ok) _ (by kernel_rfl) rfl (by kernel_rfl) Tryd.underlying26 rfl (by kernel_rfl) ?_
                conv => arg 6; simp [Act.put]
                repeat (go_big_quiet_step ((go_at_call 72; (with_reducible refine Class.go _ (G.out _)))))
                refine wpQuiet_nil ?_
                rintro _ ⟨x', rfl⟩
                have hB3 := bt qB x'.ok
                obtain ⟨u3, hu⟩ : ∃ u, u = x'.wd := ⟨_, rfl⟩
                rw [← hu] at hB3 ⊢
                clear hu x' hN qB r1 gl G tq s1
                have hn := HN.out
                have hf2 : Hid (∀ k < n + 1, fltS l k = 0) := Lib.hid (fun k hk => by
                  rcases Nat.lt_or_ge k (n) with h | h
                  · exact HM.out k h
                  · obtain rfl : k = n := by omega
                    exact hf)
                go_wp2
                go_roundw
                case rel => exact ⟨n + 1, by go_num, by omega, hB3, hf2⟩
                case measure => simp [intOf]; omega
        · have q0 : (v != 0) = true := by simpa using hv0
          have hf := hb hv0
          have hr : chkS l = (v, j) := by rw [chkS_bad (by omega) hlt HM.out (by rw [hf]; exact hv0), hf]
          have HH := Lib.hid hr
          clear hr hf hb HF
          go_wp2_with (go_at_call 71; (with_reducible refine (g1.out).mono ?_); rintro e w2 ⟨rfl, h2⟩)
          go_ret2
          exact ⟨by rw [HH.out]; rfl, bt hB1 h2⟩
      · obtain rfl : j = l.length := by omega
        have hr : chkS l = (0, 0) := chkS_ok (by omega) HM.out
        have HH := Lib.hid hr
        clear hr
        go_wp2
        go_ret2
        exact ⟨by rw [HH.out]; rfl, hB⟩
end Go.Proofs.YtahopnlibmiafaaDoor
