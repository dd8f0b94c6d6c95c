/- Parts of a proof, printed by a program of mine out of my texts: RpOwn, RpWith, RpKin. -/
import Derived.Test.YthfmkkkdjgkaoaaGreatDoorME
import Derived.Test.YthfmkkkdjgkaoaaGreatDoorMF
import Derived.Test.YthfmkkkdjgkaoaaGreatDoorMG
import Derived.Test.YthfmkkkdjgkaoaaGreatDoorMM
import Derived.Test.YthfmkkkdjgkaoaaGreatDoorMU
set_option linter.unusedSimpArgs false
set_option linter.unusedVariables false
namespace Go.Proofs.YthfmkkkdjgkaoaaGreatDoor
open Go.RowKit
def OwnR {α : Type} (enc : α → List Value) (k : Nat) (t : TypeId) (l : List α) (w : World) (e : Ending) (w' : World) : Prop := ∃ v, e = .returned v ∧ w'.ownsRow w.heap.size t k v l.length (rowC enc l) ∧ Below w.heap.size w w'
theorem infoBu2 : (Tryz.prog.info? 54).map (fun i => (i.zero, i.size, i.bytes)) = some (some (.agg #[.int .i64 0, .int .u64 0, .int .i64 0, .int .i64 0, .int .i64 0, .int .i64 0, .int .i64 0, .int .i64 0, .string ⟨#[]⟩]), 9, 80) := by kernel_rfl
theorem rowBu2_one_cell (l : List Bn) : ∀ u ∈ rowC bn l, u.oneCell' = true := by
  intro u hu
  simp only [rowC, List.mem_flatMap] at hu
  obtain ⟨x, _, hx⟩ := hu
  exact bn_one x u hx
theorem srow_cellsBu2 {w : World} {a : Option Addr} {cap : Nat} {l : List Bn} (h : SRow bn 9 w a cap l) (h0 : 0 < l.length) : ∃ b off, a = some ⟨b, off, none⟩ ∧ b < w.heap.size ∧ ∀ j u, (rowC bn l)[j]? = some u → w.cell? ⟨b, off + j, none⟩ = some u := by
  obtain ⟨b, off, e, hlt, hc⟩ := h.2.2.2 h0
  refine ⟨b, off, e, hlt, fun j u hj => ?_⟩
  have hjl : j < l.length * 9 := by
    have := (List.getElem?_eq_some_iff.1 hj).1
    rwa [rowC_length bn_len] at this
  have hi : j / 9 < l.length := by omega
  have h2 := rowC_cell bn_len l (j / 9) (j % 9) hi (by omega) []
  rw [List.append_nil, show j / 9 * 9 + j % 9 = j by omega, hj] at h2
  have := hc (j / 9) hi (j % 9) u h2.symm
  rwa [show off + j / 9 * 9 + j % 9 = off + j by omega] at this
theorem own_emptyBu2 (w : World) (e : TypeId) : (w.alloc (.cells #[] e)).ownsRow w.heap.size e 9 (.slice (some ⟨w.heap.size, 0, none⟩) 0 0) 0 [] :=
  ⟨rfl, .inr ⟨w.heap.size, 0, #[], rfl, Nat.le_refl _, heap_alloc_new w _, Nat.le_refl _, by unfold maxLen; omega, rfl, rfl⟩⟩
theorem nilEBu2 (ad : Addr) (n c : Nat) (w : World) : Sem.run Tryz.prog (binOp BinOp.eql 22 (.slice (some ad) n c) (.slice none 0 0)) w = .ok (.bool false) w := by kernel_rfl
theorem nilZBu2 (w : World) : Sem.run Tryz.prog (binOp BinOp.eql 22 (.slice none 0 0) (.slice none 0 0)) w = .ok (.bool true) w := by kernel_rfl
set_option maxRecDepth 100000 in
set_option maxHeartbeats 1600000 in
theorem cloneBL_any (a : Option Addr) (cap : Nat) (l : List Bn) (hl : l.length ≤ 100000) (h0 : 0 < l.length) (w : World) (hrow : SRow bn 9 w a cap l) :
    Calls Tryz.prog 87 #[.slice a l.length cap] w fun e w' => OwnR bn 9 54 l w e w' := by
  obtain ⟨b, off, rfl, hlt, hc⟩ := srow_cellsBu2 hrow h0
  have HC := Lib.hid hc
  obtain ⟨i0, hi, hz0, hz1, hz2⟩ := info_parts infoBu2
  have Hi := Lib.hid hi; have Hz0 := Lib.hid hz0; have Hz1 := Lib.hid hz1; have Hz2 := Lib.hid hz2
  clear hi hz0 hz1 hz2
  clear hc hrow
  have ne := nilEBu2
  have ne0 := nilZBu2
  go_enter Tryz.func87, Tryz.ntmps87
  go_wp2_with (at_builtin; refine wpList_append_own _ rfl _ _ 22 rfl w.heap.size 54 i0 (.agg #[.int .i64 0, .int .u64 0, .int .i64 0, .int .i64 0, .int .i64 0, .int .i64 0, .int .i64 0, .int .i64 0, .string ⟨#[]⟩]) 9 80 Tryz.underlying22 Hi.out Hz0.out Hz1.out Hz2.out rfl (by decide) _ 0 [] rfl (own_emptyBu2 w _) ⟨b, off, none⟩ l.length cap (rowC bn l) rfl (rowC_length bn_len l) (fun j u hj => (by rw [Addr.add_mid, ((Below.refl w.heap.size w).alloc (Nat.le_refl _) _).cell (p := ⟨b, off + j, none⟩) hlt]; exact HC.out j u hj)) (rowBu2_one_cell l) (by unfold maxLen; omega) (by omega) (by simp) ?_; intro v' wb hown2 hgrow2 _)
  go_ret
  refine ⟨_, rfl, ?_, ?_⟩
  · simpa [rowC] using hown2
  · exact ((Below.refl _ _).alloc (Nat.le_refl _) _).grown hgrow2 (by simp) (fun k e => (own_emptyBu2 w 54).lt k e |>.1)
set_option maxRecDepth 100000 in
set_option maxHeartbeats 1600000 in
theorem cloneBN_any (a : Option Addr) (cap : Nat) (hn : a = none → cap = 0) (w : World) :
    Calls Tryz.prog 87 #[.slice a 0 cap] w fun e w' => OwnR bn 9 54 [] w e w' := by
  obtain ⟨i0, hi, hz0, hz1, hz2⟩ := info_parts infoBu2
  have Hi := Lib.hid hi; have Hz0 := Lib.hid hz0; have Hz1 := Lib.hid hz1; have Hz2 := Lib.hid hz2
  clear hi hz0 hz1 hz2
  cases a with
  | none =>
    obtain rfl := hn rfl
    clear hn
    have ne := nilEBu2
    have ne0 := nilZBu2
    go_enter Tryz.func87, Tryz.ntmps87
    go_wp2
    go_ret
    exact ⟨_, rfl, by simpa [rowC] using World.ownsRow_nil w _ _ _, Below.refl _ _⟩
  | some ad =>
    clear hn
    have ne := nilEBu2
    have ne0 := nilZBu2
    go_enter Tryz.func87, Tryz.ntmps87
    go_wp2_with (at_builtin; refine wpList_append_own _ rfl _ _ 22 rfl w.heap.size 54 i0 (.agg #[.int .i64 0, .int .u64 0, .int .i64 0, .int .i64 0, .int .i64 0, .int .i64 0, .int .i64 0, .int .i64 0, .string ⟨#[]⟩]) 9 80 Tryz.underlying22 Hi.out Hz0.out Hz1.out Hz2.out rfl (by decide) _ 0 [] rfl (own_emptyBu2 w _) ad 0 cap [] rfl rfl (fun j u hj => by simp at hj) (by simp) (by unfold maxLen; omega) (by omega) (by simp) ?_; intro v' wb hown2 hgrow2 _)
    go_ret
    refine ⟨_, rfl, ?_, ?_⟩
    · simpa [rowC] using hown2
    · exact ((Below.refl _ _).alloc (Nat.le_refl _) _).grown hgrow2 (by simp) (fun k e => (own_emptyBu2 w 54).lt k e |>.1)
theorem cloneB_any (a : Option Addr) (cap : Nat) (l : List Bn) (hl : l.length ≤ 100000) (w : World) (hrow : SRow bn 9 w a cap l) :
    Calls Tryz.prog 87 #[.slice a l.length cap] w fun e w' => OwnR bn 9 54 l w e w' := by
  rcases Nat.eq_zero_or_pos l.length with h | h
  · obtain rfl := List.length_eq_zero_iff.1 h
    exact cloneBN_any a cap hrow.2.2.1 w
  · exact cloneBL_any a cap l hl h w hrow
theorem infoOc : (Tryz.prog.info? 56).map (fun i => (i.zero, i.size, i.bytes)) = some (some (.agg #[.int .i64 0, .int .i64 0, .int .i64 0, .int .i64 0, .int .u64 0, .int .i64 0, .int .i64 0]), 7, 56) := by kernel_rfl
theorem infoIn : (Tryz.prog.info? 3).map (fun i => (i.zero, i.size, i.bytes)) = some (some (.int .i64 0), 1, 8) := by kernel_rfl
theorem rowIn_one_cell (l : List Int) : ∀ u ∈ rowC ic l, u.oneCell' = true := by
  intro u hu
  simp only [rowC, List.mem_flatMap] at hu
  obtain ⟨x, _, hx⟩ := hu
  exact ic_one x u hx
theorem srow_cellsIn {w : World} {a : Option Addr} {cap : Nat} {l : List Int} (h : SRow ic 1 w a cap l) (h0 : 0 < l.length) : ∃ b off, a = some ⟨b, off, none⟩ ∧ b < w.heap.size ∧ ∀ j u, (rowC ic l)[j]? = some u → w.cell? ⟨b, off + j, none⟩ = some u := by
  obtain ⟨b, off, e, hlt, hc⟩ := h.2.2.2 h0
  refine ⟨b, off, e, hlt, fun j u hj => ?_⟩
  have hjl : j < l.length * 1 := by
    have := (List.getElem?_eq_some_iff.1 hj).1
    rwa [rowC_length ic_len] at this
  have hi : j / 1 < l.length := by omega
  have h2 := rowC_cell ic_len l (j / 1) (j % 1) hi (by omega) []
  rw [List.append_nil, show j / 1 * 1 + j % 1 = j by omega, hj] at h2
  have := hc (j / 1) hi (j % 1) u h2.symm
  rwa [show off + j / 1 * 1 + j % 1 = off + j by omega] at this
theorem own_emptyIn (w : World) (e : TypeId) : (w.alloc (.cells #[] e)).ownsRow w.heap.size e 1 (.slice (some ⟨w.heap.size, 0, none⟩) 0 0) 0 [] :=
  ⟨rfl, .inr ⟨w.heap.size, 0, #[], rfl, Nat.le_refl _, heap_alloc_new w _, Nat.le_refl _, by unfold maxLen; omega, rfl, rfl⟩⟩
theorem nilEIn (ad : Addr) (n c : Nat) (w : World) : Sem.run Tryz.prog (binOp BinOp.eql 45 (.slice (some ad) n c) (.slice none 0 0)) w = .ok (.bool false) w := by kernel_rfl
theorem nilZIn (w : World) : Sem.run Tryz.prog (binOp BinOp.eql 45 (.slice none 0 0) (.slice none 0 0)) w = .ok (.bool true) w := by kernel_rfl
set_option maxRecDepth 100000 in
set_option maxHeartbeats 1600000 in
theorem cloneIL_any (a : Option Addr) (cap : Nat) (l : List Int) (hl : l.length ≤ 100000) (h0 : 0 < l.length) (w : World) (hrow : SRow ic 1 w a cap l) :
    Calls Tryz.prog 66 #[.slice a l.length cap] w fun e w' => OwnR ic 1 3 l w e w' := by
  obtain ⟨b, off, rfl, hlt, hc⟩ := srow_cellsIn hrow h0
  have HC := Lib.hid hc
  obtain ⟨i0, hi, hz0, hz1, hz2⟩ := info_parts infoIn
  have Hi := Lib.hid hi; have Hz0 := Lib.hid hz0; have Hz1 := Lib.hid hz1; have Hz2 := Lib.hid hz2
  clear hi hz0 hz1 hz2
  clear hc hrow
  have ne := nilEIn
  have ne0 := nilZIn
  go_enter Tryz.func66, Tryz.ntmps66
  go_wp2_with (at_builtin; refine wpList_append_own _ rfl _ _ 45 rfl w.heap.size 3 i0 (.int .i64 0) 1 8 Tryz.underlying45 Hi.out Hz0.out Hz1.out Hz2.out rfl (by decide) _ 0 [] rfl (own_emptyIn w _) ⟨b, off, none⟩ l.length cap (rowC ic l) rfl (rowC_length ic_len l) (fun j u hj => (by rw [Addr.add_mid, ((Below.refl w.heap.size w).alloc (Nat.le_refl _) _).cell (p := ⟨b, off + j, none⟩) hlt]; exact HC.out j u hj)) (rowIn_one_cell l) (by unfold maxLen; omega) (by omega) (by simp) ?_; intro v' wb hown2 hgrow2 _)
  go_ret
  refine ⟨_, rfl, ?_, ?_⟩
  · simpa [rowC] using hown2
  · exact ((Below.refl _ _).alloc (Nat.le_refl _) _).grown hgrow2 (by simp) (fun k e => (own_emptyIn w 3).lt k e |>.1)
set_option maxRecDepth 100000 in
set_option maxHeartbeats 1600000 in
theorem cloneIN_any (a : Option Addr) (cap : Nat) (hn : a = none → cap = 0) (w : World) :
    Calls Tryz.prog 66 #[.slice a 0 cap] w fun e w' => OwnR ic 1 3 [] w e w' := by
  obtain ⟨i0, hi, hz0, hz1, hz2⟩ := info_parts infoIn
  have Hi := Lib.hid hi; have Hz0 := Lib.hid hz0; have Hz1 := Lib.hid hz1; have Hz2 := Lib.hid hz2
  clear hi hz0 hz1 hz2
  cases a with
  | none =>
    obtain rfl := hn rfl
    clear hn
    have ne := nilEIn
    have ne0 := nilZIn
    go_enter Tryz.func66, Tryz.ntmps66
    go_wp2
    go_ret
    exact ⟨_, rfl, by simpa [rowC] using World.ownsRow_nil w _ _ _, Below.refl _ _⟩
  | some ad =>
    clear hn
    have ne := nilEIn
    have ne0 := nilZIn
    go_enter Tryz.func66, Tryz.ntmps66
    go_wp2_with (at_builtin; refine wpList_append_own _ rfl _ _ 45 rfl w.heap.size 3 i0 (.int .i64 0) 1 8 Tryz.underlying45 Hi.out Hz0.out Hz1.out Hz2.out rfl (by decide) _ 0 [] rfl (own_emptyIn w _) ad 0 cap [] rfl rfl (fun j u hj => by simp at hj) (by simp) (by unfold maxLen; omega) (by omega) (by simp) ?_; intro v' wb hown2 hgrow2 _)
    go_ret
    refine ⟨_, rfl, ?_, ?_⟩
    · simpa [rowC] using hown2
    · exact ((Below.refl _ _).alloc (Nat.le_refl _) _).grown hgrow2 (by simp) (fun k e => (own_emptyIn w 3).lt k e |>.1)
theorem cloneI_any (a : Option Addr) (cap : Nat) (l : List Int) (hl : l.length ≤ 100000) (w : World) (hrow : SRow ic 1 w a cap l) :
    Calls Tryz.prog 66 #[.slice a l.length cap] w fun e w' => OwnR ic 1 3 l w e w' := by
  rcases Nat.eq_zero_or_pos l.length with h | h
  · obtain rfl := List.length_eq_zero_iff.1 h
    exact cloneIN_any a cap hrow.2.2.1 w
  · exact cloneIL_any a cap l hl h w hrow
end Go.Proofs.YthfmkkkdjgkaoaaGreatDoor
namespace Go.Proofs.YthfmkkkdjgkaoaaGreatDoor
open Go.RowKit
set_option maxRecDepth 100000 in
theorem withF_any (x : Bn) (prio : Int) (c : Nat) (w : World) (hc : blk w c = some #[.int .i64 prio]) : Calls Tryz.prog 88 #[.agg #[.int .i64 x.no, .int .u64 x.sq, .int .i64 x.of, .int .i64 x.de, .int .i64 x.pr, .int .i64 x.bo, .int .i64 x.li, .int .i64 x.to, .string x.da], .pointer (some ⟨c, 0, none⟩)] w fun e w' => e = .returned (.bool (!inP prio x)) ∧ Below w.heap.size w w' := by
  have nk := kn hc
  clear hc
  by_cases h : 0 ≤ prio
  · have e : (!inP prio x) = (x.pr != prio) := by
      have : ¬ prio < 0 := by omega
      simp [inP, this, bne]
      rfl
    rw [e]
    have t1 : decide (0 ≤ prio) = true := decide_eq_true h
    clear e
    go_enter Tryz.func88, Tryz.ntmps88
    go_wp2
    go_ret
    exact ⟨rfl, by (repeat (first | (with_reducible assumption) | (with_reducible exact Below.refl _ _) | (with_reducible refine beld_drew ?_) | ((with_reducible refine bset' ?_ ?_); (first | (focus (dsimp only; assumption)) | (focus (simp; done)) | (focus (dsimp only; omega)))) | (with_reducible refine belt_alloc ?_) | ((with_reducible refine zeroed_below' ?_ ?_); (first | (focus (simp; done)) | (focus (dsimp only; omega)))) | (with_reducible refine bt ?_ (by assumption))))⟩
  · have e : (!inP prio x) = false := by
      have : prio < 0 := by omega
      simp [inP, this]
    rw [e]
    have t1 : decide (0 ≤ prio) = false := decide_eq_false h
    clear e
    go_enter Tryz.func88, Tryz.ntmps88
    go_wp2
    go_ret
    exact ⟨rfl, by (repeat (first | (with_reducible assumption) | (with_reducible exact Below.refl _ _) | (with_reducible refine beld_drew ?_) | ((with_reducible refine bset' ?_ ?_); (first | (focus (dsimp only; assumption)) | (focus (simp; done)) | (focus (dsimp only; omega)))) | (with_reducible refine belt_alloc ?_) | ((with_reducible refine zeroed_below' ?_ ?_); (first | (focus (simp; done)) | (focus (dsimp only; omega)))) | (with_reducible refine bt ?_ (by assumption))))⟩
def idxB {α : Type} (p : α → Bool) (l : List α) : Int := (l.findIdx? p).elim (-1) fun i => (i : Int)
theorem idxB_some {α : Type} {p : α → Bool} {l : List α} {i : Nat} (hi : i < l.length) (h : ∀ j (hj : j < i), p (l[j]'(by omega)) = false) (hk : p l[i] = true) : idxB p l = i := by
  unfold idxB
  have : l.findIdx? p = some i := by
    rw [List.findIdx?_eq_some_iff_getElem]
    exact ⟨hi, hk, fun j hj => by simp [h j hj]⟩
  rw [this]; rfl
theorem idxB_none {α : Type} {p : α → Bool} {l : List α} (h : ∀ j (h : j < l.length), p l[j] = false) : idxB p l = -1 := by
  unfold idxB
  rw [List.findIdx?_eq_none_iff.2 (fun x hx => by
    obtain ⟨j, hj, rfl⟩ := List.getElem_of_mem hx
    simp [h j hj])]
  rfl
set_option maxRecDepth 100000 in
set_option maxHeartbeats 1600000 in
theorem indexW_any (a : Option Addr) (cap : Nat) (l : List Bn) (prio : Int) (c : Nat) (w : World) (hrow : SRow bn 9 w a cap l) (hk : blk w c = some #[.int .i64 prio]) :
    Calls Tryz.prog 104 #[.slice a l.length cap, .func (.func 88) #[] #[.pointer (some ⟨c, 0, none⟩)]] w fun e w' => e = .returned (.int .i64 (idxB (fun x => !inP prio x) l)) ∧ Below w.heap.size w w' := by
  have HR := Lib.hid hrow; have HK := Lib.hid hk
  have hcap := hrow.1
  have hmax := hrow.2.1
  unfold maxLen at hmax
  clear hrow hk
  go_enter Tryz.func104, Tryz.ntmps104
  go_wp2
  go_loopw [8] (fun i wr => ∃ j : Nat, i = .int .i64 j ∧ j ≤ l.length ∧ Below w.heap.size w wr ∧ Hid (∀ i (h : i < j) (h2 : i < l.length), (!inP prio l[i]) = false)) (fun i _ => l.length - (intOf i).toNat)
  case atStart => exact ⟨0, rfl, Nat.zero_le _, Below.refl _ _, Lib.hid (fun i h => absurd h (by omega))⟩
  case round =>
    obtain ⟨j, rfl, hj, hB, HM⟩ := hrel
    by_cases hlt : j < l.length
    · have hltz : (j : Int) < (l.length : Int) := by omega
      obtain ⟨b, off, hab, hbl, hcs⟩ := (HR.out.below hB).2.2.2 (by omega)
      subst hab
      obtain ⟨x, hx⟩ : ∃ x, x = l[j] := ⟨_, rfl⟩
      have hr := hcs j hlt
      rw [← hx] at hr
      have HX := Lib.hid hx
      have gp : Calls Tryz.prog 88 #[.agg (bn x).toArray, .pointer (some ⟨c, 0, none⟩)] wr fun e w' => e = .returned (.bool (!inP prio x)) ∧ Below wr.heap.size wr w' := withF_any x prio c wr (blk_below hB HK.out)
      obtain ⟨q, hq⟩ : ∃ q, (!inP prio x) = q := ⟨_, rfl⟩
      rw [hq] at gp
      have HQ := Lib.hid hq
      have GP := Lib.hid gp
      clear hx hcs gp hq
      go_upto_region 4 with fail
      refine wp_region_lit ?_
      refine Go.Great.wpList_readTo rfl _ rfl (.func (.func 88) #[] #[.pointer (some ⟨c, 0, none⟩)]) rfl ?_
      refine Go.Great.wpList_readTo rfl _ rfl (.slice (some ⟨b, off, none⟩) l.length cap) rfl ?_
      refine Go.Great.wpList_readTo rfl _ rfl (.int .i64 j) rfl ?_
      refine Go.Great.wpList_readTo rfl _ rfl (.pointer (some ⟨b, off + j * 9, none⟩)) (by go_simp) ?_
      refine wpList_load_mid rfl 54 (.tmp 14) rfl b (off + j * 9) rfl (bn x) _ hr Tryz.underlying54 rfl (by kernel_rfl) ?_
      conv => arg 5; simp [Act.put]
      cases q
      · go_wp2_with (go_at_call 88; (with_reducible refine (GP.out).mono ?_); rintro e w2 ⟨rfl, h2⟩)
        go_roundw
        case rel => exact ⟨j + 1, by go_num, by omega, bt hB h2, Lib.hid (fun i h h3 => by
          rcases Nat.lt_or_ge i j with h4 | h4
          · exact HM.out i h4 h3
          · obtain rfl : i = j := by omega
            rw [← HX.out]; exact HQ.out)⟩
        case measure => simp [intOf]; omega
      · have hp : idxB (fun x => !inP prio x) l = j := idxB_some hlt (fun i hi => HM.out i hi (by omega)) (by rw [← HX.out]; exact HQ.out)
        have HP := Lib.hid hp
        clear hp
        go_wp2_with (go_at_call 88; (with_reducible refine (GP.out).mono ?_); rintro e w2 ⟨rfl, h2⟩)
        go_ret
        exact ⟨by rw [HP.out]; rfl, bt hB h2⟩
    · obtain rfl : j = l.length := by omega
      have hp : idxB (fun x => !inP prio x) l = -1 := idxB_none (fun i hi => HM.out i hi hi)
      have HP := Lib.hid hp
      clear hp
      go_wp2
      go_ret
      exact ⟨by rw [HP.out]; rfl, hB⟩
theorem idxB_cases {α : Type} (p : α → Bool) (l : List α) : (idxB p l = -1 ∧ ∀ x ∈ l, p x = false) ∨ ∃ i : Nat, ∃ h : i < l.length, idxB p l = i ∧ p l[i] = true ∧ ∀ j (hj : j < i), p (l[j]'(by omega)) = false := by
  unfold idxB
  cases hf : l.findIdx? p with
  | none =>
    rw [List.findIdx?_eq_none_iff] at hf
    exact .inl ⟨rfl, fun x hx => by simpa using hf x hx⟩
  | some i =>
    rw [List.findIdx?_eq_some_iff_getElem] at hf
    obtain ⟨h1, h2, h3⟩ := hf
    exact .inr ⟨i, h1, rfl, h2, fun j hj => by simpa using h3 j hj⟩
structure DelM (p : Bn → Bool) (l m : List Bn) (i j : Nat) : Prop where
  len : m.length = l.length
  ij : i < j
  jl : j ≤ l.length
  kept : m.take i = (l.take j).filter (fun x => !p x)
  rest : m.drop j = l.drop j
theorem DelM.at {p : Bn → Bool} {l m : List Bn} {i j : Nat} (h : DelM p l m i j) (hj : j < l.length) : m[j]'(by rw [h.len]; exact hj) = l[j] := by
  have e := congrArg (fun z => z[0]?) h.rest
  simp only [List.getElem?_drop, Nat.add_zero] at e
  rw [List.getElem?_eq_getElem (by rw [h.len]; exact hj), List.getElem?_eq_getElem hj] at e
  exact Option.some.inj e
theorem DelM.skip {p : Bn → Bool} {l m : List Bn} {i j : Nat} (h : DelM p l m i j) (hj : j < l.length) (hp : p l[j] = true) : DelM p l m i (j + 1) := by
  refine ⟨h.len, by have := h.ij; omega, by omega, ?_, ?_⟩
  · rw [List.take_succ_eq_append_getElem hj, List.filter_append, h.kept]
    simp [hp]
  · rw [← List.drop_drop, h.rest, List.drop_drop]
theorem DelM.keep {p : Bn → Bool} {l m : List Bn} {i j : Nat} (h : DelM p l m i j) (hj : j < l.length) (hp : p l[j] = false) : DelM p l (m.set i l[j]) (i + 1) (j + 1) := by
  have hi := h.ij
  have hl := h.len
  refine ⟨by rw [List.length_set]; exact h.len, by omega, by omega, ?_, ?_⟩
  · rw [List.take_succ_eq_append_getElem hj, List.filter_append, ← h.kept]
    rw [List.take_succ_eq_append_getElem (by rw [List.length_set]; omega), List.take_set_of_le (Nat.le_refl _)]
    simp [hp]
  · rw [List.drop_set_of_lt (by omega), ← List.drop_drop, h.rest, List.drop_drop]
theorem DelM.start {p : Bn → Bool} {l : List Bn} {i : Nat} (hi : i < l.length) (hp : p l[i] = true) (hb : ∀ j (hj : j < i), p (l[j]'(by omega)) = false) : DelM p l l i (i + 1) := by
  refine ⟨rfl, by omega, by omega, ?_, rfl⟩
  rw [List.take_succ_eq_append_getElem hi, List.filter_append]
  have e : (l.take i).filter (fun x => !p x) = l.take i := List.filter_eq_self.2 (fun x hx => by
    obtain ⟨j, hj, rfl⟩ := List.getElem_of_mem hx
    rw [List.length_take] at hj
    rw [List.getElem_take, hb j (by omega)]; rfl)
  rw [e]
  simp [hp]
theorem DelM.done {p : Bn → Bool} {l m : List Bn} {i : Nat} (h : DelM p l m i l.length) : m.take i = l.filter (fun x => !p x) := by
  have := h.kept
  rwa [List.take_length] at this
theorem setL_takeW (m : Nat) : ∀ (vs : List Value) (xs : List Value) (o : Nat), m ≤ o → (setL xs o vs).take m = xs.take m
  | [], _, _, _ => rfl
  | v :: r, xs, o, h => by
    show (setL (xs.set o v) (o + 1) r).take m = _
    rw [setL_takeW m r _ _ (by omega), List.take_set_of_le h]
theorem owns_shrink {w : World} {base : Nat} {e : TypeId} {k g cap n i : Nat} {xs : List Value} (h : w.ownsRow base e k (.slice (some ⟨g, 0, none⟩) n cap) n xs) (hi : i ≤ n) : w.ownsRow base e k (.slice (some ⟨g, 0, none⟩) i cap) i (xs.take (i * k)) := by
  obtain ⟨h1, h2⟩ := h
  have hle : i * k ≤ n * k := Nat.mul_le_mul_right _ hi
  refine ⟨by rw [List.length_take, h1]; omega, ?_⟩
  rcases h2 with ⟨h2, _⟩ | ⟨g', cap', cur, h3, h4, h5, h6, h7, h8, h9⟩
  · cases h2
  · simp only [Value.slice.injEq, Option.some.injEq, Addr.mk.injEq] at h3
    obtain ⟨⟨rfl, _⟩, _, rfl⟩ := h3
    exact .inr ⟨g, cap, cur, rfl, h4, h5, by omega, h7, h8, by rw [← h9, List.take_take, Nat.min_eq_left hle]⟩
theorem zeroCells_len (z : Array Value) (n : Nat) : (Builtin.zeroCells z n).toList.length = n * z.size := by simp [Builtin.zeroCells]
theorem zeroCells_one {z : Array Value} (h : ∀ u ∈ z.toList, u.oneCell' = true) (n : Nat) (h0 : 0 < z.size) : ∀ u ∈ (Builtin.zeroCells z n).toList, u.oneCell' = true := by
  intro u hu
  simp only [Builtin.zeroCells, Array.toList_map, List.mem_map] at hu
  obtain ⟨i, _, rfl⟩ := hu
  have hi : i % z.size < z.size := Nat.mod_lt _ h0
  rw [getElem!_pos z _ hi]
  exact h _ (by simp)
section
variable {P : Program} {ops : Array Oper} {rest : List Oper} {o : Oper} {a : Act} {w : World}
theorem wpList_clearN {Q : Exit → Act → World → Prop} (hgd : o.guard = none) (x : Operand) (t e : TypeId) (ho : o.op = .call { callee := .builtin .clear, args := #[x], argTypes := #[t] })
    (ht : P.underlying t = some (.slice e)) (z : Value) (hz : (zeroValue e).run P w = .ok z w) (h0 : 0 < z.cells.size) (h1 : ∀ u ∈ z.cells.toList, u.oneCell' = true)
    (g off n c : Nat) (hn : 0 < n) (hw : w.there g off (n * z.cells.size)) (hx : a.eval x = .slice (some ⟨g, off, none⟩) n c)
    (h : wpList P ops Q rest (a.put o.dst (.tuple #[])) (w.setCells g off (Builtin.zeroCells z.cells n).toList)) : wpList P ops Q (o :: rest) a w := by
  refine wpList_plain hgd fun K hK => ?_
  have hst := run_storeCells_cells (P := P) g off (Builtin.zeroCells z.cells n).toList 0 w (fun j hj => by
    rw [zeroCells_len] at hj
    simpa using (hw j hj).1) (fun j hj => by
    rw [zeroCells_len] at hj
    simpa using (hw j hj).2) (zeroCells_one h1 n h0)
  simp only [Nat.add_zero] at hst
  have hr : ∀ ty, (Builtin.clear_ #[t] ty #[.slice (some ⟨g, off, none⟩) n c]).run P w = .ok (.tuple #[]) (w.setCells g off (Builtin.zeroCells z.cells n).toList) := fun ty => by
    obtain ⟨m, rfl⟩ : ∃ m, n = m + 1 := ⟨n - 1, by omega⟩
    simp only [Builtin.clear_, Sem.run_bind, run_underlying ht, Result.andThen_ok, hz, List.getElem?_toArray, List.getElem?_cons_zero]
    rw [hst]
    rfl
  unfold Oper.wp execOp
  simp only [ho, resolve, invoke, builtin, Sem.run_bind, Sem.run_pure, Result.andThen_ok, List.map_toArray, List.map_cons, List.map_nil, hx, hr]
  exact hK _ _ h
end
end Go.Proofs.YthfmkkkdjgkaoaaGreatDoor
namespace Go.Proofs.YthfmkkkdjgkaoaaGreatDoor
open Go.RowKit
def kv (l : List Oc) (id : Id3) : List Value := (List.range 16).map fun (n : Nat) => Value.bool (hasO l (n : Int) id)
def kvA (l : List Oc) (id : Id3) : Value := .agg (kv l id).toArray
theorem kv_len (l : List Oc) (id : Id3) : (kv l id).length = 16 := by simp [kv]
theorem kv_one (l : List Oc) (id : Id3) : ∀ u ∈ kv l id, u.oneCell' = true := by
  intro u hu
  obtain ⟨n, _, rfl⟩ := List.mem_map.1 hu
  rfl
theorem kv_at (l : List Oc) (id : Id3) (n : Nat) (hn : n < 16) : (kv l id)[n]? = some (.bool (hasO l (n : Int) id)) := by
  simp [kv, hn]
theorem hasO_snoc (l : List Oc) (x : Oc) (k : Int) (id : Id3) : hasO (l ++ [x]) k id = (hasO l k id || (decide (x.ki = k) && decide (oid x = id))) := by
  simp [hasO, List.any_append]
theorem kv_snoc (l : List Oc) (x : Oc) (h0 : 0 ≤ x.ki) : kv (l ++ [x]) (oid x) = (kv l (oid x)).set x.ki.toNat (.bool true) := by
  apply List.ext_getElem
  · simp [kv]
  · intro i h1 h2
    have hi : i < 16 := by simpa [kv] using h1
    rw [List.getElem_set]
    by_cases e : x.ki.toNat = i
    · have e2 : x.ki = (i : Int) := by omega
      rw [if_pos e]
      simp [kv, hasO_snoc, e2]
    · have e2 : ¬ x.ki = (i : Int) := by omega
      rw [if_neg e]
      simp [kv, hasO_snoc, e2]
theorem kv_snoc_ne (l : List Oc) (x : Oc) {id : Id3} (h : id ≠ oid x) : kv (l ++ [x]) id = kv l id := by
  unfold kv
  refine List.map_congr_left fun n _ => ?_
  rw [hasO_snoc, decide_eq_false (fun (e : oid x = id) => h e.symm)]
  simp
theorem hasO_none {l : List Oc} {id : Id3} (h : ∀ o ∈ l, oid o ≠ id) (k : Int) : hasO l k id = false := by
  unfold hasO
  rw [List.any_eq_false]
  intro o ho
  simp [h o ho]
theorem kv_none {l : List Oc} {id : Id3} (h : ∀ o ∈ l, oid o ≠ id) : kvA l id = .agg #[.bool false, .bool false, .bool false, .bool false, .bool false, .bool false, .bool false, .bool false, .bool false, .bool false, .bool false, .bool false, .bool false, .bool false, .bool false, .bool false] := by
  have e : kv l id = (#[.bool false, .bool false, .bool false, .bool false, .bool false, .bool false, .bool false, .bool false, .bool false, .bool false, .bool false, .bool false, .bool false, .bool false, .bool false, .bool false] : Array Value).toList := by
    unfold kv
    rw [List.map_congr_left (g := fun _ => Value.bool false) (fun n _ => by rw [hasO_none h])]
    rfl
  unfold kvA
  rw [e]
theorem getK {ks : List Id3} {l : List Oc} (h : ∀ o ∈ l, oid o ∈ ks) (id : Id3) : getM (mpf ks (kvA l)) id (.agg #[.bool false, .bool false, .bool false, .bool false, .bool false, .bool false, .bool false, .bool false, .bool false, .bool false, .bool false, .bool false, .bool false, .bool false, .bool false, .bool false]) = kvA l id := by
  rw [getM_mpf]
  by_cases hk : id ∈ ks
  · rw [if_pos hk]
  · rw [if_neg hk, kv_none (fun o ho (e : oid o = id) => hk (e ▸ h o ho))]
theorem putK {ks : List Id3} (hn : ks.Nodup) (l : List Oc) (x : Oc) (h0 : 0 ≤ x.ki) : putM (mpf ks (kvA l)) (oid x) (.agg ((kv l (oid x)).set x.ki.toNat (.bool true)).toArray) = mpf (insK ks (oid x)) (kvA (l ++ [x])) := by
  rw [putM_mpf hn]
  refine mpf_congr fun k _ => ?_
  unfold updK kvA
  by_cases e : k = oid x
  · subst e
    rw [if_pos rfl, kv_snoc l x h0]
  · rw [if_neg e, kv_snoc_ne l x e]
def KindsAt (w : World) (m : Nat) (l : List Oc) : Prop := ∃ ks, ks.Nodup ∧ (∀ o ∈ l, oid o ∈ ks) ∧ mapAt w m (mpf ks (kvA l))
theorem KindsAt.below {w w' : World} {m : Nat} {l : List Oc} (h : KindsAt w m l) (hb : Below w.heap.size w w') : KindsAt w' m l := by
  obtain ⟨ks, h1, h2, h3⟩ := h
  exact ⟨ks, h1, h2, h3.below hb⟩
theorem KindsAt.look {w : World} {m : Nat} {l : List Oc} (h : KindsAt w m l) (id : Id3) : Sem.run Tryz.prog (Instr.lookup 114 (.map (some m)) (idK id) false) w = .ok (kvA l id) w := by
  obtain ⟨ks, h1, h2, h3⟩ := h
  exact (run_lookId (e := 117) (z := .agg #[.bool false, .bool false, .bool false, .bool false, .bool false, .bool false, .bool false, .bool false, .bool false, .bool false, .bool false, .bool false, .bool false, .bool false, .bool false, .bool false]) Tryz.underlying114 (by kernel_rfl) h3 id).trans (by rw [getK h2])
set_option maxRecDepth 100000 in
set_option maxHeartbeats 6400000 in
theorem kinds_any (vb : Value) (al : Option Addr) (cl : Nat) (l : List Oc) (hk : ∀ x ∈ l, 0 ≤ x.ki ∧ x.ki < 16) (w : World) (hl : SRow oc 7 w al cl l) :
    Calls Tryz.prog 63 #[.agg #[vb, .slice al l.length cl]] w fun e w' => ∃ m, e = .returned (.map (some m)) ∧ KindsAt w' m l ∧ w.heap.size ≤ m ∧ Below w.heap.size w w' := by
  have HL := Lib.hid hl
  have HK := Lib.hid hk
  have hcapl := HL.out.1
  have hmaxl := HL.out.2.1
  unfold maxLen at hmaxl
  clear hl hk
  go_enter Tryz.func63, Tryz.ntmps63
  have hmm := @run_makeMap Tryz.prog
  go_wp2
  have bm : Below w.heap.size w ((w.alloc (.cells #[vb, .slice al l.length cl] 70)).alloc (.map #[] 0)) := ((Below.refl _ _).alloc (Nat.le_refl _) _).alloc (by simp) _
  have km : KindsAt ((w.alloc (.cells #[vb, .slice al l.length cl] 70)).alloc (.map #[] 0)) (w.heap.size + 1) (l.take 0) := ⟨[], List.nodup_nil, by simp, by
    have := mapAt_made (w.alloc (.cells #[vb, .slice al l.length cl] 70))
    simpa [mpf] using this⟩
  go_loopw [11] (fun i wr => ∃ j : Nat, i = .int .i64 j ∧ j ≤ l.length ∧ Below w.heap.size w wr ∧ Hid (KindsAt wr (w.heap.size + 1) (l.take j))) (fun i _ => l.length - (intOf i).toNat)
  case atStart => exact ⟨0, rfl, Nat.zero_le _, bm, Lib.hid km⟩
  case round =>
    clear bm km hmm
    obtain ⟨j, rfl, hj, hB, HM⟩ := hrel
    by_cases hlt : j < l.length
    · have hltz : (j : Int) < (l.length : Int) := by omega
      obtain ⟨g, off, hab, hbl, hcs⟩ := (HL.out.below hB).2.2.2 (by omega)
      subst hab
      obtain ⟨x, hx⟩ : ∃ x, x = l[j] := ⟨_, rfl⟩
      have hr := hcs j hlt
      rw [← hx] at hr
      have HX := Lib.hid hx
      clear hx hcs
      go_upto_region 4 with fail
      refine wp_region_elem0 56 (.tmp 13) g (off + j * 7) (oc x) #[.int .i64 0, .int .i64 0, .int .i64 0, .int .i64 0, .int .u64 0, .int .i64 0, .int .i64 0] hr rfl (by go_simp) rfl rfl rfl _ Tryz.underlying56 rfl (by kernel_rfl) rfl (by kernel_rfl) rfl _ _ rfl rfl rfl rfl (oc_one x) ?_
      intro c0 w1 hc0 kb hB1
      conv => arg 4; simp [Act.put]
      have hB2 : Below w.heap.size w w1 := bt hB hB1
      have kb : blk w1 c0 = some #[.int .i64 x.ti, .int .i64 x.no, .int .i64 x.ki, .int .i64 x.ino, .int .u64 x.isq, .int .i64 x.iof, .int .i64 x.ot] := kb
      have hm2 := Lib.hid (HM.out.below hB1)
      have nk := kn kb
      clear hr hc0 hB1 hbl hB HM
      go_upto_region 5 with fail
      refine wp_region_tail0 4 ?_
      intro W0 hE hN
      have q1 : blk W0 c0 = some #[.int .i64 x.ti, .int .i64 x.no, .int .i64 x.ki, .int .i64 x.ino, .int .u64 x.isq, .int .i64 x.iof, .int .i64 x.ot] := (by rw [hE.out]; exact kb)
      have qB : Below w.heap.size w W0 := (by rw [hE.out]; exact hB2)
      have qm : KindsAt W0 (w.heap.size + 1) (l.take j) := (by rw [hE.out]; exact hm2.out)
      have n1 := calm_kn q1
      have lk : ∀ X : Class (Calm W0), Sem.run Tryz.prog (Instr.lookup 114 (.map (some (w.heap.size + 1))) (.agg #[.int .i64 x.ino, .int .u64 x.isq, .int .i64 x.iof]) false) X.wd = .ok (kvA (l.take j) (oid x)) X.wd := fun X => (qm.below X.ok).look (oid x)
      clear hE kb hB2 hm2 nk
      simp only [List.take_succ_cons, List.take_zero, List.drop_succ_cons, List.drop_zero]
      repeat (go_big_quiet_step (fail))
      refine wpQuiet_nil ?_
      rintro _ ⟨x', rfl⟩
      have hB2 := bt qB x'.ok
      have kb2 := blk_below x'.ok q1
      have hm2 := qm.below x'.ok
      obtain ⟨u, hu⟩ : ∃ u, u = x'.wd := ⟨_, rfl⟩
      rw [← hu] at hB2 kb2 hm2 ⊢
      clear hu x' hN q1 qB qm n1 lk
      refine Go.Great.wpList_allocTo rfl (some 6) rfl (.pointer (some ⟨u.heap.size, 0, none⟩)) (.cells #[.bool false, .bool false, .bool false, .bool false, .bool false, .bool false, .bool false, .bool false, .bool false, .bool false, .bool false, .bool false, .bool false, .bool false, .bool false, .bool false] 117) (by kernel_rfl) ?_
      conv => arg 5; simp [Act.put]
      obtain ⟨kvj, hkv⟩ : ∃ c, c = kv (l.take j) (oid x) := ⟨_, rfl⟩
      have hk16 : kvj.length = 16 := by rw [hkv, kv_len]
      have hk1 : ∀ u ∈ kvj, u.oneCell' = true := by rw [hkv]; exact kv_one _ _
      have hx16 := HK.out x (by rw [HX.out]; exact List.getElem_mem _)
      have e1 : kvA (l.take j) (oid x) = .agg kvj.toArray := by unfold kvA; rw [hkv]
      rw [e1]
      refine wpList_store_midB 117 (.tmp 6) (.tmp 18) u.heap.size 0 #[.bool false, .bool false, .bool false, .bool false, .bool false, .bool false, .bool false, .bool false, .bool false, .bool false, .bool false, .bool false, .bool false, .bool false, .bool false, .bool false] kvj.toArray kvj.toArray (blk_alloc_new _ _ _ rfl) rfl rfl rfl rfl (by simp [hk16]) (by rw [List.size_toArray, hk16]; kernel_rfl) (all_oneCell_toArray hk1) (setMid_all (by simp [hk16])) ?_
      intro w2 kb3 o3 B3 z3
      conv => arg 5; simp [Act.put]
      have hB3 : Below w.heap.size w w2 := B3 _ _ hB2.size (hB2.alloc hB2.size _)
      have hBu : Below u.heap.size u w2 := B3 _ _ (Nat.le_refl _) ((Below.refl _ _).alloc (Nat.le_refl _) _)
      have hm3 := hm2.below hBu
      have kb4 := blk_below hBu kb2
      have hne : c0 ≠ u.heap.size := Nat.ne_of_lt (blk_lt kb2)
      have hlw : w.heap.size ≤ u.heap.size := hB2.size
      have hlm : w.heap.size + 1 < u.heap.size := by obtain ⟨_, _, _, h3⟩ := hm2; exact h3.lt
      obtain ⟨c1, hc1⟩ : ∃ c, c = u.heap.size := ⟨_, rfl⟩
      rw [← hc1] at kb3 hne hlw hlm ⊢
      clear hc1 e1 o3 B3 z3 hB2 hBu hm2 kb2 kb
      have lc1 := blk_lt kb3
      have lc0 := blk_lt kb4
      have cc : w2.cell? ⟨c1, x.ki.toNat, none⟩ = some (kvj[x.ki.toNat]'(by omega)) := by rw [blk_cell kb3, List.getElem?_toArray, List.getElem?_eq_getElem]
      have cf : w2.frozen? ⟨c1, x.ki.toNat, none⟩ = false := blk_frozen kb3 _
      have i1 : 0 ≤ x.ki := hx16.1
      have i2 : x.ki < 16 := hx16.2
      have nk := kn kb4
      go_upto_region 7 with fail
      have kb5 : blk (w2.setCell ⟨c1, x.ki.toNat, none⟩ (.bool true)) c1 = some (kvj.set x.ki.toNat (.bool true)).toArray := blk_to (blk_set kb3) (by rw [List.setIfInBounds_toArray])
      have kb6 : blk (w2.setCell ⟨c1, x.ki.toNat, none⟩ (.bool true)) c0 = some #[.int .i64 x.ti, .int .i64 x.no, .int .i64 x.ki, .int .i64 x.ino, .int .u64 x.isq, .int .i64 x.iof, .int .i64 x.ot] := blk_other kb4 hne
      have hB5 : Below w.heap.size w (w2.setCell ⟨c1, x.ki.toNat, none⟩ (.bool true)) := hB3.setCell hlw _
      have hm5 : KindsAt (w2.setCell ⟨c1, x.ki.toNat, none⟩ (.bool true)) (w.heap.size + 1) (l.take j) := by
        obtain ⟨ks, h1, h2, h3⟩ := hm3
        exact ⟨ks, h1, h2, h3.kept (Below.heap_setCell _ _ _ _ (by dsimp only; omega))⟩
      have hl5 : w.heap.size ≤ (w2.setCell ⟨c1, x.ki.toNat, none⟩ (.bool true)).heap.size := hB5.size
      obtain ⟨w5, hw5⟩ : ∃ v, v = w2.setCell ⟨c1, x.ki.toNat, none⟩ (.bool true) := ⟨_, rfl⟩
      rw [← hw5] at kb5 kb6 hB5 hm5 hl5 ⊢
      clear hw5 nk cc cf kb3 kb4 hm3 hB3 lc1 lc0 hne hlw hlm
      refine wp_region_tail0 3 ?_
      intro W0 hE hN
      have q1 : blk W0 c0 = some #[.int .i64 x.ti, .int .i64 x.no, .int .i64 x.ki, .int .i64 x.ino, .int .u64 x.isq, .int .i64 x.iof, .int .i64 x.ot] := (by rw [hE.out]; exact kb6)
      have q2 : blk W0 c1 = some (kvj.set x.ki.toNat (.bool true)).toArray := (by rw [hE.out]; exact kb5)
      have qB : Below w.heap.size w W0 := (by rw [hE.out]; exact hB5)
      have qm : KindsAt W0 (w.heap.size + 1) (l.take j) := (by rw [hE.out]; exact hm5)
      have n1 := calm_kn q1
      clear hE kb5 kb6 hB5 hm5 hl5
      simp only [List.take_succ_cons, List.take_zero, List.drop_succ_cons, List.drop_zero]
      repeat (go_big_quiet_step (fail))
      refine wpQuiet_nil ?_
      rintro _ ⟨x', rfl⟩
      have hB2 := bt qB x'.ok
      have kb2 := blk_below x'.ok q2
      have hm2 := qm.below x'.ok
      obtain ⟨u2, hu⟩ : ∃ u, u = x'.wd := ⟨_, rfl⟩
      rw [← hu] at hB2 kb2 hm2 ⊢
      clear hu x' hN q1 q2 qB qm n1
      have hs16 : (kvj.set x.ki.toNat (.bool true)).length = 16 := by rw [List.length_set, hk16]
      refine wpList_load_mid rfl 117 (.tmp 6) rfl c1 0 rfl (kvj.set x.ki.toNat (.bool true)) _ (range_of_blk kb2 0 _ List.take_length) Tryz.underlying117 rfl (by rw [hs16]; kernel_rfl) ?_
      conv => arg 5; simp [Act.put]
      obtain ⟨ks, hks1, hks2, hks3⟩ := hm2
      refine wpList_putId rfl _ _ _ 114 rfl 117 Tryz.underlying114 (w.heap.size + 1) _ hks3 (oid x) (.agg (kvj.set x.ki.toNat (.bool true)).toArray) rfl rfl rfl ?_
      intro w6 hm6 hg6
      have hB6 : Below w.heap.size w w6 := hB2.grown hg6 hB2.size (fun k e => by cases e; omega)
      have hK6 : KindsAt w6 (w.heap.size + 1) (l.take (j + 1)) := by
        rw [List.take_succ_eq_append_getElem hlt, ← HX.out]
        refine ⟨insK ks (oid x), nodup_insK hks1 _, fun o ho => ?_, ?_⟩
        · rcases List.mem_append.1 ho with h | h
          · exact mem_insK.2 (.inl (hks2 o h))
          · simp only [List.mem_singleton] at h
            subst h
            exact mem_insK.2 (.inr rfl)
        · rw [← putK hks1 _ _ i1, ← hkv]
          exact hm6
      have HK6 := Lib.hid hK6
      clear hK6 hm6 hg6 hks1 hks2 hks3 kb2 hkv hk16 hk1 hs16 hB2
      go_wp2
      go_roundw
      case rel => exact ⟨j + 1, by go_num, by omega, hB6, HK6⟩
      case measure => simp [intOf]; omega
    · obtain rfl : j = l.length := by omega
      have hm := HM.out
      rw [List.take_length] at hm
      have HM2 := Lib.hid hm
      clear hm HM
      go_wp2
      go_ret
      exact ⟨_, rfl, HM2.out, by omega, hB⟩
end Go.Proofs.YthfmkkkdjgkaoaaGreatDoor
