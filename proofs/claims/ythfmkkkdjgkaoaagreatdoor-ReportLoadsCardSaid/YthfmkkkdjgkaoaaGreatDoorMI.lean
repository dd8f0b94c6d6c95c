/- Parts of a proof, printed by a program of mine out of my texts: RpFil, RpLaP, RpDel. -/
import Derived.Test.YthfmkkkdjgkaoaaGreatDoorMF
import Derived.Test.YthfmkkkdjgkaoaaGreatDoorMH
import Derived.Test.YthfmkkkdjgkaoaaGreatDoorMM
set_option linter.unusedSimpArgs false
set_option linter.unusedVariables false
namespace Go.Proofs.YthfmkkkdjgkaoaaGreatDoor
open Go.RowKit
def RowO (l : List Oc) (w : World) (e : Ending) (w' : World) : Prop := ∃ v, e = .returned v ∧ w'.ownsRow w.heap.size 56 7 v l.length (rowC oc l) ∧ Below w.heap.size w w'
def isO (k : Id3) (o : Oc) : Bool := decide (oid o = k)
theorem filter_snoc {α : Type} (p : α → Bool) (l : List α) (j : Nat) (h : j < l.length) : (l.take (j + 1)).filter p = (l.take j).filter p ++ if p l[j] then [l[j]] else [] := by
  rw [List.take_succ_eq_append_getElem h, List.filter_append]
  cases hp : p l[j] <;> simp [hp]
set_option maxRecDepth 100000 in
theorem ofF_any (x : Oc) (k : Id3) (c : Nat) (w : World) (hk : blk w c = some (idL k).toArray) : Calls Tryz.prog 54 #[.agg #[.int .i64 x.ti, .int .i64 x.no, .int .i64 x.ki, .int .i64 x.ino, .int .u64 x.isq, .int .i64 x.iof, .int .i64 x.ot], .pointer (some ⟨c, 0, none⟩)] w fun e w' => e = .returned (.bool (isO k x)) ∧ Below w.heap.size w w' := by
  unfold isO
  have E := fun W => run_idKEq (oid x) k W
  obtain ⟨k1, k2, k3⟩ := k
  obtain ⟨q, hq⟩ : ∃ q, decide (oid x = (k1, k2, k3)) = q := ⟨_, rfl⟩
  rw [hq] at E ⊢
  clear hq
  have hk : blk w c = some #[.int .i64 k1, .int .u64 k2, .int .i64 k3] := hk
  have E : ∀ W, Sem.run Tryz.prog (binOp BinOp.eql 52 (.agg #[.int .i64 x.ino, .int .u64 x.isq, .int .i64 x.iof]) (.agg #[.int .i64 k1, .int .u64 k2, .int .i64 k3])) W = .ok (.bool q) W := E
  have nk := kn hk
  clear hk
  go_enter Tryz.func54, Tryz.ntmps54
  go_wp2
  go_ret
  exact ⟨rfl, by (repeat (first | (with_reducible assumption) | (with_reducible exact Below.refl _ _) | (with_reducible refine beld_drew ?_) | ((with_reducible refine bset' ?_ ?_); (first | (focus (dsimp only; assumption)) | (focus (simp; done)) | (focus (dsimp only; omega)))) | (with_reducible refine belt_alloc ?_) | ((with_reducible refine zeroed_below' ?_ ?_); (first | (focus (simp; done)) | (focus (dsimp only; omega)))) | (with_reducible refine bt ?_ (by assumption))))⟩
set_option maxRecDepth 100000 in
theorem latF_any (x : Oc) (w : World) : Calls Tryz.prog 89 #[.agg #[.int .i64 x.ti, .int .i64 x.no, .int .i64 x.ki, .int .i64 x.ino, .int .u64 x.isq, .int .i64 x.iof, .int .i64 x.ot]] w fun e w' => e = .returned (.bool (kin18 x)) ∧ Below w.heap.size w w' := by
  by_cases h1 : x.ki = 1
  · have e : kin18 x = true := by simp [kin18, h1]
    rw [e]
    have t : (x.ki == 1) = true := by simp [h1]
    clear e h1
    go_enter Tryz.func89, Tryz.ntmps89
    go_wp2
    go_ret
    exact ⟨rfl, by (repeat (first | (with_reducible assumption) | (with_reducible exact Below.refl _ _) | (with_reducible refine beld_drew ?_) | ((with_reducible refine bset' ?_ ?_); (first | (focus (dsimp only; assumption)) | (focus (simp; done)) | (focus (dsimp only; omega)))) | (with_reducible refine belt_alloc ?_) | ((with_reducible refine zeroed_below' ?_ ?_); (first | (focus (simp; done)) | (focus (dsimp only; omega)))) | (with_reducible refine bt ?_ (by assumption))))⟩
  · have e : kin18 x = (x.ki == 8) := by simp [kin18, h1]; rfl
    rw [e]
    have t : (x.ki == 1) = false := by simp [h1]
    clear e h1
    go_enter Tryz.func89, Tryz.ntmps89
    go_wp2
    go_ret
    exact ⟨rfl, by (repeat (first | (with_reducible assumption) | (with_reducible exact Below.refl _ _) | (with_reducible refine beld_drew ?_) | ((with_reducible refine bset' ?_ ?_); (first | (focus (dsimp only; assumption)) | (focus (simp; done)) | (focus (dsimp only; omega)))) | (with_reducible refine belt_alloc ?_) | ((with_reducible refine zeroed_below' ?_ ?_); (first | (focus (simp; done)) | (focus (dsimp only; omega)))) | (with_reducible refine bt ?_ (by assumption))))⟩
set_option maxRecDepth 100000 in
set_option maxHeartbeats 3200000 in
theorem filO_any (a : Option Addr) (cap : Nat) (l : List Oc) (k : Id3) (c : Nat) (hln : l.length ≤ 100000) (w : World) (hrow : SRow oc 7 w a cap l) (hk : blk w c = some (idL k).toArray) :
    Calls Tryz.prog 53 #[.slice a l.length cap, .func (.func 54) #[] #[.pointer (some ⟨c, 0, none⟩)]] w (RowO (l.filter (isO k)) w) := by
  have HR := Lib.hid hrow
  have HK := Lib.hid hk
  have hcap := hrow.1
  have hmax := hrow.2.1
  unfold maxLen at hmax
  clear hrow hk
  obtain ⟨i0, hi, hz0, hz1, hz2⟩ := info_parts infoOc
  have Hi := Lib.hid hi; have Hz0 := Lib.hid hz0; have Hz1 := Lib.hid hz1; have Hz2 := Lib.hid hz2
  clear hi hz0 hz1 hz2
  go_enter Tryz.func53, Tryz.ntmps53
  go_wp2
  go_loopw [5, 10] (fun s5 i wr => ∃ j : Nat, i = .int .i64 j ∧ j ≤ l.length ∧ Below w.heap.size w wr ∧ Hid (wr.ownsRow w.heap.size 56 7 s5 ((l.take j).filter (isO k)).length (rowC oc ((l.take j).filter (isO k))))) (fun _ i _ => l.length - (intOf i).toNat)
  case atStart => exact ⟨0, rfl, Nat.zero_le _, Below.refl _ _, Lib.hid (by simpa [rowC] using World.ownsRow_nil w _ _ _)⟩
  case round =>
    obtain ⟨j, rfl, hj, hB, HO⟩ := hrel
    by_cases hlt : j < l.length
    · have hltz : (j : Int) < (l.length : Int) := by omega
      obtain ⟨b, off, hab, hbl, hcs⟩ := (HR.out.below hB).2.2.2 (by omega)
      subst hab
      have hsn := filter_snoc (isO k) l j hlt
      obtain ⟨x, hx⟩ : ∃ x, x = l[j] := ⟨_, rfl⟩
      have hr := hcs j hlt
      rw [← hx] at hr hsn
      have hnl : ((l.take j).filter (isO k)).length ≤ j := Nat.le_trans (List.length_filter_le _ _) (List.length_take_le _ _)
      have HSN := Lib.hid hsn
      have HNL := Lib.hid hnl
      clear hx hcs hsn hnl
      go_upto_region 4 with fail
      refine wp_region_elem0 56 (.tmp 12) b (off + j * 7) (oc x) #[.int .i64 0, .int .i64 0, .int .i64 0, .int .i64 0, .int .u64 0, .int .i64 0, .int .i64 0] hr rfl (by go_simp) rfl rfl rfl _ Tryz.underlying56 rfl (by kernel_rfl) rfl (by kernel_rfl) rfl _ _ rfl rfl rfl rfl (oc_one x) ?_
      intro c0 w1 hc0 kb hB1
      conv => arg 4; simp [Act.put]
      have hB2 : Below w.heap.size w w1 := bt hB hB1
      have kb : blk w1 c0 = some #[.int .i64 x.ti, .int .i64 x.no, .int .i64 x.ki, .int .i64 x.ino, .int .u64 x.isq, .int .i64 x.iof, .int .i64 x.ot] := kb
      have nk := kn kb
      have gp : Calls Tryz.prog 54 #[.agg #[.int .i64 x.ti, .int .i64 x.no, .int .i64 x.ki, .int .i64 x.ino, .int .u64 x.isq, .int .i64 x.iof, .int .i64 x.ot], .pointer (some ⟨c, 0, none⟩)] w1 fun e w' => e = .returned (.bool ((isO k) x)) ∧ Below w1.heap.size w1 w' := ofF_any x k c w1 (blk_below hB2 HK.out)
      obtain ⟨q, hq⟩ : ∃ q, (isO k) x = q := ⟨_, rfl⟩
      rw [hq] at gp HSN
      have GP := Lib.hid gp
      have ho1 := owns_belowS HO.out hB1
      clear hr hc0 hB1 hbl hB gp hq HO
      cases q
      · go_wp2_with (go_at_call 54; (with_reducible refine (GP.out).mono ?_); rintro e w2 ⟨rfl, h2⟩)
        have ho2 : Hid (w2.ownsRow w.heap.size 56 7 u5 ((l.take (j + 1)).filter (isO k)).length (rowC oc ((l.take (j + 1)).filter (isO k)))) := Lib.hid (by
          rw [HSN.out]; simpa using owns_belowS ho1 h2)
        clear ho1
        go_roundw
        case rel => exact ⟨j + 1, by go_num, by omega, bt hB2 h2, ho2⟩
        case measure => simp [intOf]; omega
      · obtain ⟨L, hL⟩ : ∃ L, (l.take j).filter (isO k) = L := ⟨_, rfl⟩
        rw [hL] at HSN ho1 HNL
        have HO1 := Lib.hid ho1
        clear hL ho1
        go_wp2_with (first
          | (go_at_call 54; (with_reducible refine (GP.out).mono ?_); rintro e w2 ⟨rfl, h2⟩; (have kb2 := blk_below h2 kb); clear nk; (have nk := kn kb2); (have hB3 := bt hB2 h2); (have HO2 := Lib.hid (owns_belowS HO1.out h2)))
          | (at_builtin; go_loud (refine wpList_append_struct (enc := oc) rfl _ _ 23 rfl w.heap.size 56 i0 (.agg #[.int .i64 0, .int .i64 0, .int .i64 0, .int .i64 0, .int .u64 0, .int .i64 0, .int .i64 0]) 7 56 Tryz.underlying23 Hi.out Hz0.out Hz1.out Hz2.out rfl (by decide) oc_len oc_one _ L rfl (HO2.out.alloc _) w2.heap.size 1 x rfl (blk_alloc_new _ _ _ rfl) (by have := HNL.out; unfold maxLen; omega) (by have := HNL.out; omega) (by have := hB3.size; simp; omega) ?_); intro v' wb hown2 hgrow2))
        have hB4 : Below w.heap.size w wb := (hB3.alloc hB3.size _).grown hgrow2 (by have := hB3.size; simp; omega) (fun k e => (HO2.out.lt k e).1)
        have ho3 : Hid (wb.ownsRow w.heap.size 56 7 v' ((l.take (j + 1)).filter (isO k)).length (rowC oc ((l.take (j + 1)).filter (isO k)))) := Lib.hid (by
          rw [HSN.out]; exact hown2)
        clear hown2 hgrow2 HO2 HO1
        go_wp2
        go_roundw
        case rel => exact ⟨j + 1, by go_num, by omega, hB4, ho3⟩
        case measure => simp [intOf]; omega
    · obtain rfl : j = l.length := by omega
      have ho : Hid (wr.ownsRow w.heap.size 56 7 u5 (l.filter (isO k)).length (rowC oc (l.filter (isO k)))) := Lib.hid (by have := HO.out; rwa [List.take_length] at this)
      clear HO
      go_wp2
      go_ret
      exact ⟨_, rfl, ho.out, hB⟩
set_option maxRecDepth 100000 in
set_option maxHeartbeats 3200000 in
theorem filL_any (a : Option Addr) (cap : Nat) (l : List Oc) (hln : l.length ≤ 100000) (w : World) (hrow : SRow oc 7 w a cap l) :
    Calls Tryz.prog 53 #[.slice a l.length cap, .func (.func 89) #[] #[]] w (RowO (l.filter kin18) w) := by
  have HR := Lib.hid hrow
  have hcap := hrow.1
  have hmax := hrow.2.1
  unfold maxLen at hmax
  clear hrow
  obtain ⟨i0, hi, hz0, hz1, hz2⟩ := info_parts infoOc
  have Hi := Lib.hid hi; have Hz0 := Lib.hid hz0; have Hz1 := Lib.hid hz1; have Hz2 := Lib.hid hz2
  clear hi hz0 hz1 hz2
  go_enter Tryz.func53, Tryz.ntmps53
  go_wp2
  go_loopw [5, 10] (fun s5 i wr => ∃ j : Nat, i = .int .i64 j ∧ j ≤ l.length ∧ Below w.heap.size w wr ∧ Hid (wr.ownsRow w.heap.size 56 7 s5 ((l.take j).filter kin18).length (rowC oc ((l.take j).filter kin18)))) (fun _ i _ => l.length - (intOf i).toNat)
  case atStart => exact ⟨0, rfl, Nat.zero_le _, Below.refl _ _, Lib.hid (by simpa [rowC] using World.ownsRow_nil w _ _ _)⟩
  case round =>
    obtain ⟨j, rfl, hj, hB, HO⟩ := hrel
    by_cases hlt : j < l.length
    · have hltz : (j : Int) < (l.length : Int) := by omega
      obtain ⟨b, off, hab, hbl, hcs⟩ := (HR.out.below hB).2.2.2 (by omega)
      subst hab
      have hsn := filter_snoc kin18 l j hlt
      obtain ⟨x, hx⟩ : ∃ x, x = l[j] := ⟨_, rfl⟩
      have hr := hcs j hlt
      rw [← hx] at hr hsn
      have hnl : ((l.take j).filter kin18).length ≤ j := Nat.le_trans (List.length_filter_le _ _) (List.length_take_le _ _)
      have HSN := Lib.hid hsn
      have HNL := Lib.hid hnl
      clear hx hcs hsn hnl
      go_upto_region 4 with fail
      refine wp_region_elem0 56 (.tmp 12) b (off + j * 7) (oc x) #[.int .i64 0, .int .i64 0, .int .i64 0, .int .i64 0, .int .u64 0, .int .i64 0, .int .i64 0] hr rfl (by go_simp) rfl rfl rfl _ Tryz.underlying56 rfl (by kernel_rfl) rfl (by kernel_rfl) rfl _ _ rfl rfl rfl rfl (oc_one x) ?_
      intro c0 w1 hc0 kb hB1
      conv => arg 4; simp [Act.put]
      have hB2 : Below w.heap.size w w1 := bt hB hB1
      have kb : blk w1 c0 = some #[.int .i64 x.ti, .int .i64 x.no, .int .i64 x.ki, .int .i64 x.ino, .int .u64 x.isq, .int .i64 x.iof, .int .i64 x.ot] := kb
      have nk := kn kb
      have gp : Calls Tryz.prog 89 #[.agg #[.int .i64 x.ti, .int .i64 x.no, .int .i64 x.ki, .int .i64 x.ino, .int .u64 x.isq, .int .i64 x.iof, .int .i64 x.ot]] w1 fun e w' => e = .returned (.bool (kin18 x)) ∧ Below w1.heap.size w1 w' := latF_any x w1
      obtain ⟨q, hq⟩ : ∃ q, kin18 x = q := ⟨_, rfl⟩
      rw [hq] at gp HSN
      have GP := Lib.hid gp
      have ho1 := owns_belowS HO.out hB1
      clear hr hc0 hB1 hbl hB gp hq HO
      cases q
      · go_wp2_with (go_at_call 89; (with_reducible refine (GP.out).mono ?_); rintro e w2 ⟨rfl, h2⟩)
        have ho2 : Hid (w2.ownsRow w.heap.size 56 7 u5 ((l.take (j + 1)).filter kin18).length (rowC oc ((l.take (j + 1)).filter kin18))) := Lib.hid (by
          rw [HSN.out]; simpa using owns_belowS ho1 h2)
        clear ho1
        go_roundw
        case rel => exact ⟨j + 1, by go_num, by omega, bt hB2 h2, ho2⟩
        case measure => simp [intOf]; omega
      · obtain ⟨L, hL⟩ : ∃ L, (l.take j).filter kin18 = L := ⟨_, rfl⟩
        rw [hL] at HSN ho1 HNL
        have HO1 := Lib.hid ho1
        clear hL ho1
        go_wp2_with (first
          | (go_at_call 89; (with_reducible refine (GP.out).mono ?_); rintro e w2 ⟨rfl, h2⟩; (have kb2 := blk_below h2 kb); clear nk; (have nk := kn kb2); (have hB3 := bt hB2 h2); (have HO2 := Lib.hid (owns_belowS HO1.out h2)))
          | (at_builtin; go_loud (refine wpList_append_struct (enc := oc) rfl _ _ 23 rfl w.heap.size 56 i0 (.agg #[.int .i64 0, .int .i64 0, .int .i64 0, .int .i64 0, .int .u64 0, .int .i64 0, .int .i64 0]) 7 56 Tryz.underlying23 Hi.out Hz0.out Hz1.out Hz2.out rfl (by decide) oc_len oc_one _ L rfl (HO2.out.alloc _) w2.heap.size 1 x rfl (blk_alloc_new _ _ _ rfl) (by have := HNL.out; unfold maxLen; omega) (by have := HNL.out; omega) (by have := hB3.size; simp; omega) ?_); intro v' wb hown2 hgrow2))
        have hB4 : Below w.heap.size w wb := (hB3.alloc hB3.size _).grown hgrow2 (by have := hB3.size; simp; omega) (fun k e => (HO2.out.lt k e).1)
        have ho3 : Hid (wb.ownsRow w.heap.size 56 7 v' ((l.take (j + 1)).filter kin18).length (rowC oc ((l.take (j + 1)).filter kin18))) := Lib.hid (by
          rw [HSN.out]; exact hown2)
        clear hown2 hgrow2 HO2 HO1
        go_wp2
        go_roundw
        case rel => exact ⟨j + 1, by go_num, by omega, hB4, ho3⟩
        case measure => simp [intOf]; omega
    · obtain rfl : j = l.length := by omega
      have ho : Hid (wr.ownsRow w.heap.size 56 7 u5 (l.filter kin18).length (rowC oc (l.filter kin18))) := Lib.hid (by have := HO.out; rwa [List.take_length] at this)
      clear HO
      go_wp2
      go_ret
      exact ⟨_, rfl, ho.out, hB⟩
end Go.Proofs.YthfmkkkdjgkaoaaGreatDoor
namespace Go.Proofs.YthfmkkkdjgkaoaaGreatDoor
open Go.RowKit
def RetO (l : List Oc) (c : Int) (w : World) (e : Ending) (w' : World) : Prop := ∃ v, e = .returned (.tuple #[v, .int .i64 c]) ∧ w'.ownsRow w.heap.size 56 7 v l.length (rowC oc l) ∧ Below w.heap.size w w'
set_option maxRecDepth 100000 in
set_option maxHeartbeats 1600000 in
theorem ofok_any (a : Option Addr) (cap : Nat) (l : List Oc) (k : Id3) (hln : l.length ≤ 5000) (hv : (trcC l).1 = 0) (hid : idC k.1 k.2.1 k.2.2 = 0) (w : World) (hT : FTab w) (hrow : SRow oc 7 w a cap l) :
    Calls Tryz.prog 23 #[.slice a l.length cap, .agg (idL k).toArray] w (RetO (l.filter (isO k)) 0 w) := by
  have g1 : ∀ W, Below w.heap.size w W → Calls Tryz.prog 51 #[.slice a l.length cap] W fun e w' => e = .returned (.int .i64 0) ∧ Below W.heap.size W w' := fun W hB => by
    have := tvalid_any a cap l W (hT.on hB) (hrow.below hB)
    rwa [hv] at this
  have g2 : ∀ W, Calls Tryz.prog 52 #[.agg #[.int .i64 k.1, .int .u64 k.2.1, .int .i64 k.2.2]] W fun e w' => e = .returned (.int .i64 0) ∧ Below W.heap.size W w' := fun W => by
    have := checkID_any k.1 k.2.1 k.2.2 W
    rwa [hid] at this
  have g3 : ∀ W, Below w.heap.size w W → blk W w.heap.size = some #[.int .i64 k.1, .int .u64 k.2.1, .int .i64 k.2.2] → Calls Tryz.prog 53 #[.slice a l.length cap, .func (.func 54) #[] #[.pointer (some ⟨w.heap.size, 0, none⟩)]] W (RowO (l.filter (isO k)) W) := fun W hB hk => filO_any a cap l k w.heap.size (by omega) W (hrow.below hB) hk
  have G1 := Lib.hid g1; have G2 := Lib.hid g2; have G3 := Lib.hid g3
  clear g1 g2 g3 hv hid hT hrow
  obtain ⟨M, hM⟩ : ∃ M, l.filter (isO k) = M := ⟨_, rfl⟩
  rw [hM] at G3 ⊢
  clear hM
  obtain ⟨k1, k2, k3⟩ := k
  show Calls Tryz.prog 23 #[.slice a l.length cap, .agg #[.int .i64 k1, .int .u64 k2, .int .i64 k3]] w _
  have q0 : ((0 : Int) != 0) = false := rfl
  go_enter Tryz.func23, Tryz.ntmps23
  go_wp2_with (first
    | (go_at_call 51; (with_reducible refine (G1.out _ (by (repeat (first | (with_reducible assumption) | (with_reducible exact Below.refl _ _) | (with_reducible refine beld_drew ?_) | ((with_reducible refine bset' ?_ ?_); (first | (focus (dsimp only; assumption)) | (focus (simp; done)) | (focus (dsimp only; omega)))) | (with_reducible refine belt_alloc ?_) | ((with_reducible refine zeroed_below' ?_ ?_); (first | (focus (simp; done)) | (focus (dsimp only; omega)))) | (with_reducible refine bt ?_ (by assumption)))))).mono ?_); rintro e w2 ⟨rfl, h2⟩; (have kb : blk w2 w.heap.size = some #[.int .i64 k1, .int .u64 k2, .int .i64 k3] := (by (apply blk_to; (focus (repeat (first | (with_reducible assumption) | (with_reducible apply blk_drew) | (with_reducible apply blk_set) | ((with_reducible apply blk_other'); (first | (focus (dsimp only; assumption)) | (focus (simp; done)) | (focus (dsimp only; omega)))) | ((with_reducible apply blk_alloc_new); (first | (with_reducible rfl) | (focus (simp; done)) | (focus (simp; omega)))) | (with_reducible apply blk_alloc) | ((with_reducible apply blk_below); (with_reducible assumption))))); rfl))); (have nk := kn kb); (have B2 : Below w.heap.size w w2 := (by (repeat (first | (with_reducible assumption) | (with_reducible exact Below.refl _ _) | (with_reducible refine beld_drew ?_) | ((with_reducible refine bset' ?_ ?_); (first | (focus (dsimp only; assumption)) | (focus (simp; done)) | (focus (dsimp only; omega)))) | (with_reducible refine belt_alloc ?_) | ((with_reducible refine zeroed_below' ?_ ?_); (first | (focus (simp; done)) | (focus (dsimp only; omega)))) | (with_reducible refine bt ?_ (by assumption)))))); clear h2)
    | (go_at_call 52; (with_reducible refine (G2.out _).mono ?_); rintro e w3 ⟨rfl, h3⟩; (have kb3 := blk_below h3 kb); (have B3 := bt B2 h3); clear h3)
    | (go_at_call 53; (with_reducible refine (G3.out _ B3 kb3).mono ?_); rintro e w4 ⟨v4, rfl, ho4, h4⟩; (have HO4 := Lib.hid (owns_base ho4 B3.size)); (have B4 := bt B3 h4); clear ho4 h4))
  go_ret2
  exact ⟨v4, rfl, HO4.out, B4⟩
def latV (l : List Oc) (k : Id3) : Int × Int := (latO l k).elim (0, 8) fun n => (n, 0)
theorem latM (l : List Oc) (k : Id3) : (l.filter (isO k)).filter kin18 = l.filter fun o => decide (oid o = k) && (decide (o.ki = 1) || decide (o.ki = 8)) := by
  rw [List.filter_filter]
  congr 1
  funext o
  unfold isO kin18
  rw [Bool.and_comm]
theorem latV_cases (l : List Oc) (k : Id3) (hti : ∀ x ∈ l, 0 ≤ x.ti ∧ x.ti ≤ 1099511627776) (M : List Oc) (hM : (l.filter (isO k)).filter kin18 = M) :
    (M.length ≠ 2 ∧ latV l k = (0, 8)) ∨ ∃ a d, M = [a, d] ∧ (0 ≤ a.ti ∧ a.ti ≤ 1099511627776) ∧ (0 ≤ d.ti ∧ d.ti ≤ 1099511627776) ∧ ((a.ki ≠ 1 ∧ latV l k = (0, 8)) ∨ (a.ki = 1 ∧ d.ki ≠ 8 ∧ latV l k = (0, 8)) ∨ (a.ki = 1 ∧ d.ki = 8 ∧ latV l k = (d.ti - a.ti, 0))) := by
  have hm : ∀ x ∈ M, x ∈ l := fun x hx => by
    rw [← hM] at hx
    exact (List.mem_filter.1 (List.mem_filter.1 hx).1).1
  rw [latM] at hM
  unfold latV latO
  rw [hM]
  match M, hm with
  | [], _ => exact .inl ⟨by decide, rfl⟩
  | [x], _ => exact .inl ⟨by simp, rfl⟩
  | x :: y :: z :: r, _ => exact .inl ⟨by simp, rfl⟩
  | [a, d], hm =>
    refine .inr ⟨a, d, rfl, hti a (hm a (by simp)), hti d (hm d (by simp)), ?_⟩
    by_cases h1 : a.ki = 1
    · by_cases h2 : d.ki = 8
      · exact .inr (.inr ⟨h1, h2, by simp [h1, h2]⟩)
      · exact .inr (.inl ⟨h1, h2, by simp [h1, h2]⟩)
    · exact .inl ⟨h1, by simp [h1]⟩
set_option maxRecDepth 100000 in
set_option maxHeartbeats 3200000 in
theorem platency_any (a : Option Addr) (cap : Nat) (l : List Oc) (k : Id3) (hln : l.length ≤ 5000) (hv : (trcC l).1 = 0) (hid : idC k.1 k.2.1 k.2.2 = 0) (hti : ∀ x ∈ l, 0 ≤ x.ti ∧ x.ti ≤ 1099511627776) (w : World) (hT : FTab w) (hrow : SRow oc 7 w a cap l) :
    Calls Tryz.prog 65 #[.slice a l.length cap, .agg (idL k).toArray] w fun e w' => e = .returned (.tuple #[.int .i64 (latV l k).1, .int .i64 (latV l k).2]) ∧ Below w.heap.size w w' := by
  have g1 : ∀ W, Below w.heap.size w W → Calls Tryz.prog 23 #[.slice a l.length cap, .agg #[.int .i64 k.1, .int .u64 k.2.1, .int .i64 k.2.2]] W (RetO (l.filter (isO k)) 0 W) := fun W hB => ofok_any a cap l k hln hv hid W (hT.on hB) (hrow.below hB)
  have hl1 : (l.filter (isO k)).length ≤ 5000 := Nat.le_trans (List.length_filter_le _ _) hln
  have g2 : ∀ W a1 c1, SRow oc 7 W a1 c1 (l.filter (isO k)) → Calls Tryz.prog 53 #[.slice a1 (l.filter (isO k)).length c1, .func (.func 89) #[] #[]] W (RowO ((l.filter (isO k)).filter kin18) W) := fun W a1 c1 h => filL_any a1 c1 _ (by omega) W h
  obtain ⟨M, hM⟩ : ∃ M, (l.filter (isO k)).filter kin18 = M := ⟨_, rfl⟩
  have hc := latV_cases l k hti M hM
  have hl2 : M.length ≤ 5000 := by rw [← hM]; exact Nat.le_trans (List.length_filter_le _ _) hl1
  rw [hM] at g2
  obtain ⟨F, hF⟩ : ∃ F, l.filter (isO k) = F := ⟨_, rfl⟩
  rw [hF] at g1 g2 hl1
  obtain ⟨V, hV⟩ : ∃ V, latV l k = V := ⟨_, rfl⟩
  rw [hV] at hc ⊢
  have G1 := Lib.hid g1; have G2 := Lib.hid g2; have HC := Lib.hid hc
  clear g1 g2 hM hF hV hc hv hid hT hrow hti
  obtain ⟨k1, k2, k3⟩ := k
  show Calls Tryz.prog 65 #[.slice a l.length cap, .agg #[.int .i64 k1, .int .u64 k2, .int .i64 k3]] w _
  have q0 : ((0 : Int) != 0) = false := rfl
  go_enter Tryz.func65, Tryz.ntmps65
  go_upto_region 5 with (first
    | (go_at_call 23; (with_reducible refine (G1.out _ (by (repeat (first | (with_reducible assumption) | (with_reducible exact Below.refl _ _) | (with_reducible refine beld_drew ?_) | ((with_reducible refine bset' ?_ ?_); (first | (focus (dsimp only; assumption)) | (focus (simp; done)) | (focus (dsimp only; omega)))) | (with_reducible refine belt_alloc ?_) | ((with_reducible refine zeroed_below' ?_ ?_); (first | (focus (simp; done)) | (focus (dsimp only; omega)))) | (with_reducible refine bt ?_ (by assumption)))))).mono ?_); rintro e w2 ⟨v2, rfl, ho2, h2⟩; (obtain ⟨a2, c2, rfl, hS2, _⟩ := srow_of_owns oc_len ho2); (have HS2 := Lib.hid hS2); (have B2 : Below w.heap.size w w2 := (by (repeat (first | (with_reducible assumption) | (with_reducible exact Below.refl _ _) | (with_reducible refine beld_drew ?_) | ((with_reducible refine bset' ?_ ?_); (first | (focus (dsimp only; assumption)) | (focus (simp; done)) | (focus (dsimp only; omega)))) | (with_reducible refine belt_alloc ?_) | ((with_reducible refine zeroed_below' ?_ ?_); (first | (focus (simp; done)) | (focus (dsimp only; omega)))) | (with_reducible refine bt ?_ (by assumption)))))); clear ho2 hS2 h2)
    | (go_at_call 53; (with_reducible refine (G2.out _ _ _ HS2.out).mono ?_); rintro e w4 ⟨v4, rfl, ho4, h4⟩; (obtain ⟨a4, c4, rfl, hS4, _⟩ := srow_of_owns oc_len ho4); (have HS4 := Lib.hid hS4); (have B4 := bt B2 h4); clear ho4 h4 hS4))
  rcases HC.out with ⟨h1, rfl⟩ | ⟨x, d, rfl, hx, hd, hc⟩
  · have t1 : ((M.length : Int) != 2) = true := by simp; omega
    clear HC G1 G2 h1
    go_wp2
    go_ret2
    exact ⟨rfl, B4⟩
  · clear HC G1 G2 HS2
    obtain ⟨b, off, rfl, hbl, hcs⟩ := HS4.out.2.2.2 (by simp)
    have r0 := hcs 0 (by simp)
    have r1 := hcs 1 (by simp)
    have k0 : w4.cell? ⟨b, off + 2, none⟩ = some (.int .i64 x.ki) := r0 2 _ rfl
    have k1' : w4.cell? ⟨b, off + 7 + 2, none⟩ = some (.int .i64 d.ki) := r1 2 _ rfl
    have HB := Lib.hid (And.intro hbl (And.intro r0 r1))
    clear hbl hcs r0 r1 HS4
    rcases hc with ⟨h1, rfl⟩ | ⟨h1, h2, rfl⟩ | ⟨h1, h2, rfl⟩
    · have t1 : (x.ki != 1) = true := by simp [h1]
      clear h1
      go_wp2
      go_ret2
      exact ⟨rfl, B4⟩
    · have t1 : (x.ki != 1) = false := by simp [h1]
      have t2 : (d.ki != 8) = true := by simp [h2]
      clear h1 h2
      go_wp2
      go_ret2
      exact ⟨rfl, B4⟩
    · have t1 : (x.ki != 1) = false := by simp [h1]
      have t2 : (d.ki != 8) = false := by simp [h2]
      clear h1 h2
      go_upto_region 7 with fail
      refine wp_region_in (by kernel_rfl) (by kernel_rfl) ?_
      intro W0 hE hN
      have qB : Below w.heap.size w W0 := (by rw [hE.out]; exact B4)
      have qb := HB
      rw [← hE.out] at qb
      have n1 : ∀ X : Class (Calm W0), X.wd.cell? ⟨b, off, none⟩ = some (.int .i64 x.ti) := fun X => (X.ok.cell (p := ⟨b, off, none⟩) qb.out.1).trans (by have := qb.out.2.1 0 _ rfl; simpa using this)
      have n2 : ∀ X : Class (Calm W0), X.wd.cell? ⟨b, off + 7, none⟩ = some (.int .i64 d.ti) := fun X => (X.ok.cell (p := ⟨b, off + 7, none⟩) qb.out.1).trans (by have := qb.out.2.2 0 _ rfl; simpa using this)
      have m1 : IntKind.i64.wrap (d.ti - x.ti) = d.ti - x.ti := IntWalk.i64_in _ (by omega)
      clear hE B4 k0 k1' HB
      repeat (go_big_quiet_step (fail))
      refine wpQuiet_nil ?_
      rintro _ ⟨x', rfl⟩
      have b3 := bt qB x'.ok
      go_wp2
      go_ret2
      exact ⟨rfl, b3⟩
end Go.Proofs.YthfmkkkdjgkaoaaGreatDoor
namespace Go.Proofs.YthfmkkkdjgkaoaaGreatDoor
open Go.RowKit
def RowB (base : Nat) (l : List Bn) (w : World) (e : Ending) (w' : World) : Prop := ∃ v, e = .returned v ∧ w'.ownsRow base 54 9 v l.length (rowC bn l) ∧ Below base w w'
theorem inP_nn (prio : Int) (l : List Bn) : l.filter (fun x => !(!inP prio x)) = l.filter (inP prio) := by
  congr 1; funext x; simp
set_option maxRecDepth 100000 in
set_option maxHeartbeats 6400000 in
theorem delete_any (base : Nat) (v : Value) (l : List Bn) (prio : Int) (c : Nat) (hl : l.length ≤ 100000) (w : World) (hb : base ≤ w.heap.size) (ho : w.ownsRow base 54 9 v l.length (rowC bn l)) (hc : c < base) (hk : blk w c = some #[.int .i64 prio]) :
    Calls Tryz.prog 86 #[v, .func (.func 88) #[] #[.pointer (some ⟨c, 0, none⟩)]] w (RowB base (l.filter (inP prio)) w) := by
  obtain ⟨a, cap, rfl, hS, hd⟩ := srow_of_owns bn_len ho
  have gi := indexW_any a cap l prio c w hS hk
  have HO := Lib.hid ho
  have hcap := hS.1
  have hmax := hS.2.1
  unfold maxLen at hmax
  rcases idxB_cases (fun x => !inP prio x) l with ⟨h1, h2⟩ | ⟨i, hi, h1, h2, h3⟩
  · rw [h1] at gi
    have GI := Lib.hid gi
    have e : l.filter (inP prio) = l := List.filter_eq_self.2 (fun x hx => by simpa using h2 x hx)
    rw [e]
    clear ho hd hS gi h1 h2 e hk
    go_enter Tryz.func86, Tryz.ntmps86
    go_wp2_with (go_at_call 104; (with_reducible refine (GI.out).mono ?_); rintro e w2 ⟨rfl, h2⟩)
    go_ret
    exact ⟨_, rfl, owns_belowS HO.out h2, h2.mono hb⟩
  · rw [h1] at gi
    have hs := DelM.start (p := fun x => !inP prio x) hi h2 h3
    have HS := Lib.hid hs
    have HK := Lib.hid hk
    rcases hd with ⟨_, rfl⟩ | ⟨g, cur, rfl, hg, hcu, hcs, hct⟩
    · simp at hi
    have hcg : c ≠ g := by omega
    clear ho hS h1 h2 h3 hs hk hcu hcs hct
    have q0 : ((i : Int) == -1) = false := by simp
    obtain ⟨n, hn⟩ : ∃ n, n = l.length := ⟨_, rfl⟩
    have HN := Lib.hid hn
    rw [← hn] at hl hcap hi gi ⊢
    have GI := Lib.hid gi
    clear hn gi
    have m0 : IntKind.i64.wrap ((i : Int) + 1) = ((i + 1 : Nat) : Int) := (IntWalk.i64_in _ (by omega)).trans (by omega)
    go_enter Tryz.func86, Tryz.ntmps86
    go_wp2_with (go_at_call 104; (with_reducible refine (GI.out).mono ?_); rintro e w2 ⟨rfl, h2⟩)
    have ho2 := owns_belowS HO.out h2
    have hB2 := h2.mono hb
    go_loopw [5, 6] (fun s5 s6 wr => ∃ i' j : Nat, ∃ m : List Bn, s5 = .int .i64 i' ∧ s6 = .int .i64 j ∧ j ≤ n ∧ Below base w wr ∧ Hid (DelM (fun x => !inP prio x) l m i' j ∧ wr.ownsRow base 54 9 (.slice (some ⟨g, 0, none⟩) n cap) n (rowC bn m))) (fun _ s6 _ => n - (intOf s6).toNat)
    case atStart => exact ⟨i, i + 1, l, rfl, by go_num, by omega, hB2, Lib.hid ⟨HS.out, by have := HN.out; subst this; exact ho2⟩⟩
    case round =>
      clear ho2 hB2 m0
      obtain ⟨i', j, m, rfl, rfl, hj, hB, HM⟩ := hrel
      have hij := HM.out.1.ij
      have hml : m.length = n := by rw [HM.out.1.len, HN.out]
      have HML := Lib.hid hml
      by_cases hlt : j < n
      · have hltz : (j : Int) < (n : Int) := by omega
        obtain ⟨x, hx⟩ : ∃ x, x = m[j]'(by omega) := ⟨_, rfl⟩
        have hxl : ∃ h : j < l.length, l[j] = x := ⟨by have := HN.out; omega, by rw [hx, HM.out.1.at (by have := HN.out; omega)]⟩
        have hr : wr.rangeAt g (j * 9) (bn x) := by
          rw [hx]
          have := HM.out.2
          rw [← HML.out] at this
          exact owns_range bn_len this (by omega)
        have HXL := Lib.hid hxl
        clear hx hxl hml
        go_upto_region 7 with fail
        refine wp_region_lit ?_
        refine Go.Great.wpList_readTo rfl _ rfl (.slice (some ⟨g, 0, none⟩) n cap) rfl ?_
        refine Go.Great.wpList_readTo rfl _ rfl (.int .i64 j) rfl ?_
        refine Go.Great.wpList_readTo rfl _ rfl (.pointer (some ⟨g, j * 9, none⟩)) (by go_simp) ?_
        refine wpList_elem3 54 (.tmp 24) g (j * 9) (bn x) #[.int .i64 0, .int .u64 0, .int .i64 0, .int .i64 0, .int .i64 0, .int .i64 0, .int .i64 0, .int .i64 0, .string ⟨#[]⟩] hr rfl rfl rfl _ Tryz.underlying54 rfl (by kernel_rfl) rfl (by kernel_rfl) rfl _ _ rfl rfl rfl rfl (bn_one x) ?_
        intro c0 w1 hc0 kb hB1
        conv => arg 5; simp [Act.put]
        have hB3 : Below base w w1 := hB.trans (hB1.mono (Nat.le_trans hb hB.size))
        have ho3 := owns_belowS HM.out.2 hB1
        have gb1 := Nat.le_trans hb hB.size
        have kc1 : blk w1 c = some #[.int .i64 prio] := (blk_kept (hB3.block c hc)).trans HK.out
        have hlc : base ≤ c0 := by omega
        have hgl : g < wr.heap.size := by
          obtain ⟨_, _, e1, _, h9, _⟩ := owns_cells bn_len (by have := HM.out.2; rwa [← HML.out] at this) (by have := HML.out; omega)
          cases e1; exact h9
        have hgc : g ≠ c0 := by omega
        have kb : blk w1 c0 = some #[.int .i64 x.no, .int .u64 x.sq, .int .i64 x.of, .int .i64 x.de, .int .i64 x.pr, .int .i64 x.bo, .int .i64 x.li, .int .i64 x.to, .string x.da] := kb
        have nk := kn kb
        have gp := withF_any x prio c w1 kc1
        obtain ⟨q, hq⟩ : ∃ q, (!inP prio x) = q := ⟨_, rfl⟩
        rw [hq] at gp
        have HQ := Lib.hid hq
        have GP := Lib.hid gp
        have HO3 := Lib.hid ho3
        clear gp hq ho3 hr hc0 kc1 gb1 hgl
        cases q
        · have ii : (i' : Int) < (n : Int) := by omega
          have m1 : IntKind.i64.wrap ((i' : Int) + 1) = ((i' + 1 : Nat) : Int) := (IntWalk.i64_in _ (by omega)).trans (by omega)
          have M1 := Lib.hid m1
          clear m1
          go_upto_region 9 with (go_at_call 88; (with_reducible refine (GP.out).mono ?_); rintro e w3 ⟨rfl, h3⟩)
          have kb3 := blk_below h3 kb
          have hB4 : Below base w w3 := hB3.trans (h3.mono (Nat.le_trans hb hB3.size))
          refine wp_region_lit ?_
          refine Go.Great.wpList_readTo rfl _ rfl (.slice (some ⟨g, 0, none⟩) n cap) rfl ?_
          refine Go.Great.wpList_readTo rfl _ rfl (.int .i64 i') rfl ?_
          refine wpList_load_mid rfl 54 (.tmp 7) rfl c0 0 rfl (bn x) _ (range_of_blk kb3 0 (bn x) rfl) Tryz.underlying54 rfl (by kernel_rfl) ?_
          refine Go.Great.wpList_readTo rfl _ rfl (.pointer (some ⟨g, i' * 9, none⟩)) (by go_simp) ?_
          refine wpList_store_own bn_len bn_one 54 (.tmp 33) (.tmp 32) base 54 m g cap i' x (by have := owns_belowS HO3.out h3; rwa [← HML.out] at this) rfl rfl rfl rfl (by have := HML.out; omega) (by kernel_rfl) ?_
          intro w4 ho4 B4 z4
          conv => arg 5; simp [Act.put]
          have hB5 : Below base w w4 := B4 _ _ hg hB4
          have hrel2 : Hid (DelM (fun x => !inP prio x) l (m.set i' x) (i' + 1) (j + 1) ∧ w4.ownsRow base 54 9 (.slice (some ⟨g, 0, none⟩) n cap) n (rowC bn (m.set i' x))) := by
            obtain ⟨h8, h9⟩ := HXL.out
            have := HM.out.1.keep h8 (by rw [h9]; exact HQ.out)
            rw [h9] at this
            refine Lib.hid ⟨this, ?_⟩
            rw [List.length_set, HML.out] at ho4
            exact ho4
          clear ho4 B4 z4 kb3 hB4 nk
          go_wp2
          go_roundw
          case rel => exact ⟨i' + 1, j + 1, m.set i' x, by go_num, by go_num, by omega, hB5, hrel2⟩
          case measure => simp [intOf]; omega
        · go_wp2_with (go_at_call 88; (with_reducible refine (GP.out).mono ?_); rintro e w3 ⟨rfl, h3⟩)
          have hrel2 : Hid (DelM (fun x => !inP prio x) l m i' (j + 1) ∧ w3.ownsRow base 54 9 (.slice (some ⟨g, 0, none⟩) n cap) n (rowC bn m)) := by
            obtain ⟨h8, h9⟩ := HXL.out
            exact Lib.hid ⟨HM.out.1.skip h8 (by rw [h9]; exact HQ.out), owns_belowS HO3.out h3⟩
          go_roundw
          case rel => exact ⟨i', j + 1, m, rfl, by go_num, by omega, hB3.trans (h3.mono (Nat.le_trans hb hB3.size)), hrel2⟩
          case measure => simp [intOf]; omega
      · obtain rfl : j = n := by omega
        have hfin : m.take i' = l.filter (inP prio) := by
          have := HM.out.1
          rw [HN.out] at this
          have := this.done
          rwa [inP_nn] at this
        have HF := Lib.hid hfin
        have i1 : (i' : Int) ≤ (j : Int) := by omega
        have i2 : (j : Int) ≤ (cap : Int) := by omega
        have i3 : (i' : Int) ≤ (cap : Int) := by omega
        have n1 : ¬ cap = i' := by omega
        have n2 : ¬ cap = 0 := by omega
        obtain ⟨cur2, hcu2, hcz⟩ : ∃ cur, blk wr g = some cur ∧ j * 9 ≤ cur.size := by
          obtain ⟨_, h2⟩ := HM.out.2
          rcases h2 with ⟨h2, _⟩ | ⟨g', cap', cur, h3, h4, h5, h6, h7, h8, h9⟩
          · cases h2
          · simp only [Value.slice.injEq, Option.some.injEq, Addr.mk.injEq] at h3
            obtain ⟨⟨rfl, _⟩, _, rfl⟩ := h3
            exact ⟨cur, blk_of h5, by rw [h8]; exact Nat.mul_le_mul_right _ h6⟩
        have HCU := Lib.hid hcu2
        have ho4 := owns_setCells (Builtin.zeroCells (Value.agg #[.int .i64 0, .int .u64 0, .int .i64 0, .int .i64 0, .int .i64 0, .int .i64 0, .int .i64 0, .int .i64 0, .string ⟨#[]⟩]).cells (j - i')).toList (i' * 9) (rowC bn m) wr HM.out.2 (by rw [zeroCells_len, show ((Value.agg #[.int .i64 0, .int .u64 0, .int .i64 0, .int .i64 0, .int .i64 0, .int .i64 0, .int .i64 0, .int .i64 0, .string ⟨#[]⟩]).cells).size = 9 from rfl]; omega)
        have ho5 := owns_shrink ho4 (show i' ≤ j by omega)
        rw [setL_takeW _ _ _ _ (Nat.le_refl _)] at ho5
        have e5 : (rowC bn m).take (i' * 9) = rowC bn (m.take i') := by
          have h8 := List.take_append_drop i' m
          conv => lhs; rw [← h8, rowC_append]
          have h9 : (rowC bn (m.take i')).length = i' * 9 := by rw [rowC_length bn_len, List.length_take, Nat.min_eq_left (by omega)]
          rw [← h9, List.take_left]
        rw [e5, hfin] at ho5
        have HO5 := Lib.hid ho5
        have hln : (l.filter (inP prio)).length = i' := by rw [← hfin, List.length_take, Nat.min_eq_left (by omega)]
        have HLN := Lib.hid hln
        clear hfin hcu2 ho4 ho5 e5 hml hln
        go_upto_region 11 with fail
        refine wp_region_lit ?_
        refine Go.Great.wpList_readTo rfl _ rfl (.slice (some ⟨g, 0, none⟩) j cap) rfl ?_
        refine Go.Great.wpList_readTo rfl _ rfl (.int .i64 i') rfl ?_
        refine Go.Great.wpList_readTo rfl _ rfl (.slice (some ⟨g, i' * 9, none⟩) (j - i') (cap - i')) (by go_simp) ?_
        refine wpList_clearN rfl (.tmp 38) 22 54 rfl Tryz.underlying22 (.agg #[.int .i64 0, .int .u64 0, .int .i64 0, .int .i64 0, .int .i64 0, .int .i64 0, .int .i64 0, .int .i64 0, .string ⟨#[]⟩]) (by kernel_rfl) (by decide) (by intro u hu; simp only [Value.cells, List.mem_cons, List.not_mem_nil, or_false] at hu; rcases hu with rfl | rfl | rfl | rfl | rfl | rfl | rfl | rfl | rfl <;> rfl) g (i' * 9) (j - i') (cap - i') (by omega) (there_of_blk HCU.out (by rw [show ((Value.agg #[.int .i64 0, .int .u64 0, .int .i64 0, .int .i64 0, .int .i64 0, .int .i64 0, .int .i64 0, .int .i64 0, .string ⟨#[]⟩]).cells).size = 9 from rfl]; omega)) rfl ?_
        conv => arg 5; simp [Act.put]
        have hB6 : Below base w (wr.setCells g (i' * 9) (Builtin.zeroCells (Value.agg #[.int .i64 0, .int .u64 0, .int .i64 0, .int .i64 0, .int .i64 0, .int .i64 0, .int .i64 0, .int .i64 0, .string ⟨#[]⟩]).cells (j - i')).toList) := below_setCells hg _ _ _ hB
        obtain ⟨w6, hw6⟩ : ∃ v, v = wr.setCells g (i' * 9) (Builtin.zeroCells (Value.agg #[.int .i64 0, .int .u64 0, .int .i64 0, .int .i64 0, .int .i64 0, .int .i64 0, .int .i64 0, .int .i64 0, .string ⟨#[]⟩]).cells (j - i')).toList := ⟨_, rfl⟩
        replace HO5 := Lib.hid (by have := HO5.out; rw [← hw6] at this; exact this)
        rw [← hw6] at hB6 ⊢
        clear hw6
        go_wp2
        go_ret
        refine ⟨_, rfl, ?_, hB6⟩
        rw [HLN.out]
        exact HO5.out
set_option maxRecDepth 100000 in
set_option maxHeartbeats 1600000 in
theorem with_any (ab : Option Addr) (cb : Nat) (b : List Bn) (vo : Value) (prio : Int) (hl : b.length ≤ 100000) (w : World) (hb : SRow bn 9 w ab cb b) :
    Calls Tryz.prog 64 #[.agg #[.slice ab b.length cb, vo], .int .i64 prio] w (RowB w.heap.size (b.filter (inP prio)) w) := by
  have g1 : ∀ W, Below w.heap.size w W → Calls Tryz.prog 87 #[.slice ab b.length cb] W fun e w' => OwnR bn 9 54 b W e w' := fun W hB => cloneB_any ab cb b hl W (hb.below hB)
  have G1 := Lib.hid g1
  have HL := Lib.hid hl
  clear g1 hl hb
  go_enter Tryz.func64, Tryz.ntmps64
  go_wp2_with (go_at_call 87; (with_reducible refine (G1.out _ (by (repeat (first | (with_reducible assumption) | (with_reducible exact Below.refl _ _) | (with_reducible refine beld_drew ?_) | ((with_reducible refine bset' ?_ ?_); (first | (focus (dsimp only; assumption)) | (focus (simp; done)) | (focus (dsimp only; omega)))) | (with_reducible refine belt_alloc ?_) | ((with_reducible refine zeroed_below' ?_ ?_); (first | (focus (simp; done)) | (focus (dsimp only; omega)))) | (with_reducible refine bt ?_ (by assumption)))))).mono ?_); rintro e w2 ⟨v2, rfl, ho2, h2⟩; (have kp : blk w2 (w.heap.size + 1) = some #[.int .i64 prio] := (by (apply blk_to; (focus (repeat (first | (with_reducible assumption) | (with_reducible apply blk_drew) | (with_reducible apply blk_set) | ((with_reducible apply blk_other'); (first | (focus (dsimp only; assumption)) | (focus (simp; done)) | (focus (dsimp only; omega)))) | ((with_reducible apply blk_alloc_new); (first | (with_reducible rfl) | (focus (simp; done)) | (focus (simp; omega)))) | (with_reducible apply blk_alloc) | ((with_reducible apply blk_below); (with_reducible assumption))))); rfl))); (have B2 : Below w.heap.size w w2 := (by (repeat (first | (with_reducible assumption) | (with_reducible exact Below.refl _ _) | (with_reducible refine beld_drew ?_) | ((with_reducible refine bset' ?_ ?_); (first | (focus (dsimp only; assumption)) | (focus (simp; done)) | (focus (dsimp only; omega)))) | (with_reducible refine belt_alloc ?_) | ((with_reducible refine zeroed_below' ?_ ?_); (first | (focus (simp; done)) | (focus (dsimp only; omega)))) | (with_reducible refine bt ?_ (by assumption)))))); (have hs2 := h2.size); simp at hs2)
  have gd := delete_any (w.heap.size + 2) v2 b prio (w.heap.size + 1) HL.out w2 (by omega) (owns_base ho2 (by simp)) (by omega) kp
  have GD := Lib.hid gd
  clear gd ho2 kp
  (with_reducible refine (GD.out).mono ?_)
  rintro e w3 ⟨v3, rfl, ho3, h3⟩
  have HO3 := Lib.hid ho3
  clear ho3
  go_wp2
  go_ret
  exact ⟨_, rfl, owns_base HO3.out (by omega), B2.trans (h3.mono (by omega))⟩
end Go.Proofs.YthfmkkkdjgkaoaaGreatDoor
