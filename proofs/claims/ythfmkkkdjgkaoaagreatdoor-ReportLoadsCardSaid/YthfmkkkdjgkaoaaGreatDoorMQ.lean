/- Parts of a proof, printed by a program of mine out of my texts: RpROf, RpRLt, RpRLf. -/
import Derived.Deep.CutRange
import Derived.Test.YthfmkkkdjgkaoaaGreatDoorMI
import Derived.Test.YthfmkkkdjgkaoaaGreatDoorMK
import Derived.Test.YthfmkkkdjgkaoaaGreatDoorML
import Derived.Test.YthfmkkkdjgkaoaaGreatDoorMM
import Derived.Test.YthfmkkkdjgkaoaaGreatDoorMP
import Derived.Test.YthfmkkkdjgkaoaaGreatDoorMX10
set_option linter.unusedSimpArgs false
set_option linter.unusedVariables false
namespace Go.Proofs.YthfmkkkdjgkaoaaGreatDoor
open Go.RowKit
def isU (k : Id3) (o : Oc) : Bool := useI o.ki && decide (oid o = k)
set_option maxRecDepth 100000 in
set_option maxHeartbeats 3200000 in
theorem rof_any (a : Option Addr) (cap : Nat) (l : List Oc) (k : Id3) (hln : l.length ≤ 5000) (hv : (trcC l).1 = 0) (hid : idC k.1 k.2.1 k.2.2 = 0) (w : World) (hrow : SRow oc 7 w a cap l) :
    Calls Tryz.prog 94 #[.slice a l.length cap, .agg (idL k).toArray] w (RetO (l.filter (isU k)) 0 w) := by
  have HR := Lib.hid hrow
  have hcap := hrow.1
  have hmax := hrow.2.1
  unfold maxLen at hmax
  have g1 : ∀ W, Below w.heap.size w W → Calls Tryz.prog 60 #[.slice a l.length cap] W fun e w' => e = .returned (.tuple #[.int .i64 0, .int .i64 (trcC l).2]) ∧ Below W.heap.size W w' := fun W hB => by
    have := rtcheck_any a cap l W (hrow.below hB)
    rwa [hv] at this
  have g2 : ∀ W, Calls Tryz.prog 84 #[.agg #[.int .i64 k.1, .int .u64 k.2.1, .int .i64 k.2.2]] W fun e w' => e = .returned (.int .i64 0) ∧ Below W.heap.size W w' := fun W => by
    have := refCheckID_any k.1 k.2.1 k.2.2 W
    rwa [hid] at this
  obtain ⟨t2, ht2⟩ : ∃ t, (trcC l).2 = t := ⟨_, rfl⟩
  rw [ht2] at g1
  have G1 := Lib.hid g1; have G2 := Lib.hid g2
  clear g1 g2 hv hid hrow ht2
  obtain ⟨i0, hi, hz0, hz1, hz2⟩ := info_parts infoOc
  have Hi := Lib.hid hi; have Hz0 := Lib.hid hz0; have Hz1 := Lib.hid hz1; have Hz2 := Lib.hid hz2
  clear hi hz0 hz1 hz2
  obtain ⟨k1, k2, k3⟩ := k
  show Calls Tryz.prog 94 #[.slice a l.length cap, .agg #[.int .i64 k1, .int .u64 k2, .int .i64 k3]] w _
  have q0 : ((0 : Int) != 0) = false := rfl
  go_enter Tryz.func94, Tryz.ntmps94
  go_wp2_with (first
    | (go_at_call 60; (with_reducible refine (G1.out _ (by (repeat (first | (with_reducible assumption) | (with_reducible exact Below.refl _ _) | (with_reducible refine beld_drew ?_) | ((with_reducible refine bset' ?_ ?_); (first | (focus (dsimp only; assumption)) | (focus (simp; done)) | (focus (dsimp only; omega)))) | (with_reducible refine belt_alloc ?_) | ((with_reducible refine zeroed_below' ?_ ?_); (first | (focus (simp; done)) | (focus (dsimp only; omega)))) | (with_reducible refine bt ?_ (by assumption)))))).mono ?_); rintro e w2 ⟨rfl, h2⟩; (have kb : blk w2 w.heap.size = some #[.int .i64 k1, .int .u64 k2, .int .i64 k3] := (by (apply blk_to; (focus (repeat (first | (with_reducible assumption) | (with_reducible apply blk_drew) | (with_reducible apply blk_set) | ((with_reducible apply blk_other'); (first | (focus (dsimp only; assumption)) | (focus (simp; done)) | (focus (dsimp only; omega)))) | ((with_reducible apply blk_alloc_new); (first | (with_reducible rfl) | (focus (simp; done)) | (focus (simp; omega)))) | (with_reducible apply blk_alloc) | ((with_reducible apply blk_below); (with_reducible assumption))))); rfl))); (have nk := kn kb); (have B2 : Below w.heap.size w w2 := (by (repeat (first | (with_reducible assumption) | (with_reducible exact Below.refl _ _) | (with_reducible refine beld_drew ?_) | ((with_reducible refine bset' ?_ ?_); (first | (focus (dsimp only; assumption)) | (focus (simp; done)) | (focus (dsimp only; omega)))) | (with_reducible refine belt_alloc ?_) | ((with_reducible refine zeroed_below' ?_ ?_); (first | (focus (simp; done)) | (focus (dsimp only; omega)))) | (with_reducible refine bt ?_ (by assumption)))))); clear h2)
    | (go_at_call 84; (with_reducible refine (G2.out _).mono ?_); rintro e w3 ⟨rfl, h3⟩; (have kb3 := blk_below h3 kb); (have B3 := bt B2 h3); clear h3 nk kb))
  have KB := Lib.hid kb3
  clear kb3 G1 G2 B2
  go_loopw [8, 9] (fun s8 i wr => ∃ j : Nat, i = .int .i64 j ∧ j ≤ l.length ∧ Below w.heap.size w wr ∧ Hid (blk wr w.heap.size = some #[.int .i64 k1, .int .u64 k2, .int .i64 k3] ∧ wr.ownsRow (w.heap.size + 1) 56 7 s8 ((l.take j).filter (isU (k1, k2, k3))).length (rowC oc ((l.take j).filter (isU (k1, k2, k3))))) ∧ w.heap.size + 1 ≤ wr.heap.size) (fun _ i _ => l.length - (intOf i).toNat)
  case atStart => exact ⟨0, rfl, Nat.zero_le _, B3, Lib.hid ⟨KB.out, by simpa [rowC] using World.ownsRow_nil w3 _ _ _⟩, by have := blk_lt KB.out; omega⟩
  case round =>
    clear B3 KB
    obtain ⟨j, rfl, hj, hB, HO, hsz⟩ := hrel
    by_cases hlt : j < l.length
    · have hltz : (j : Int) < (l.length : Int) := by omega
      obtain ⟨g, off, hab, hbl, hcs⟩ := (HR.out.below hB).2.2.2 (by omega)
      subst hab
      obtain ⟨x, hx⟩ : ∃ x, x = l[j] := ⟨_, rfl⟩
      have hr := hcs j hlt
      rw [← hx] at hr
      have hsn := filter_snoc (isU (k1, k2, k3)) l j hlt
      rw [← hx] at hsn
      have hnl : ((l.take j).filter (isU (k1, k2, k3))).length ≤ j := Nat.le_trans (List.length_filter_le _ _) (List.length_take_le _ _)
      have gu : ∀ W, Calls Tryz.prog 61 #[.int .i64 x.ki] W fun e w' => e = .returned (.bool (useI x.ki)) ∧ W = w' := fun W => usesI_any x.ki W
      have E := fun W => run_idKEq (oid x) (k1, k2, k3) W
      obtain ⟨q, hq⟩ : ∃ q, decide (oid x = (k1, k2, k3)) = q := ⟨_, rfl⟩
      obtain ⟨ui, hui⟩ : ∃ q, useI x.ki = q := ⟨_, rfl⟩
      have hp : isU (k1, k2, k3) x = (ui && q) := by unfold isU; rw [hui, hq]
      rw [hq] at E
      rw [hui] at gu
      rw [hp] at hsn
      have E : ∀ W, Sem.run Tryz.prog (binOp BinOp.eql 52 (.agg #[.int .i64 x.ino, .int .u64 x.isq, .int .i64 x.iof]) (.agg #[.int .i64 k1, .int .u64 k2, .int .i64 k3])) W = .ok (.bool q) W := E
      have HSN := Lib.hid hsn
      have HNL := Lib.hid hnl
      have GU := Lib.hid gu
      clear hx hcs hq hui hp gu hsn hnl
      have hun : undef = Value.tuple #[] := rfl
      obtain ⟨L, hL⟩ : ∃ L, (l.take j).filter (isU (k1, k2, k3)) = L := ⟨_, rfl⟩
      rw [hL] at HSN HNL HO
      clear hL
      go_upto_region 10 with fail
      go_cut [42] from 28 to 41 (fun s42 wq => s42 = .bool (ui && q) ∧ (Below w.heap.size w wq ∧ w.heap.size + 1 ≤ wq.heap.size) ∧ Hid (blk wq w.heap.size = some #[.int .i64 k1, .int .u64 k2, .int .i64 k3] ∧ wq.ownsRow (w.heap.size + 1) 56 7 u8 L.length (rowC oc L)) ∧ g < wq.heap.size ∧ Hid (wq.rangeAt g (off + j * 7) (oc x)))
      case first =>
        cases ui
        all_goals
          refine wp_region_in (by kernel_rfl) (by kernel_rfl) ?_
          intro W0 hE hN
          have q0 : blk W0 w.heap.size = some #[.int .i64 k1, .int .u64 k2, .int .i64 k3] := (by rw [hE.out]; exact HO.out.1)
          have q1 := HO.out.2
          rw [← hE.out] at q1
          have q2 : Below w.heap.size w W0 := (by rw [hE.out]; exact hB)
          have q3 : g < W0.heap.size := (by rw [hE.out]; exact hbl)
          have q4 : W0.rangeAt g (off + j * 7) (oc x) := (by rw [hE.out]; exact hr)
          have q5 : w.heap.size + 1 ≤ W0.heap.size := (by rw [hE.out]; exact hsz)
          have n0 := calm_kn q0
          obtain ⟨n1, n2, n3, n4⟩ := calm_oid q3 q4
          clear hE hB hbl hr HO hsz
          repeat (go_big_quiet_step ((go_at_call 61; (with_reducible refine Class.same _ (GU.out _)))))
          refine wpQuiet_nil ?_
          rintro _ ⟨x', rfl⟩
          have b3 := bt q2 x'.ok
          have k5 := blk_below x'.ok q0
          have k6 := owns_belowS q1 x'.ok
          have k7 := range_below q3 q4 x'.ok
          have z3 := Nat.lt_of_lt_of_le q3 x'.ok.size
          have z5 := Nat.le_trans q5 x'.ok.size
          obtain ⟨u, hu⟩ : ∃ u, u = x'.wd := ⟨_, rfl⟩
          rw [← hu] at b3 k5 k6 z3 k7 z5
          rw [← hu]
          clear hu x' q0 q1 q2 q3 q4 q5 n0 n1 n2 n3 n4 hN W0
          (try simp only [← hun])
          go_wp2
          go_meet
          case rel => exact ⟨by simp, ⟨b3, z5⟩, Lib.hid ⟨k5, k6⟩, z3, Lib.hid k7⟩
      case rest =>
      obtain ⟨rfl, ⟨hB2, hsz2⟩, HO2, hbl2, HR2⟩ := hcut
      obtain ⟨p, hp⟩ : ∃ p, (ui && q) = p := ⟨_, rfl⟩
      rw [hp] at HSN
      rw [hp]
      (try simp only [← hun])
      clear hun hp E GU HO hB hsz hbl hr
      cases p
      · have ho2 : Hid (blk wc w.heap.size = some #[.int .i64 k1, .int .u64 k2, .int .i64 k3] ∧ wc.ownsRow (w.heap.size + 1) 56 7 u8 ((l.take (j + 1)).filter (isU (k1, k2, k3))).length (rowC oc ((l.take (j + 1)).filter (isU (k1, k2, k3))))) := Lib.hid ⟨HO2.out.1, by rw [HSN.out]; simpa using HO2.out.2⟩
        clear HO2 HSN
        go_wp2
        go_roundw
        case rel => exact ⟨j + 1, by go_num, by omega, hB2, ho2, hsz2⟩
        case measure => simp [intOf]; omega
      · go_upto_region 11 with fail
        refine wp_region_lit ?_
        refine Go.Great.wpList_readTo rfl _ rfl u8 rfl ?_
        refine Go.Great.wpList_readTo rfl _ rfl (.slice (some ⟨g, off, none⟩) l.length cap) rfl ?_
        refine Go.Great.wpList_readTo rfl _ rfl (.int .i64 j) rfl ?_
        refine Go.Great.wpList_readTo rfl _ rfl (.pointer (some ⟨g, off + j * 7, none⟩)) (by go_simp) ?_
        refine wpList_load_mid rfl 56 (.tmp 46) rfl g (off + j * 7) rfl [.int .i64 x.ti, .int .i64 x.no, .int .i64 x.ki, .int .i64 x.ino, .int .u64 x.isq, .int .i64 x.iof, .int .i64 x.ot] _ HR2.out Tryz.underlying56 rfl (by kernel_rfl) ?_
        conv => arg 5; simp [Act.put]
        go_wp2_with (at_builtin; go_loud (refine wpList_append_struct (enc := oc) rfl _ _ 23 rfl (w.heap.size + 1) 56 i0 (.agg #[.int .i64 0, .int .i64 0, .int .i64 0, .int .i64 0, .int .u64 0, .int .i64 0, .int .i64 0]) 7 56 Tryz.underlying23 Hi.out Hz0.out Hz1.out Hz2.out rfl (by decide) oc_len oc_one _ L rfl (HO2.out.2.alloc _) wc.heap.size 1 x rfl (blk_alloc_new _ _ _ rfl) (by have := HNL.out; unfold maxLen; omega) (by have := HNL.out; omega) (by simp; omega) ?_); intro v' wb hown2 hgrow2)
        have hBl : Below w.heap.size w (wc.alloc (.cells #[.int .i64 x.ti, .int .i64 x.no, .int .i64 x.ki, .int .i64 x.ino, .int .u64 x.isq, .int .i64 x.iof, .int .i64 x.ot] 56)) := hB2.alloc hB2.size _
        have hB4 : Below w.heap.size w wb := hBl.grown hgrow2 (by have := hB2.size; simp; omega) (fun k e => by have := (HO2.out.2.lt k e).1; omega)
        have hne : ∀ k, u8.ownBlock = some k → k ≠ w.heap.size := fun k e => by have := (HO2.out.2.lt k e).1; omega
        have kb4 : blk wb w.heap.size = some #[.int .i64 k1, .int .u64 k2, .int .i64 k3] := (blk_kept (hgrow2.block w.heap.size (by simp; omega) (fun e => hne _ e.symm rfl))).trans (blk_alloc HO2.out.1 _)
        have ho3 : Hid (blk wb w.heap.size = some #[.int .i64 k1, .int .u64 k2, .int .i64 k3] ∧ wb.ownsRow (w.heap.size + 1) 56 7 v' ((l.take (j + 1)).filter (isU (k1, k2, k3))).length (rowC oc ((l.take (j + 1)).filter (isU (k1, k2, k3))))) := Lib.hid ⟨kb4, by
          rw [HSN.out]; exact hown2⟩
        have hsz4 : w.heap.size + 1 ≤ wb.heap.size := by have := hgrow2.size; simp at this; omega
        clear hown2 hgrow2 HO2 HSN hne kb4 hBl HR2
        go_wp2
        go_roundw
        case rel => exact ⟨j + 1, by go_num, by omega, hB4, ho3, hsz4⟩
        case measure => simp [intOf]; omega
    · obtain rfl : j = l.length := by omega
      have ho : Hid (wr.ownsRow w.heap.size 56 7 u8 (l.filter (isU (k1, k2, k3))).length (rowC oc (l.filter (isU (k1, k2, k3))))) := Lib.hid (by have := HO.out.2; rw [List.take_length] at this; exact owns_base this (by omega))
      clear HO
      go_wp2
      go_ret2
      exact ⟨_, rfl, ho.out, hB⟩
end Go.Proofs.YthfmkkkdjgkaoaaGreatDoor
namespace Go.Proofs.YthfmkkkdjgkaoaaGreatDoor
open Go.RowKit
set_option maxRecDepth 100000 in
set_option maxHeartbeats 3200000 in
theorem rlat_any (a : Option Addr) (cap : Nat) (l : List Oc) (k : Id3) (hln : l.length ≤ 5000) (hv : (trcC l).1 = 0) (hid : idC k.1 k.2.1 k.2.2 = 0) (hti : ∀ x ∈ l, 0 ≤ x.ti ∧ x.ti ≤ 1099511627776) (w : World) (hrow : SRow oc 7 w a cap l) :
    Calls Tryz.prog 73 #[.slice a l.length cap, .agg (idL k).toArray] w fun e w' => e = .returned (.tuple #[.int .i64 (latV l k).1, .int .i64 (latV l k).2]) ∧ Below w.heap.size w w' := by
  have g1 : ∀ W, Below w.heap.size w W → Calls Tryz.prog 94 #[.slice a l.length cap, .agg #[.int .i64 k.1, .int .u64 k.2.1, .int .i64 k.2.2]] W (RetO (l.filter (isU k)) 0 W) := fun W hB => rof_any a cap l k hln hv hid W (hrow.below hB)
  have hl1 : (l.filter (isU k)).length ≤ 5000 := Nat.le_trans (List.length_filter_le _ _) hln
  have hF1 : ∀ x ∈ l.filter (isU k), 0 ≤ x.ti ∧ x.ti ≤ 1099511627776 := fun x hx => hti x (List.mem_filter.1 hx).1
  have hE : rlE (rlG (l.filter (isU k)) (-1) (-1) 0) = latO l k := rlG_lat l k fun o ho => (hti o ho).1
  have hV : latV l k = (latO l k).elim (0, 8) fun n => (n, 0) := rfl
  rw [hV, ← hE]
  obtain ⟨F, hF⟩ : ∃ F, l.filter (isU k) = F := ⟨_, rfl⟩
  rw [hF] at g1 hl1 hF1 ⊢
  obtain ⟨V, hV0⟩ : ∃ V, rlG F (-1) (-1) 0 = V := ⟨_, rfl⟩
  have G1 := Lib.hid g1; have HF1 := Lib.hid hF1; have HV0 := Lib.hid hV0
  rw [hV0]
  clear g1 hF hE hV hV0 hv hid hrow hti hF1
  obtain ⟨R, hR⟩ : ∃ R : Int × Int, ((rlE V).elim (0, 8) fun n => (n, 0)) = R := ⟨_, rfl⟩
  rw [hR]
  have HR := Lib.hid hR
  clear hR
  obtain ⟨k1, k2, k3⟩ := k
  show Calls Tryz.prog 73 #[.slice a l.length cap, .agg #[.int .i64 k1, .int .u64 k2, .int .i64 k3]] w _
  have q0 : ((0 : Int) != 0) = false := rfl
  go_enter Tryz.func73, Tryz.ntmps73
  go_wp2_with (go_at_call 94; (with_reducible refine (G1.out _ (by (repeat (first | (with_reducible assumption) | (with_reducible exact Below.refl _ _) | (with_reducible refine beld_drew ?_) | ((with_reducible refine bset' ?_ ?_); (first | (focus (dsimp only; assumption)) | (focus (simp; done)) | (focus (dsimp only; omega)))) | (with_reducible refine belt_alloc ?_) | ((with_reducible refine zeroed_below' ?_ ?_); (first | (focus (simp; done)) | (focus (dsimp only; omega)))) | (with_reducible refine bt ?_ (by assumption)))))).mono ?_); rintro e w2 ⟨v2, rfl, ho2, h2⟩; (obtain ⟨a2, c2, rfl, hS2, _⟩ := srow_of_owns oc_len ho2); (have HS2 := Lib.hid hS2); (have B2 : Below w.heap.size w w2 := (by (repeat (first | (with_reducible assumption) | (with_reducible exact Below.refl _ _) | (with_reducible refine beld_drew ?_) | ((with_reducible refine bset' ?_ ?_); (first | (focus (dsimp only; assumption)) | (focus (simp; done)) | (focus (dsimp only; omega)))) | (with_reducible refine belt_alloc ?_) | ((with_reducible refine zeroed_below' ?_ ?_); (first | (focus (simp; done)) | (focus (dsimp only; omega)))) | (with_reducible refine bt ?_ (by assumption)))))); (have hcap := hS2.1); (have hmax := hS2.2.1); clear ho2 hS2 h2)
  unfold maxLen at hmax
  obtain ⟨N, hN⟩ : ∃ N, N = F.length := ⟨_, rfl⟩
  have HN := Lib.hid hN
  rw [← hN] at hcap hl1 ⊢
  clear hN G1
  go_loopw [8, 9, 10, 11] (fun s8 s9 s10 s11 wr => ∃ (j : Nat) (f t m : Int), s8 = .int .i64 f ∧ s9 = .int .i64 t ∧ s10 = .int .i64 m ∧ s11 = .int .i64 j ∧ j ≤ N ∧ (-1 ≤ f ∧ f ≤ 1099511627776 ∧ -1 ≤ t ∧ t ≤ 1099511627776 ∧ 0 ≤ m ∧ m ≤ j) ∧ Below w2.heap.size w2 wr ∧ Hid (rlG (F.drop j) f t m = V)) (fun _ _ _ s11 _ => N - (intOf s11).toNat)
  case atStart => exact ⟨0, -1, -1, 0, rfl, rfl, rfl, rfl, Nat.zero_le _, by omega, Below.refl _ _, HV0⟩
  case round =>
    obtain ⟨j, f, t, m, rfl, rfl, rfl, rfl, hj, hbd, hB, HG⟩ := hrel
    by_cases hlt : j < N
    · have hltz : (j : Int) < (N : Int) := by omega
      have hjl : j < F.length := by have := HN.out; omega
      obtain ⟨g, off, hab, hbl, hcs⟩ := (HS2.out.below hB).2.2.2 (by omega)
      subst hab
      obtain ⟨x, hx⟩ : ∃ x, x = F[j] := ⟨_, rfl⟩
      have hr := hcs j hjl
      rw [← hx] at hr
      have hxb := HF1.out x (by rw [hx]; exact List.getElem_mem _)
      have hg := HG.out
      rw [List.drop_eq_getElem_cons hjl, ← hx] at hg
      have k2' : wr.cell? ⟨g, off + j * 7 + 2, none⟩ = some (.int .i64 x.ki) := hr 2 _ rfl
      have k0' : wr.cell? ⟨g, off + j * 7, none⟩ = some (.int .i64 x.ti) := by have := hr 0 _ rfl; simpa using this
      have HG2 := Lib.hid hg
      clear hx hcs hg HG HV0 hr
      by_cases h1 : x.ki = 1
      · have t1 : (x.ki == 1) = true := by simp [h1]
        by_cases ht : 0 ≤ t
        · have hn : V = none := by rw [← HG2.out]; exact rlG_1n h1 ht
          have hR0 : R = (0, 8) := by rw [← HR.out, hn]; rfl
          subst hR0
          clear hn HG2 h1
          go_wp2
          go_ret2
          exact ⟨rfl, bt B2 hB⟩
        · have ht' : ¬ (0 : Int) ≤ t := ht
          have hg2 : rlG (F.drop (j + 1)) x.ti t (m + 1) = V := by rw [← rlG_1 h1 (by omega)]; exact HG2.out
          have HG3 := Lib.hid hg2
          have m1 : IntKind.i64.wrap (m + 1) = m + 1 := IntWalk.i64_in _ (by omega)
          clear hg2 HG2 h1
          go_wp2
          go_roundw
          case rel => exact ⟨j + 1, x.ti, t, m + 1, rfl, rfl, by go_num, by go_num, by omega, by omega, hB, HG3⟩
          case measure => simp [intOf]; omega
      · have t1 : (x.ki == 1) = false := by simp [h1]
        by_cases h8 : x.ki = 8
        · have t8 : (x.ki == 8) = true := by simp [h8]
          by_cases ht : f < 0 ∨ 0 ≤ t
          · have hn : V = none := by rw [← HG2.out]; exact rlG_8n h8 ht
            have hR0 : R = (0, 8) := by rw [← HR.out, hn]; rfl
            subst hR0
            clear hn HG2 h8 h1
            by_cases hf : f < 0
            · clear ht
              go_wp2
              go_ret2
              exact ⟨rfl, bt B2 hB⟩
            · have ht2 : 0 ≤ t := by omega
              clear ht
              go_wp2
              go_ret2
              exact ⟨rfl, bt B2 hB⟩
          · have hf : ¬ f < 0 := by omega
            have ht2 : ¬ (0 : Int) ≤ t := by omega
            have hg2 : rlG (F.drop (j + 1)) f x.ti m = V := by rw [← rlG_8 (f := f) (t := t) (m := m) h8 (by omega) (by omega)]; exact HG2.out
            have HG3 := Lib.hid hg2
            clear hg2 HG2 h8 h1 ht
            go_wp2
            go_roundw
            case rel => exact ⟨j + 1, f, x.ti, m, rfl, rfl, rfl, by go_num, by omega, by omega, hB, HG3⟩
            case measure => simp [intOf]; omega
        · have t8 : (x.ki == 8) = false := by simp [h8]
          have hg2 : rlG (F.drop (j + 1)) f t m = V := by
            rw [← HG2.out]; conv => rhs; unfold rlG
            rw [if_neg h1, if_neg h8]
          have HG3 := Lib.hid hg2
          clear hg2 HG2 h8 h1
          go_wp2
          go_roundw
          case rel => exact ⟨j + 1, f, t, m, rfl, rfl, rfl, by go_num, by omega, by omega, hB, HG3⟩
          case measure => simp [intOf]; omega
    · obtain rfl : j = N := by omega
      have hg := HG.out
      rw [HN.out, List.drop_length] at hg
      have hg : some (f, t, m) = V := hg
      have hr := HR.out
      rw [← hg] at hr
      clear HG HR HV0 hg
      by_cases hm : m = 1
      · have t1 : (m != 1) = false := by simp [hm]
        by_cases ht : t < 0
        · rw [rlE_no (.inr ht)] at hr
          have hr : ((0 : Int), (8 : Int)) = R := hr
          subst hr
          clear hm
          go_wp2
          go_ret2
          exact ⟨rfl, bt B2 hB⟩
        · subst hm
          rw [rlE_ok (by omega)] at hr
          have hr : (t - f, (0 : Int)) = R := hr
          subst hr
          have m1 : IntKind.i64.wrap (t - f) = t - f := IntWalk.i64_in _ (by omega)
          go_wp2
          go_ret2
          exact ⟨rfl, bt B2 hB⟩
      · have t1 : (m != 1) = true := by simp [hm]
        rw [rlE_no (.inl hm)] at hr
        have hr : ((0 : Int), (8 : Int)) = R := hr
        subst hr
        clear hm
        go_wp2
        go_ret2
        exact ⟨rfl, bt B2 hB⟩
end Go.Proofs.YthfmkkkdjgkaoaaGreatDoor
namespace Go.Proofs.YthfmkkkdjgkaoaaGreatDoor
open Go.RowKit
set_option maxRecDepth 100000 in
set_option maxHeartbeats 6400000 in
theorem rplate_any (ab al : Option Addr) (cb cl : Nat) (b : List Bn) (l : List Oc) (prio : Int) (hd : ∀ x ∈ b, x.da.size ≤ maxLen) (w : World) (hb : SRow bn 9 w ab cb b) (hl : SRow oc 7 w al cl l) :
    Calls Tryz.prog 45 #[.slice ab b.length cb, .slice al l.length cl, .int .i64 prio] w fun e w' => e = .returned (.tuple #[.agg (dv (latD b l prio)), .int .i64 (prioC b l prio)]) ∧ Below w.heap.size w w' := by
  have g : ∀ W, Below w.heap.size w W → Calls Tryz.prog 72 #[.slice ab b.length cb, .slice al l.length cl, .int .i64 prio] W fun e w' => e = .returned (.int .i64 (prioC b l prio)) ∧ Below W.heap.size W w' := fun W hB => rpchk_any ab al cb cl b l prio hd W (hb.below hB) (hl.below hB)
  by_cases hp : prioC b l prio = 0
  · have hv := prioC_v hp
    have hlen := hv.1.len
    have hp1 := hv.2.1
    have hp2 := hv.2.2
    have hcr : latD b l prio = dlyO (lats (b.filter (inP prio)) l) := by unfold latD; rw [if_pos hp]; rfl
    rw [hp] at g
    rw [hcr, hp]
    have gl : ∀ x ∈ b, ∀ W, Below w.heap.size w W → Calls Tryz.prog 73 #[.slice al l.length cl, .agg #[.int .i64 x.no, .int .u64 x.sq, .int .i64 x.of]] W fun e w' => e = .returned (.tuple #[.int .i64 (latV l (bid x)).1, .int .i64 (latV l (bid x)).2]) ∧ Below W.heap.size W w' := fun x hx W hB => rlat_any al cl l (bid x) hv.1.tlen hv.1.trc (bcode_id (hv.1.mem x hx)) hv.1.ticks W (hl.below hB)
    have hbd : ∀ f : List Bn, ∀ n ∈ lats f l, -1099511627776 ≤ n ∧ n ≤ 1099511627776 := fun f => lats_bd hv.1.ticks
    have GL := Lib.hid gl; have HBD := Lib.hid hbd
    have G := Lib.hid g
    have HR := Lib.hid hb
    have hcap := hb.1
    have hmax := hb.2.1
    unfold maxLen at hmax
    clear g gl hv hp hcr hd hb hl hbd
    have q0 : ((0 : Int) != 0) = false := rfl
    go_enter Tryz.func45, Tryz.ntmps45
    go_wp2_with (go_at_call 72; (with_reducible refine (G.out _ (by (repeat (first | (with_reducible assumption) | (with_reducible exact Below.refl _ _) | (with_reducible refine beld_drew ?_) | ((with_reducible refine bset' ?_ ?_); (first | (focus (dsimp only; assumption)) | (focus (simp; done)) | (focus (dsimp only; omega)))) | (with_reducible refine belt_alloc ?_) | ((with_reducible refine zeroed_below' ?_ ?_); (first | (focus (simp; done)) | (focus (dsimp only; omega)))) | (with_reducible refine bt ?_ (by assumption)))))).mono ?_); rintro e w2 ⟨rfl, h2⟩; (have kz : blk w2 w.heap.size = some #[.int .i64 0, .int .i64 0, .int .i64 0, .int .i64 0, .int .i64 0] := (by (apply blk_to; (focus (repeat (first | (with_reducible assumption) | (with_reducible apply blk_drew) | (with_reducible apply blk_set) | ((with_reducible apply blk_other'); (first | (focus (dsimp only; assumption)) | (focus (simp; done)) | (focus (dsimp only; omega)))) | ((with_reducible apply blk_alloc_new); (first | (with_reducible rfl) | (focus (simp; done)) | (focus (simp; omega)))) | (with_reducible apply blk_alloc) | ((with_reducible apply blk_below); (with_reducible assumption))))); rfl))); (have B2 : Below w.heap.size w w2 := (by (repeat (first | (with_reducible assumption) | (with_reducible exact Below.refl _ _) | (with_reducible refine beld_drew ?_) | ((with_reducible refine bset' ?_ ?_); (first | (focus (dsimp only; assumption)) | (focus (simp; done)) | (focus (dsimp only; omega)))) | (with_reducible refine belt_alloc ?_) | ((with_reducible refine zeroed_below' ?_ ?_); (first | (focus (simp; done)) | (focus (dsimp only; omega)))) | (with_reducible refine bt ?_ (by assumption)))))); clear h2)
    have lz := blk_lt kz
    have KZ := Lib.hid kz
    clear G kz
    obtain ⟨N, hN⟩ : ∃ N, N = b.length := ⟨_, rfl⟩
    have HN := Lib.hid hN
    rw [← hN] at hlen hcap ⊢
    clear hN
    go_loopw [9, 10, 11] (fun s9 s10 s11 wr => ∃ j : Nat, s11 = .int .i64 j ∧ j ≤ N ∧ Below w2.heap.size w2 wr ∧ Hid (s10 = .int .i64 (sumI (lats ((b.take j).filter (inP prio)) l)) ∧ wr.ownsRow w2.heap.size 3 1 s9 (ascO (lats ((b.take j).filter (inP prio)) l)).length (rowC ic (ascO (lats ((b.take j).filter (inP prio)) l))))) (fun _ _ s11 _ => N - (intOf s11).toNat)
    case atStart => exact ⟨0, rfl, Nat.zero_le _, Below.refl _ _, Lib.hid ⟨rfl, by simpa [rowC, lats, ascO, isort] using World.ownsRow_nil w2 _ _ _⟩⟩
    case round =>
      obtain ⟨j, rfl, hj, hB, HO⟩ := hrel
      by_cases hlt : j < N
      · have hltz : (j : Int) < (N : Int) := by omega
        have hjl : j < b.length := by have := HN.out; omega
        obtain ⟨g, off, hab, hbl, hcs⟩ := (HR.out.below (bt B2 hB)).2.2.2 (by omega)
        subst hab
        obtain ⟨x, hx⟩ : ∃ x, x = b[j] := ⟨_, rfl⟩
        have hr := hcs j hjl
        rw [← hx] at hr
        have gx := GL.out x (by rw [hx]; exact List.getElem_mem _)
        have GX := Lib.hid gx
        have hsn := filter_snoc (inP prio) b j hjl
        rw [← hx] at hsn
        have HSN := Lib.hid hsn
        have cp : wr.cell? ⟨g, off + j * 9 + 4, none⟩ = some (.int .i64 x.pr) := hr 4 _ rfl
        have hfl : ((b.take j).filter (inP prio)).length ≤ 1000 := Nat.le_trans (List.length_filter_le _ _) (by rw [List.length_take]; omega)
        obtain ⟨F, hF⟩ : ∃ F, F = (b.take j).filter (inP prio) := ⟨_, rfl⟩
        rw [← hF] at HSN hfl HO
        have hs10 := HO.out.1
        subst hs10
        have HO2 := Lib.hid HO.out.2
        have hun : undef = Value.tuple #[] := rfl
        clear hx hcs hsn gx hF HO
        by_cases hin : inP prio x = true
        · rw [hin] at HSN
          have HSN2 : Hid ((b.take (j + 1)).filter (inP prio) = F ++ [x]) := Lib.hid (by simpa using HSN.out)
          clear HSN
          have hcase : (decide (0 ≤ prio) = false) ∨ (decide (0 ≤ prio) = true ∧ (x.pr != prio) = false) := by
            unfold inP at hin
            by_cases h : prio < 0
            · exact .inl (decide_eq_false (by omega))
            · right
              refine ⟨decide_eq_true (by omega), ?_⟩
              simp [h] at hin
              simp [hin]
          clear hin
          have HRX := Lib.hid hr
          clear hr
          go_upto_region 9 with fail
          go_cut [38] from 28 to 37 (fun s38 wq => s38 = .bool false ∧ wq = wr)
          case first =>
            rcases hcase with h | ⟨h, h2⟩
            · go_wp2
              go_meet
              case rel => exact ⟨rfl, rfl⟩
            · go_wp2
              go_meet
              case rel => exact ⟨rfl, rfl⟩
          case rest =>
          obtain ⟨rfl, rfl⟩ := hcut
          clear hcase cp
          (try simp only [← hun])
          clear hun
          have c0 : wc.cell? ⟨g, off + j * 9, none⟩ = some (.int .i64 x.no) := by simpa using HRX.out 0 _ rfl
          have c1 : wc.cell? ⟨g, off + j * 9 + 1, none⟩ = some (.int .u64 x.sq) := HRX.out 1 _ rfl
          have c2 : wc.cell? ⟨g, off + j * 9 + 2, none⟩ = some (.int .i64 x.of) := HRX.out 2 _ rfl
          have GY := Lib.hid (GX.out wc (bt B2 hB))
          have hlv : latV l (bid x) = (latO l (bid x)).elim (0, 8) fun n => (n, 0) := rfl
          have hsn : lats ((b.take (j + 1)).filter (inP prio)) l = lats F l ++ (latO l (bid x)).toList := by rw [HSN2.out, lats_snoc]
          have hll : (lats F l).length ≤ 1000 := Nat.le_trans (lats_len _ _) hfl
          have hbd := HBD.out F
          have hsb := sum_bounds (lats F l) (-1099511627776) 1099511627776 hbd
          have hxb := HBD.out ((b.take (j + 1)).filter (inP prio))
          rw [hsn] at hxb
          have hS : -1099511627776000 ≤ sumI (lats F l) ∧ sumI (lats F l) ≤ 1099511627776000 := by omega
          obtain ⟨L, hL⟩ : ∃ L, lats F l = L := ⟨_, rfl⟩
          rw [hL] at HO2 hsn hll hS hxb ⊢
          obtain ⟨S, hSS⟩ : ∃ S, sumI L = S := ⟨_, rfl⟩
          rw [hSS] at hS ⊢
          have HSS := Lib.hid hSS
          have HLS := Lib.hid hsn
          clear hL hsn hbd hsb HSN2 GX HRX hbl hfl hSS
          cases hlo : latO l (bid x) with
          | none =>
            rw [hlo] at hlv HLS
            replace hlv : latV l (bid x) = (0, 8) := hlv
            rw [hlv] at GY
            have HSN2 : Hid (lats ((b.take (j + 1)).filter (inP prio)) l = L) := Lib.hid (by have := HLS.out; simpa using this)
            clear HLS hlv hlo hxb
            go_wp2_with (go_at_call 73; (with_reducible refine (GY.out).mono ?_); rintro e w4 ⟨rfl, h4⟩)
            have ho2 : Hid (Value.int .i64 S = .int .i64 (sumI (lats ((b.take (j + 1)).filter (inP prio)) l)) ∧ w4.ownsRow w2.heap.size 3 1 u9 (ascO (lats ((b.take (j + 1)).filter (inP prio)) l)).length (rowC ic (ascO (lats ((b.take (j + 1)).filter (inP prio)) l)))) := Lib.hid (by
              rw [HSN2.out, HSS.out]; exact ⟨rfl, owns_belowS HO2.out h4⟩)
            have hB4 := bt hB h4
            clear h4 HO2
            go_roundw
            case rel => exact ⟨j + 1, by go_num, by omega, hB4, ho2⟩
            case measure => simp [intOf]; omega
          | some n =>
            rw [hlo] at hlv HLS hxb
            replace hlv : latV l (bid x) = (n, 0) := hlv
            rw [hlv] at GY
            have HSN2 : Hid (lats ((b.take (j + 1)).filter (inP prio)) l = L ++ [n]) := Lib.hid (by have := HLS.out; simpa using this)
            have hnb := hxb n (by simp)
            clear HLS hlv hlo hxb
            have m1 : IntKind.i64.wrap (S + n) = S + n := IntWalk.i64_in _ (by omega)
            have hb1 := hS.1; have hb2 := hS.2; have hb3 := hnb.1; have hb4 := hnb.2
            have hsum : sumI (L ++ [n]) = S + n := by rw [sumI_app, HSS.out, sumI_cons, sumI_nil, Int.add_zero]
            have HSUM := Lib.hid hsum
            clear hS hnb hsum
            go_wp2_with (first
              | (go_at_call 73; (with_reducible refine (GY.out).mono ?_); rintro e w4 ⟨rfl, h4⟩; (have hB3 := bt hB h4); (have HO3 := Lib.hid (owns_belowS HO2.out h4)); clear h4)
              | (go_at_call 74; (with_reducible refine (ascend_any _ _ L n (by omega) _ HO3.out).mono ?_); rintro e w5 ⟨v5, rfl, ho5, h5⟩; (have HO5 := Lib.hid (owns_base ho5 hB3.size)); (have hB5 := bt hB3 h5); clear ho5 h5))
            have ho3 : Hid (Value.int .i64 (S + n) = .int .i64 (sumI (lats ((b.take (j + 1)).filter (inP prio)) l)) ∧ w5.ownsRow w2.heap.size 3 1 v5 (ascO (lats ((b.take (j + 1)).filter (inP prio)) l)).length (rowC ic (ascO (lats ((b.take (j + 1)).filter (inP prio)) l)))) := Lib.hid (by
              rw [HSN2.out, HSUM.out]; exact ⟨rfl, HO5.out⟩)
            clear HO5 HO2 HO3
            go_roundw
            case rel => exact ⟨j + 1, by go_num, by omega, hB5, ho3⟩
            case measure => simp [intOf]; omega
        · have hin' : inP prio x = false := by simpa using hin
          rw [hin'] at HSN
          have h0 : decide (0 ≤ prio) = true := decide_eq_true (by unfold inP at hin'; simp at hin'; omega)
          have h1 : (x.pr != prio) = true := by unfold inP at hin'; simp at hin'; simp [hin'.2]
          have HSN2 : Hid ((b.take (j + 1)).filter (inP prio) = F) := Lib.hid (by simpa using HSN.out)
          have hM2 : Hid (Value.int .i64 (sumI (lats F l)) = .int .i64 (sumI (lats ((b.take (j + 1)).filter (inP prio)) l)) ∧ wr.ownsRow w2.heap.size 3 1 u9 (ascO (lats ((b.take (j + 1)).filter (inP prio)) l)).length (rowC ic (ascO (lats ((b.take (j + 1)).filter (inP prio)) l)))) := Lib.hid (by
            rw [HSN2.out]; exact ⟨rfl, HO2.out⟩)
          clear hin hin' HSN HSN2 HO2 hbl GX hun hr
          go_wp2
          go_roundw
          case rel => exact ⟨j + 1, by go_num, by omega, hB, hM2⟩
          case measure => simp [intOf]; omega
      · obtain rfl : j = N := by omega
        have ho := HO.out
        rw [HN.out, List.take_length] at ho
        have hfl : (b.filter (inP prio)).length ≤ 1000 := Nat.le_trans (List.length_filter_le _ _) (by have := HN.out; omega)
        have hll : (lats (b.filter (inP prio)) l).length ≤ 1000 := Nat.le_trans (lats_len _ _) hfl
        obtain ⟨L, hL⟩ : ∃ L, lats (b.filter (inP prio)) l = L := ⟨_, rfl⟩
        rw [hL] at ho hll
        obtain ⟨rfl, ho⟩ := ho
        have HL := Lib.hid hL
        have kz := blk_below hB KZ.out
        have B5 : Below w.heap.size w wr := bt B2 hB
        obtain ⟨a5, c5, rfl, hS5, hd5⟩ := srow_of_owns ic_len ho
        have hcap5 := hS5.1
        have hmax5 := hS5.2.1
        unfold maxLen at hmax5
        have hal := ascO_len L
        clear HO hL KZ GL hfl HR HBD
        by_cases hL0 : L.length = 0
        · have t0 : (((ascO L).length : Int) == 0) = true := by simp [hal, hL0]
          have e0 : dv (dlyO L) = #[.int .i64 0, .int .i64 0, .int .i64 0, .int .i64 0, .int .i64 0] := by
            rw [List.length_eq_zero_iff.1 hL0]; rfl
          have HE := Lib.hid e0
          clear e0 hL0 hS5 hd5 ho
          have nz := kn kz
          go_wp2
          refine ret_blk (b := w.heap.size) (c := #[.int .i64 0, .int .i64 0, .int .i64 0, .int .i64 0, .int .i64 0]) (v := .tuple #[.agg #[.int .i64 0, .int .i64 0, .int .i64 0, .int .i64 0, .int .i64 0], .int .i64 0]) (by (apply blk_to; (focus (repeat (first | (with_reducible assumption) | (with_reducible apply blk_drew) | (with_reducible apply blk_set) | ((with_reducible apply blk_other'); (first | (focus (dsimp only; assumption)) | (focus (simp; done)) | (focus (dsimp only; omega)))) | ((with_reducible apply blk_alloc_new); (first | (with_reducible rfl) | (focus (simp; done)) | (focus (simp; omega)))) | (with_reducible apply blk_alloc) | ((with_reducible apply blk_below); (with_reducible assumption))))); rfl)) (fun W' hc => by simp [results, Tryz.results45, go_sem, hc]) rfl ⟨by rw [HL.out, HE.out], by (repeat (first | (with_reducible assumption) | (with_reducible exact Below.refl _ _) | (with_reducible refine beld_drew ?_) | ((with_reducible refine bset' ?_ ?_); (first | (focus (dsimp only; assumption)) | (focus (simp; done)) | (focus (dsimp only; omega)))) | (with_reducible refine belt_alloc ?_) | ((with_reducible refine zeroed_below' ?_ ?_); (first | (focus (simp; done)) | (focus (dsimp only; omega)))) | (with_reducible refine bt ?_ (by assumption))))⟩
        · have hpos : 0 < (ascO L).length := by omega
          obtain ⟨g5, c5', e5, hg5, hl5, _, _, _, _⟩ := owns_cells ic_len ho hpos
          simp only [Value.slice.injEq] at e5
          obtain ⟨rfl, _, rfl⟩ := e5
          have hdf := dlyO_form (all := L) (by intro e; rw [e] at hL0; exact hL0 rfl)
          obtain ⟨h0, hdf⟩ := hdf
          obtain ⟨S, hS⟩ : ∃ S, ascO L = S := ⟨_, rfl⟩
          simp only [hS] at hdf hal h0 ho hcap5 hpos ⊢
          obtain ⟨p, hp⟩ : ∃ p, S.length = p + 1 := ⟨S.length - 1, by omega⟩
          have t0 : ((S.length : Int) == 0) = false := by simp; intro e; rw [e] at hpos; exact absurd hpos (by simp)
          have r0 := cell_ic (j := 0) (by omega) (owns_range ic_len ho (by omega))
          have rL := cell_ic (j := p) (by omega) (owns_range ic_len ho (by omega))
          have rM := cell_ic (j := p / 2) (by omega) (owns_range ic_len ho (by omega))
          have hdv : dlyO L = ⟨S.length, sumI L, S[0]'(by omega), S[p]'(by omega), S[p / 2]'(by omega)⟩ := by
            rw [hdf, ← hal]
            congr 1
            · congr 1; omega
            · congr 2; omega
          obtain ⟨s0, hs0⟩ : ∃ v, S[0]'(by omega) = v := ⟨_, rfl⟩
          obtain ⟨sL, hsL⟩ : ∃ v, S[p]'(by omega) = v := ⟨_, rfl⟩
          obtain ⟨sM, hsM⟩ : ∃ v, S[p / 2]'(by omega) = v := ⟨_, rfl⟩
          rw [hs0, hsL, hsM] at hdv
          rw [hs0] at r0
          rw [hsL] at rL
          rw [hsM] at rM
          have HCUR : Hid (∃ cur, blk wr g5 = some cur) := Lib.hid (by
            obtain ⟨_, h2⟩ := ho
            rcases h2 with ⟨h2, _⟩ | ⟨g', cap', cur, h3, h4, h5, _⟩
            · cases h2
            · simp only [Value.slice.injEq, Option.some.injEq, Addr.mk.injEq] at h3
              obtain ⟨⟨rfl, _⟩, _, _⟩ := h3
              exact ⟨cur, blk_of h5⟩)
          obtain ⟨i, hi⟩ : ∃ i, i = S.length := ⟨_, rfl⟩
          rw [← hi] at hdv hp hcap5 hpos t0 hal ⊢
          obtain ⟨sm, hsm⟩ : ∃ s, sumI L = s := ⟨_, rfl⟩
          rw [hsm] at hdv ⊢
          have HDV := Lib.hid hdv
          have HPI := Lib.hid hp
          obtain ⟨cur, kc8⟩ := HCUR.out
          have r0 : cur[0]? = some (.int .i64 s0) := (blk_cell kc8 0).symm.trans r0
          have rL : cur[p]? = some (.int .i64 sL) := (blk_cell kc8 p).symm.trans rL
          have rM : cur[p / 2]? = some (.int .i64 sM) := (blk_cell kc8 (p / 2)).symm.trans rM
          have hgz : g5 ≠ w.heap.size := by omega
          have m1 : IntKind.i64.wrap ((i : Int) - 1) = (p : Int) := (IntWalk.i64_in _ (by omega)).trans (by omega)
          have i1 : (0 : Int) < (i : Int) := by omega
          have i2 : (p : Int) < (i : Int) := by omega
          have hpl : p ≤ 1000 := by omega
          obtain ⟨h, hh⟩ : ∃ h, h = p / 2 := ⟨_, rfl⟩
          rw [← hh] at rM
          have m2 : (p : Int) / 2 = (h : Int) := by omega
          have m3 : Int.tdiv (p : Int) 2 = (h : Int) := by rw [Int.tdiv_eq_ediv_of_nonneg (by omega)]; exact m2
          have m4 : p / 2 = h := hh.symm
          have i3 : (h : Int) < (i : Int) := by omega
          have i4 : h < i := by omega
          have m5 : IntKind.i64.wrap (h : Int) = (h : Int) := IntWalk.i64_in _ (by omega)
          clear hh hp hdv hsm hi hs0 hsL hsM hdf hal h0 ho hS hL0 hS5 hd5 HCUR hB
          have nz := kn kz
          go_upto_region 16 with fail
          go_region_held3 (fun W => ∀ o, W.cell? ⟨g5, o, none⟩ = cur[o]?) (exact fun o => blk_cell (by (apply blk_to; (focus (repeat (first | (with_reducible assumption) | (with_reducible apply blk_drew) | (with_reducible apply blk_set) | ((with_reducible apply blk_other'); (first | (focus (dsimp only; assumption)) | (focus (simp; done)) | (focus (dsimp only; omega)))) | ((with_reducible apply blk_alloc_new); (first | (with_reducible rfl) | (focus (simp; done)) | (focus (simp; omega)))) | (with_reducible apply blk_alloc) | ((with_reducible apply blk_below); (with_reducible assumption))))); rfl)) o) (fail)
          obtain ⟨u, hu⟩ : ∃ u, u = (((((wr.setCell ⟨w.heap.size, 0, none⟩ (.int .i64 i)).setCell ⟨w.heap.size, 1, none⟩ (.int .i64 sm)).setCell ⟨w.heap.size, 2, none⟩ (.int .i64 s0)).setCell ⟨w.heap.size, 3, none⟩ (.int .i64 sL)).setCell ⟨w.heap.size, 4, none⟩ (.int .i64 sM)).drew := ⟨_, rfl⟩
          have kz9 : blk u w.heap.size = some #[.int .i64 i, .int .i64 sm, .int .i64 s0, .int .i64 sL, .int .i64 sM] := by rw [hu]; (apply blk_to; (focus (repeat (first | (with_reducible assumption) | (with_reducible apply blk_drew) | (with_reducible apply blk_set) | ((with_reducible apply blk_other'); (first | (focus (dsimp only; assumption)) | (focus (simp; done)) | (focus (dsimp only; omega)))) | ((with_reducible apply blk_alloc_new); (first | (with_reducible rfl) | (focus (simp; done)) | (focus (simp; omega)))) | (with_reducible apply blk_alloc) | ((with_reducible apply blk_below); (with_reducible assumption))))); rfl)
          have B9 : Below w.heap.size w u := by
            rw [hu]
            exact (((((B5.setCell (by dsimp only; omega) _).setCell (by dsimp only; omega) _).setCell (by dsimp only; omega) _).setCell (by dsimp only; omega) _).setCell (by dsimp only; omega) _).drew
          rw [← hu]
          clear hu kz B5 nz kc8 r0 rL rM
          have nz9 := kn kz9
          have e0 : dv (dlyO (lats (b.filter (inP prio)) l)) = #[.int .i64 i, .int .i64 sm, .int .i64 s0, .int .i64 sL, .int .i64 sM] := by rw [HL.out, HDV.out]; rfl
          have HE := Lib.hid e0
          clear e0 m1 m2 m3 m4 m5
          go_wp2
          refine ret_blk (b := w.heap.size) (c := #[.int .i64 i, .int .i64 sm, .int .i64 s0, .int .i64 sL, .int .i64 sM]) (v := .tuple #[.agg #[.int .i64 i, .int .i64 sm, .int .i64 s0, .int .i64 sL, .int .i64 sM], .int .i64 0]) (by (apply blk_to; (focus (repeat (first | (with_reducible assumption) | (with_reducible apply blk_drew) | (with_reducible apply blk_set) | ((with_reducible apply blk_other'); (first | (focus (dsimp only; assumption)) | (focus (simp; done)) | (focus (dsimp only; omega)))) | ((with_reducible apply blk_alloc_new); (first | (with_reducible rfl) | (focus (simp; done)) | (focus (simp; omega)))) | (with_reducible apply blk_alloc) | ((with_reducible apply blk_below); (with_reducible assumption))))); rfl)) (fun W' hc => by simp [results, Tryz.results45, go_sem, hc]) rfl ⟨by rw [HE.out], by (repeat (first | (with_reducible assumption) | (with_reducible exact Below.refl _ _) | (with_reducible refine beld_drew ?_) | ((with_reducible refine bset' ?_ ?_); (first | (focus (dsimp only; assumption)) | (focus (simp; done)) | (focus (dsimp only; omega)))) | (with_reducible refine belt_alloc ?_) | ((with_reducible refine zeroed_below' ?_ ?_); (first | (focus (simp; done)) | (focus (dsimp only; omega)))) | (with_reducible refine bt ?_ (by assumption))))⟩
  · have hcr : latD b l prio = ⟨0, 0, 0, 0, 0⟩ := by unfold latD; rw [if_neg hp]
    obtain ⟨p, hpp⟩ : ∃ p, prioC b l prio = p := ⟨_, rfl⟩
    rw [hpp] at g hp ⊢
    rw [hcr]
    have q0 : (p != 0) = true := by simpa using hp
    have G := Lib.hid g
    clear g hp hpp hcr hd hb hl
    go_enter Tryz.func45, Tryz.ntmps45
    go_wp2_with (go_at_call 72; (with_reducible refine (G.out _ (by (repeat (first | (with_reducible assumption) | (with_reducible exact Below.refl _ _) | (with_reducible refine beld_drew ?_) | ((with_reducible refine bset' ?_ ?_); (first | (focus (dsimp only; assumption)) | (focus (simp; done)) | (focus (dsimp only; omega)))) | (with_reducible refine belt_alloc ?_) | ((with_reducible refine zeroed_below' ?_ ?_); (first | (focus (simp; done)) | (focus (dsimp only; omega)))) | (with_reducible refine bt ?_ (by assumption)))))).mono ?_); rintro e w2 ⟨rfl, h2⟩; (have kb := blk_below h2 (blk_alloc_new w #[.int .i64 0, .int .i64 0, .int .i64 0, .int .i64 0, .int .i64 0] 65 rfl)); (have nb := kn kb); (have b2 : Below w.heap.size w w2 := (by (repeat (first | (with_reducible assumption) | (with_reducible exact Below.refl _ _) | (with_reducible refine beld_drew ?_) | ((with_reducible refine bset' ?_ ?_); (first | (focus (dsimp only; assumption)) | (focus (simp; done)) | (focus (dsimp only; omega)))) | (with_reducible refine belt_alloc ?_) | ((with_reducible refine zeroed_below' ?_ ?_); (first | (focus (simp; done)) | (focus (dsimp only; omega)))) | (with_reducible refine bt ?_ (by assumption)))))))
    refine ret_blk (b := w.heap.size) (c := #[.int .i64 0, .int .i64 0, .int .i64 0, .int .i64 0, .int .i64 0]) (v := .tuple #[.agg #[.int .i64 0, .int .i64 0, .int .i64 0, .int .i64 0, .int .i64 0], .int .i64 p]) (by (apply blk_to; (focus (repeat (first | (with_reducible assumption) | (with_reducible apply blk_drew) | (with_reducible apply blk_set) | ((with_reducible apply blk_other'); (first | (focus (dsimp only; assumption)) | (focus (simp; done)) | (focus (dsimp only; omega)))) | ((with_reducible apply blk_alloc_new); (first | (with_reducible rfl) | (focus (simp; done)) | (focus (simp; omega)))) | (with_reducible apply blk_alloc) | ((with_reducible apply blk_below); (with_reducible assumption))))); rfl)) (fun W' hc => by simp [results, Tryz.results45, go_sem, hc]) rfl ⟨rfl, by (repeat (first | (with_reducible assumption) | (with_reducible exact Below.refl _ _) | (with_reducible refine beld_drew ?_) | ((with_reducible refine bset' ?_ ?_); (first | (focus (dsimp only; assumption)) | (focus (simp; done)) | (focus (dsimp only; omega)))) | (with_reducible refine belt_alloc ?_) | ((with_reducible refine zeroed_below' ?_ ?_); (first | (focus (simp; done)) | (focus (dsimp only; omega)))) | (with_reducible refine bt ?_ (by assumption))))⟩
end Go.Proofs.YthfmkkkdjgkaoaaGreatDoor
