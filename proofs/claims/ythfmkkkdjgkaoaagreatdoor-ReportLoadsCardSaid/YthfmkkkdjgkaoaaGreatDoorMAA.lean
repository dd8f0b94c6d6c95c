/- Parts of a proof, printed by a program of mine out of my texts: RpMde. -/
import Derived.Test.YthfmkkkdjgkaoaaGreatDoorMH
import Derived.Test.YthfmkkkdjgkaoaaGreatDoorMX
import Derived.Test.YthfmkkkdjgkaoaaGreatDoorMY
set_option linter.unusedSimpArgs false
set_option linter.unusedVariables false
namespace Go.Proofs.YthfmkkkdjgkaoaaGreatDoor
open Go.RowKit
theorem own_to {w : World} {base : Nat} {v : Value} {b : List Bn} {x : Bn} {n : Nat} (hn : b.length = n) (h : w.ownsRow base 54 9 v (b ++ [x]).length (rowC bn (b ++ [x]))) :
    ∃ g cap, v = .slice (some ⟨g, 0, none⟩) (n + 1) cap ∧ base ≤ g ∧ (n + 1 ≤ cap ∧ cap ≤ maxLen) ∧ w.cell? ⟨g, n * 9 + 7, none⟩ = some (.int .i64 x.to) ∧ w.cell? ⟨g, n * 9 + 8, none⟩ = some (.string x.da) ∧ g < w.heap.size ∧ ∀ W, Below w.heap.size w W → W.frozen? ⟨g, n * 9 + 7, none⟩ = false ∧
      ∀ M, (W.setCell ⟨g, n * 9 + 7, none⟩ (.int .i64 M)).ownsRow base 54 9 v (n + 1) (rowC bn (b ++ [⟨x.no, x.sq, x.of, x.de, x.pr, x.bo, x.li, M, x.da⟩])) := by
  subst hn
  have e1 : (b ++ [x]).length = b.length + 1 := by simp
  rw [e1] at h
  have hl : (rowC bn b).length = b.length * 9 := rowC_length bn_len b
  obtain ⟨h1, h2⟩ := h
  rcases h2 with ⟨_, h0⟩ | ⟨g, cap, cur, rfl, hb, hg, hc, hm, hs, ht⟩
  · omega
  · have hrow : ∀ i, i < 9 → cur[b.length * 9 + i]? = (bn x)[i]? := fun i hi => by
      have h3 : (cur.toList.take ((b.length + 1) * 9))[b.length * 9 + i]? = cur[b.length * 9 + i]? := by rw [List.getElem?_take, if_pos (by omega)]; simp
      rw [← h3, ht, rowC_append, rowC_one, List.getElem?_append_right (by omega), hl]
      congr 1; omega
    have hk := blk_of hg
    refine ⟨g, cap, rfl, hb, ⟨hc, hm⟩, (blk_cell hk _).trans (hrow 7 (by omega)), (blk_cell hk _).trans (hrow 8 (by omega)), blk_lt hk, fun W hW => ⟨blk_frozen (blk_below hW hk) _, fun M => ?_⟩⟩
    refine ⟨by rw [rowC_length bn_len]; simp, .inr ⟨g, cap, _, rfl, hb, heap_set (heap_below hg hW), hc, hm, by simpa using hs, ?_⟩⟩
    rw [Array.toList_setIfInBounds, List.take_set, ht, rowC_append, rowC_append, rowC_one, rowC_one, List.set_append_right _ _ (by omega), hl]
    congr 1
    rw [show b.length * 9 + 7 - b.length * 9 = 7 by omega]
    rfl
theorem bytes6 (k : Int) (M : Nat) (hk : 0 ≤ k ∧ k < 1048576) (hM : 1 ≤ M ∧ M ≤ 6) : ∃ da : ByteArray, (1 ≤ da.size ∧ da.size ≤ 6) ∧ ∀ W g, blk W g = some #[.int .i64 k, .int .i64 k, .int .i64 k, .int .i64 k, .int .i64 k, .int .i64 k] →
    Calls Tryz.prog 50 #[.slice (some ⟨g, 0, none⟩) 6 6, .int .i64 (M : Int)] W fun e w' => e = .returned (.string da) ∧ Below W.heap.size W w' := by
  refine ⟨⟨(bytL [k, k, k, k, k, k] (min M 6)).toArray⟩, ?_, fun W g hb => ?_⟩
  · have h := bytL_len [k, k, k, k, k, k] (min M 6) (by simp; omega)
    show 1 ≤ (bytL [k, k, k, k, k, k] (min M 6)).toArray.size ∧ _ ≤ _
    show 1 ≤ (bytL [k, k, k, k, k, k] (min M 6)).toArray.size ∧ (bytL [k, k, k, k, k, k] (min M 6)).toArray.size ≤ 6
    rw [List.size_toArray, h]
    omega
  · exact bytes_any (some ⟨g, 0, none⟩) 6 [k, k, k, k, k, k] M (by omega) W ⟨by simp, by unfold maxLen; omega, fun z hz => by
      have : z = k := by simpa using hz
      subst this; exact WalkArith.wf_i64 (by omega), (fun h => by cases h), fun _ => ⟨g, 0, rfl, blk_lt hb, fun i hi => by
        rw [blk_cell hb]
        match i, hi with
        | 0, _ => simp
        | 1, _ => simp
        | 2, _ => simp
        | 3, _ => simp
        | 4, _ => simp
        | 5, _ => simp
        | i + 6, hi => exact absurd hi (by simp)⟩⟩
theorem kcase {ki : Int} (h : ki ∈ kinds8) : ki = 1 ∨ ki = 6 ∨ ki = 7 ∨ ki = 14 ∨ (ki ≠ 1 ∧ ki ≠ 6 ∧ ki ≠ 7 ∧ ki ≠ 14) := by
  simp only [kinds8, List.mem_cons, List.not_mem_nil, or_false] at h
  omega
theorem wp_freshU {P : Program} {cd : Code} {Q : Exit → Act → World → Prop} {a : Act} {W w0 : World} {B : Nat} (b : Nat) (c : Array Value) (h1 : blk W b = some c) (hB : Below B w0 W)
    (h : ∀ w', blk w' b = some c → Below B w0 w' → cd.wp P Q a w') : cd.wp P Q a W := h W h1 hB
theorem calm_cellR {W0 : World} {b o : Nat} {v : Value} (hb : b < W0.heap.size) (h : W0.cell? ⟨b, o, none⟩ = some v) : ∀ x : Class (Calm W0), x.wd.cell? ⟨b, o, none⟩ = some v := fun x => (x.ok.cell (p := ⟨b, o, none⟩) hb).trans h
set_option maxRecDepth 100000 in
set_option maxHeartbeats 6400000 in
theorem madeB_any (a : Option Addr) (cap : Nat) (zs : List Int) (w : World) (hrow : Row .i64 w a cap zs) :
    Calls Tryz.prog 21 #[.slice a zs.length cap] w fun e w' => ∃ b l a1 c1 a2 c2, e = .returned (.tuple #[.slice a1 6 c1, .slice a2 l.length c2]) ∧ (MkBs b ∧ b.length = 6 ∧ ∀ x ∈ b, x.da.size ≤ 6) ∧ ((∃ t, MkOs b l t) ∧ l.length ≤ 30) ∧ SRow bn 9 w' a1 c1 b ∧ SRow oc 7 w' a2 c2 l ∧ Below w.heap.size w w' := by
  obtain ⟨i2, hi', hz0', hz1', hz2'⟩ := info_parts infoBu2
  have Hj := Lib.hid hi'; have Hy0 := Lib.hid hz0'; have Hy1 := Lib.hid hz1'; have Hy2 := Lib.hid hz2'
  clear hi' hz0' hz1' hz2'
  obtain ⟨i3, hi', hz0', hz1', hz2'⟩ := info_parts infoOc
  have Kj := Lib.hid hi'; have Ky0 := Lib.hid hz0'; have Ky1 := Lib.hid hz1'; have Ky2 := Lib.hid hz2'
  clear hi' hz0' hz1' hz2'
  have HR := Lib.hid hrow
  have hz2 := hrow.2.1
  have hz1 := hrow.1
  unfold maxLen at hz2
  clear hrow
  go_enter Tryz.func21, Tryz.ntmps21
  go_wp2
  go_loopw [4, 5] (fun o i wr => ∃ n : Nat, i = .int .i64 n ∧ n ≤ 6 ∧ Below w.heap.size w wr ∧ ∃ b, Hid (wr.ownsRow w.heap.size 54 9 o n (rowC bn b) ∧ b.length = n ∧ MkBs b ∧ ∀ x ∈ b, x.da.size ≤ 6)) (fun _ i _ => 6 - (intOf i).toNat)
  case atStart => exact ⟨0, rfl, by omega, Below.refl _ _, [], Lib.hid ⟨by simpa [rowC] using World.ownsRow_nil w _ _ _, rfl, MkBs.nil, by simp⟩⟩
  case round =>
    obtain ⟨n, rfl, h6, hB, b, HQ⟩ := hrel
    by_cases ht : n < 6
    · have htz : (n : Int) < 6 := by omega
      have hA := Lib.hid (fun W (h : Row .i64 W a cap zs) => at_any a cap zs n W h (by omega))
      obtain ⟨z, hz⟩ : ∃ z, zs.getD n 0 = z := ⟨_, rfl⟩
      rw [hz] at hA
      obtain ⟨m, hm⟩ : ∃ m, IntKind.i64.wrap (z + (n : Int)) = m := ⟨_, rfl⟩
      have hb := Lib.hid (fun w => mod_any m 1048576 w (by decide) (by decide))
      have k0 := Int.emod_nonneg m (show (1048576 : Int) ≠ 0 by decide)
      have k1 := Int.emod_lt_of_pos m (show (0 : Int) < 1048576 by decide)
      have m1 : IntKind.u64.wrap (n : Int) = n := IntWalk.u64_in _ (by omega)
      obtain ⟨k, hk⟩ : ∃ k, m % 1048576 = k := ⟨_, rfl⟩
      rw [hk] at hb k0 k1
      clear hk hz
      obtain ⟨M, hM⟩ : ∃ M : Nat, 1 + k % 6 = (M : Int) := ⟨(1 + k % 6).toNat, by omega⟩
      have hM6 : 1 ≤ M ∧ M ≤ 6 := by omega
      have szr := hB.size
      go_upto_region 6 with (first | (go_at_call 49; (with_reducible refine (hA.out _ (HR.out.below hB)).mono ?_); rintro e wx ⟨rfl, rfl⟩) | (go_at_call 22; (with_reducible refine (hb.out _).mono ?_); rintro e wx ⟨rfl, rfl⟩))
      clear hA hm hb
      obtain ⟨da, hda, hby⟩ := bytes6 k M ⟨k0, k1⟩ hM6
      have GBY := Lib.hid hby
      clear hby
      go_upto_region 7 with (first
        | (go_at_call 50; (with_reducible refine (GBY.out _ _ (blk_alloc_new _ _ _ rfl)).mono ?_); rintro e w2 ⟨rfl, h2⟩; (have b2 : Below wr.heap.size wr w2 := (by (repeat (first | (with_reducible assumption) | (with_reducible exact Below.refl _ _) | (with_reducible refine beld_drew ?_) | ((with_reducible refine bset' ?_ ?_); (first | (focus (dsimp only; assumption)) | (focus (simp; done)) | (focus (dsimp only; omega)))) | (with_reducible refine belt_alloc ?_) | ((with_reducible refine zeroed_below' ?_ ?_); (first | (focus (simp; done)) | (focus (dsimp only; omega)))) | (with_reducible refine bt ?_ (by assumption)))))); (have ho2 := Lib.hid (owns_belowS HQ.out.1 b2)); (have hb2 := bt hB b2); (have sw2 := hb2.size); clear h2 b2)
        | (at_builtin; refine wpList_append_struct (enc := bn) rfl _ _ 22 rfl w.heap.size 54 i2 (.agg #[.int .i64 0, .int .u64 0, .int .i64 0, .int .i64 0, .int .i64 0, .int .i64 0, .int .i64 0, .int .i64 0, .string ⟨#[]⟩]) 9 80 Tryz.underlying22 Hj.out Hy0.out Hy1.out Hy2.out rfl (by decide) bn_len bn_one _ b rfl (by rw [HQ.out.2.1]; exact ho2.out.alloc _) w2.heap.size 1 (mkB0 k n da) rfl (blk_alloc_new _ _ _ rfl) (by rw [HQ.out.2.1]; unfold maxLen; omega) (by rw [HQ.out.2.1]; omega) (by simp; omega) ?_; intro v' wb hown2 hgrow2; (have HO2 := Lib.hid hown2); (have hB3 : Below w.heap.size w wb := (hb2.alloc hb2.size _).grown hgrow2 (by simp; omega) (fun k e => (ho2.out.lt k e).1)); clear hown2 hgrow2))
      obtain ⟨g, cp, rfl, lg, hcp, c7, c8, glt, hset⟩ := own_to HQ.out.2.1 HO2.out
      have c7 : wb.cell? ⟨g, n * 9 + 7, none⟩ = some (.int .i64 (1 + k % 40)) := c7
      have c8 : wb.cell? ⟨g, n * 9 + 8, none⟩ = some (.string da) := c8
      obtain ⟨mx, hmx⟩ : ∃ x, x = max (1 + k % 40) (da.size : Int) := ⟨_, rfl⟩
      have HS2 : Hid (∀ W, Below wb.heap.size wb W → W.frozen? ⟨g, n * 9 + 7, none⟩ = false ∧ (W.setCell ⟨g, n * 9 + 7, none⟩ (.int .i64 mx)).ownsRow w.heap.size 54 9 (.slice (some ⟨g, 0, none⟩) (n + 1) cp) (n + 1) (rowC bn (b ++ [mkBn k n da])) ∧ Below w.heap.size w (W.setCell ⟨g, n * 9 + 7, none⟩ (.int .i64 mx))) := Lib.hid (by
        intro W hW
        obtain ⟨h1, h2⟩ := hset W hW
        have h3 := h2 mx
        rw [hmx] at h3 ⊢
        exact ⟨h1, h3, (bt hB3 hW).setCell lg _⟩)
      have HNEW : Hid ((b ++ [mkBn k n da]).length = n + 1 ∧ MkBs (b ++ [mkBn k n da]) ∧ ∀ x ∈ b ++ [mkBn k n da], x.da.size ≤ 6) := Lib.hid ⟨by simp [HQ.out.2.1], HQ.out.2.2.1.snoc (mkBn_ok k0 ht hda.1 hda.2) (by show ((n : Nat) : Int) = _; rw [HQ.out.2.1]) (by show 1 ≤ 1 + k % 3 ∧ 1 + k % 3 ≤ 4; omega), fun x hx => by
        rcases List.mem_append.1 hx with h | h
        · exact HQ.out.2.2.2 x h
        · simp only [List.mem_singleton] at h; subst h; exact hda.2⟩
      have hcpz : (n : Int) < ((n : Int) + 1) := by omega
      have HMX := Lib.hid hmx
      clear hset HO2 HQ ho2 hb2 sw2 szr hB3 GBY hB hM hM6 hmx
      refine wp_region_tail 16 (by kernel_rfl) (by kernel_rfl) ?_
      intro W0 hE hN
      have q1 := calm_cellR (W0 := W0) (by rw [hE.out]; exact glt) (by rw [hE.out]; exact c7)
      have q2 := calm_cellR (W0 := W0) (by rw [hE.out]; exact glt) (by rw [hE.out]; exact c8)
      clear c7 c8
      simp only [List.take_succ_cons, List.take_zero, List.drop_succ_cons, List.drop_zero]
      repeat (go_big_quiet_step (fail))
      refine wpQuiet_nil ?_
      rintro _ ⟨x', rfl⟩
      have hx : Below wb.heap.size wb x'.wd := by rw [← hE.out]; exact x'.ok
      obtain ⟨fz, ho, hb9⟩ := HS2.out _ hx
      have c9 := q1 x'
      rw [← HMX.out]
      clear HS2 hx q1 q2 hE hN
      obtain ⟨u, hu⟩ : ∃ u, u = x'.wd := ⟨_, rfl⟩
      rw [← hu] at fz ho hb9 c9 ⊢
      have HO9 := Lib.hid (And.intro ho hb9)
      clear hu x' ho hb9
      go_wp2
      go_roundw
      case rel => exact ⟨n + 1, by go_num, by omega, HO9.out.2, _, Lib.hid ⟨HO9.out.1, HNEW.out⟩⟩
      case measure => simp [intOf]; omega
    · have htz : ¬ (n : Int) < 6 := by omega
      have hn6 : n = 6 := by omega
      have hlen : b.length = 6 := by rw [HQ.out.2.1]; exact hn6
      obtain ⟨a1, c1, e4, hS, _⟩ := srow_of_owns bn_len (l := b) (by rw [HQ.out.2.1]; exact HQ.out.1)
      rw [hlen] at e4
      subst e4
      obtain ⟨g, off, rfl, hgl, hcs⟩ := hS.2.2.2 (by omega)
      have HBS := Lib.hid (And.intro hS (And.intro hlen (And.intro HQ.out.2.2.1 (And.intro HQ.out.2.2.2 hcs))))
      obtain ⟨u, hu⟩ : ∃ u, u = wr := ⟨_, rfl⟩
      rw [← hu] at HBS hB hgl
      have HU := Lib.hid hu
      clear HQ hn6 hlen hS hcs hu
      go_wp2
      go_loopw [7, 8, 9] (fun s7 s8 s9 wr => ∃ (i : Nat) (t : Int), s9 = .int .i64 i ∧ s8 = .int .i64 t ∧ 6 ≤ i ∧ i ≤ 36 ∧ 0 ≤ t ∧ t ≤ 2 * (i : Int) ∧ Below u.heap.size u wr ∧ ∃ l, Hid (wr.ownsRow u.heap.size 56 7 s7 l.length (rowC oc l) ∧ MkOs b l t ∧ l.length + 6 ≤ i)) (fun _ _ i _ => 36 - (intOf i).toNat)
      case atStart => exact ⟨6, 0, rfl, rfl, by omega, by omega, by omega, by omega, by rw [HU.out]; exact Below.refl _ _, [], Lib.hid ⟨by simpa [rowC] using World.ownsRow_nil wr _ _ _, MkOs.nil b 0, by simp⟩⟩
      case round =>
        clear HU
        obtain ⟨i, t, rfl, rfl, hi6, hi36, ht0, ht2, hB2, l, HL⟩ := hrel
        by_cases hz : i < zs.length
        · have t1 : decide ((i : Int) < (zs.length : Int)) = true := decide_eq_true (by omega)
          have l1 : (i : Int) < (zs.length : Int) := by omega
          by_cases hi : i < 36
          · have t2 : decide ((i : Int) < 36) = true := decide_eq_true (by omega)
            obtain ⟨bz, oz, rfl, hbl, hc⟩ := (HR.out.below (bt hB hB2)).2.2.2.2 (by omega)
            have h1 := hc i hz
            clear hc
            obtain ⟨z, hzz⟩ : ∃ z, z = zs[i] := ⟨_, rfl⟩
            rw [← hzz] at h1
            clear hzz
            have hb := Lib.hid (fun w => mod_any z 1048576 w (by decide) (by decide))
            have k0 := Int.emod_nonneg z (show (1048576 : Int) ≠ 0 by decide)
            have k1 := Int.emod_lt_of_pos z (show (0 : Int) < 1048576 by decide)
            obtain ⟨k, hk⟩ : ∃ k, z % 1048576 = k := ⟨_, rfl⟩
            rw [hk] at hb k0 k1
            clear hk
            have m2 : IntKind.i64.wrap (t + k % 3) = t + k % 3 := IntWalk.i64_in _ (by omega)
            obtain ⟨t2', ht2'⟩ : ∃ t2, t + k % 3 = t2 := ⟨_, rfl⟩
            rw [ht2'] at m2
            have htt : t ≤ t2' ∧ t2' ≤ 2 * ((i + 1 : Nat) : Int) := by omega
            obtain ⟨q, hq⟩ : ∃ q : Nat, k / 12 % 8 = (q : Int) := ⟨(k / 12 % 8).toNat, by omega⟩
            have hq8 : q < 8 := by omega
            have hq8z : (q : Int) < 8 := by omega
            obtain ⟨r, hr⟩ : ∃ r : Nat, k / 96 % 6 = (r : Int) := ⟨(k / 96 % 6).toNat, by omega⟩
            have hr6 : r < 6 := by omega
            have hr6z : (r : Int) < 6 := by omega
            obtain ⟨no, hno⟩ : ∃ no, 1 + k / 3 % 4 = no := ⟨_, rfl⟩
            have hno4 : 1 ≤ no ∧ no ≤ 4 := by omega
            obtain ⟨ki, hki⟩ : ∃ ki, ki = kinds8[q]'(by simpa [kinds8] using hq8) := ⟨_, rfl⟩
            have hkm : ki ∈ kinds8 := by rw [hki]; exact List.getElem_mem _
            have hK8 : (#[.int .i64 1, .int .i64 6, .int .i64 7, .int .i64 8, .int .i64 9, .int .i64 2, .int .i64 14, .int .i64 1] : Array Value)[q]? = some (.int .i64 ki) := by
              rw [show (#[.int .i64 1, .int .i64 6, .int .i64 7, .int .i64 8, .int .i64 9, .int .i64 2, .int .i64 14, .int .i64 1] : Array Value) = (kinds8.map (.int .i64 ·)).toArray from rfl]
              simp [hki]
            have hrl : r < b.length := by rw [HBS.out.2.1]; exact hr6
            obtain ⟨x, hx⟩ : ∃ x, x = b[r] := ⟨_, rfl⟩
            have hxm : x ∈ b := by rw [hx]; exact List.getElem_mem _
            have hrow := range_below hgl (HBS.out.2.2.2.2 r hrl) hB2
            rw [← hx] at hrow
            have x0 : wr.cell? ⟨g, off + r * 9, none⟩ = some (.int .i64 x.no) := hrow 0 _ rfl
            have x1 : wr.cell? ⟨g, off + r * 9 + 1, none⟩ = some (.int .u64 x.sq) := hrow 1 _ rfl
            have x2 : wr.cell? ⟨g, off + r * 9 + 2, none⟩ = some (.int .i64 x.of) := hrow 2 _ rfl
            have HFX := Lib.hid (fun l t (hh : MkOs b l t) h0 (hh2 : t ≤ t2' ∧ t2' ≤ 1000) => hh.fix HBS.out.2.2.1 hxm hkm h0 hh2 hno4)
            have HHK := Lib.hid (And.intro hkm hK8)
            have wno : IntKind.i64.wrap no = no := IntWalk.i64_in _ (by omega)
            have td : ∀ m : Int, 1 ≤ m → k.tdiv m = k / m := fun m hm => Int.tdiv_eq_ediv_of_nonneg k0
            have dn : ∀ m : Int, 1 ≤ m → 0 ≤ k / m ∧ k / m ≤ k := fun m hm => ⟨Int.ediv_nonneg k0 (by omega), Int.ediv_le_self _ k0⟩
            have e12 : IntKind.i64.wrap (k.tdiv 12) = k / 12 := by rw [td 12 (by omega)]; exact IntWalk.i64_in _ (by omega)
            have e96 : IntKind.i64.wrap (k.tdiv 96) = k / 96 := by rw [td 96 (by omega)]; exact IntWalk.i64_in _ (by omega)
            have e3 : IntKind.i64.wrap (k.tdiv 3) = k / 3 := by rw [td 3 (by omega)]; exact IntWalk.i64_in _ (by omega)
            have f12 : (k / 12).tmod 8 = (q : Int) := by rw [Int.tmod_eq_emod_of_nonneg (by omega)]; exact hq
            have f96 : (k / 96).tmod 6 = (r : Int) := by rw [Int.tmod_eq_emod_of_nonneg (by omega)]; exact hr
            have f3 : (k / 3).tmod 4 = k / 3 % 4 := by rw [Int.tmod_eq_emod_of_nonneg (by omega)]
            clear td dn
            clear hki hkm hK8 hrl hx hxm hrow
            have hgr : g < wr.heap.size := Nat.lt_of_lt_of_le hgl hB2.size
            go_upto_region 14 with (go_at_call 22; (with_reducible refine (hb.out _).mono ?_); rintro e wx ⟨rfl, rfl⟩)
            clear hb
            go_upto_region 15 with fail
            go_cut [11] from 88 to 106 (fun s11 wq => ∃ p, s11 = .pointer (some ⟨p, 0, none⟩) ∧ wr.heap.size ≤ p ∧ Hid (blk wq p = some #[.int .i64 t2', .int .i64 no, .int .i64 ki, .int .i64 x.no, .int .u64 x.sq, .int .i64 x.of, .int .i64 0] ∧ Below wr.heap.size wr wq))
            case first =>
              refine wp_region_held_drew (S := fun W => W.cell? ⟨g, off + r * 9, none⟩ = some (.int .i64 x.no) ∧ W.cell? ⟨g, off + r * 9 + 1, none⟩ = some (.int .u64 x.sq) ∧ W.cell? ⟨g, off + r * 9 + 2, none⟩ = some (.int .i64 x.of)) (by kernel_rfl) ⟨x0, x1, x2⟩ (fun hHeld => ?_)
              obtain ⟨d0, ed⟩ : ∃ v, v = wr.drew := ⟨_, rfl⟩
              have hw0 : Below wr.heap.size wr d0 := (by rw [ed]; exact (Below.refl _ _).drew)
              have y0 : d0.cell? ⟨g, off + r * 9, none⟩ = some (.int .i64 x.no) := (by rw [ed]; exact x0)
              have y1 : d0.cell? ⟨g, off + r * 9 + 1, none⟩ = some (.int .u64 x.sq) := (by rw [ed]; exact x1)
              have y2 : d0.cell? ⟨g, off + r * 9 + 2, none⟩ = some (.int .i64 x.of) := (by rw [ed]; exact x2)
              have hgd : g < d0.heap.size := (by rw [ed]; exact hgr)
              have bd0 : Below d0.heap.size d0 d0 := Below.refl _ _
              rw [← ed] at hHeld ⊢
              clear ed x0 x1 x2 h1
              refine wpAnyH_take (i := 0) (oi := _) (v := ?_) rfl (by kernel_rfl) (by kernel_rfl) (by kernel_rfl) (fun _ _ _ h => h) (Or.inl ⟨by rfl, ?_⟩) (by assumption) ?_
              rotate_left
              focus (intro W hSw; (try dsimp only at hSw); go_simp; (try with_reducible rfl))
              (try simp only [Act.put, List.setIfInBounds_toArray, List.set_cons_zero, List.set_cons_succ, List.getElem_toArray, List.getElem_cons_succ, List.getElem_cons_zero])
              refine wpAnyH_take (i := 1) (oi := _) (v := ?_) rfl (by kernel_rfl) (by kernel_rfl) (by kernel_rfl) (fun _ _ _ h => h) (Or.inl ⟨by rfl, ?_⟩) (by assumption) ?_
              rotate_left
              focus (intro W hSw; (try dsimp only at hSw); go_simp; (try with_reducible rfl))
              (try simp only [Act.put, List.setIfInBounds_toArray, List.set_cons_zero, List.set_cons_succ, List.getElem_toArray, List.getElem_cons_succ, List.getElem_cons_zero])
              refine wpAnyH_take (i := 2) (oi := _) (v := ?_) rfl (by kernel_rfl) (by kernel_rfl) (by kernel_rfl) (fun _ _ _ h => h) (Or.inl ⟨by rfl, ?_⟩) (by assumption) ?_
              rotate_left
              focus (intro W hSw; (try dsimp only at hSw); go_simp; (try with_reducible rfl))
              (try simp only [Act.put, List.setIfInBounds_toArray, List.set_cons_zero, List.set_cons_succ, List.getElem_toArray, List.getElem_cons_succ, List.getElem_cons_zero])
              refine wpAnyH_take (i := 3) (oi := _) (v := ?_) rfl (by kernel_rfl) (by kernel_rfl) (by kernel_rfl) (fun _ _ _ h => h) (Or.inl ⟨by rfl, ?_⟩) (by assumption) ?_
              rotate_left
              focus (intro W hSw; (try dsimp only at hSw); go_simp; (try with_reducible rfl))
              (try simp only [Act.put, List.setIfInBounds_toArray, List.set_cons_zero, List.set_cons_succ, List.getElem_toArray, List.getElem_cons_succ, List.getElem_cons_zero])
              refine wpAnyH_take (i := 4) (oi := _) (v := ?_) rfl (by kernel_rfl) (by kernel_rfl) (by kernel_rfl) (fun _ _ _ h => h) (Or.inl ⟨by rfl, ?_⟩) (by assumption) ?_
              rotate_left
              focus (intro W hSw; (try dsimp only at hSw); go_simp; (try with_reducible rfl))
              (try simp only [Act.put, List.setIfInBounds_toArray, List.set_cons_zero, List.set_cons_succ, List.getElem_toArray, List.getElem_cons_succ, List.getElem_cons_zero])
              refine wpAnyH_take (i := 6) (oi := _) (v := ?_) rfl (by kernel_rfl) (by kernel_rfl) (by kernel_rfl) (fun _ _ _ h => h) (Or.inl ⟨by rfl, ?_⟩) (by assumption) ?_
              rotate_left
              focus (intro W hSw; (try dsimp only at hSw); go_simp; (try with_reducible rfl))
              (try simp only [Act.put, List.setIfInBounds_toArray, List.set_cons_zero, List.set_cons_succ, List.getElem_toArray, List.getElem_cons_succ, List.getElem_cons_zero])
              refine wpAnyH_take (i := 7) (oi := _) (v := ?_) rfl (by kernel_rfl) (by kernel_rfl) (by kernel_rfl) (fun _ _ _ h => h) (Or.inl ⟨by rfl, ?_⟩) (by assumption) ?_
              rotate_left
              focus (intro W hSw; (try dsimp only at hSw); go_simp; (try with_reducible rfl))
              (try simp only [Act.put, List.setIfInBounds_toArray, List.set_cons_zero, List.set_cons_succ, List.getElem_toArray, List.getElem_cons_succ, List.getElem_cons_zero])
              refine wpAnyH_take (i := 8) (oi := _) (v := ?_) rfl (by kernel_rfl) (by kernel_rfl) (by kernel_rfl) (fun _ _ _ h => h) (Or.inl ⟨by rfl, ?_⟩) (by assumption) ?_
              rotate_left
              focus (intro W hSw; (try dsimp only at hSw); go_simp; (try with_reducible rfl))
              (try simp only [Act.put, List.setIfInBounds_toArray, List.set_cons_zero, List.set_cons_succ, List.getElem_toArray, List.getElem_cons_succ, List.getElem_cons_zero])
              refine wpAnyH_take (i := 11) (oi := _) (v := ?_) rfl (by kernel_rfl) (by kernel_rfl) (by kernel_rfl) (fun _ _ _ h => h) (Or.inl ⟨by rfl, ?_⟩) (by assumption) ?_
              rotate_left
              focus (intro W hSw; (try dsimp only at hSw); go_simp; (try with_reducible rfl))
              (try simp only [Act.put, List.setIfInBounds_toArray, List.set_cons_zero, List.set_cons_succ, List.getElem_toArray, List.getElem_cons_succ, List.getElem_cons_zero])
              refine wpAnyH_take (i := 12) (oi := _) (v := ?_) rfl (by kernel_rfl) (by kernel_rfl) (by kernel_rfl) (fun _ _ _ h => h) (Or.inl ⟨by rfl, ?_⟩) (by assumption) ?_
              rotate_left
              focus (intro W hSw; (try dsimp only at hSw); go_simp; (try with_reducible rfl))
              (try simp only [Act.put, List.setIfInBounds_toArray, List.set_cons_zero, List.set_cons_succ, List.getElem_toArray, List.getElem_cons_succ, List.getElem_cons_zero])
              refine wpAnyH_take (i := 13) (oi := _) (v := ?_) rfl (by kernel_rfl) (by kernel_rfl) (by kernel_rfl) (fun _ _ _ h => h) (Or.inl ⟨by rfl, ?_⟩) (by assumption) ?_
              rotate_left
              focus (intro W hSw; (try dsimp only at hSw); go_simp; (try with_reducible rfl))
              (try simp only [Act.put, List.setIfInBounds_toArray, List.set_cons_zero, List.set_cons_succ, List.getElem_toArray, List.getElem_cons_succ, List.getElem_cons_zero])
              refine wpAnyH_take (i := 14) (oi := _) (v := ?_) rfl (by kernel_rfl) (by kernel_rfl) (by kernel_rfl) (fun _ _ _ h => h) (Or.inl ⟨by rfl, ?_⟩) (by assumption) ?_
              rotate_left
              focus (intro W hSw; (try dsimp only at hSw); go_simp; (try with_reducible rfl))
              (try simp only [Act.put, List.setIfInBounds_toArray, List.set_cons_zero, List.set_cons_succ, List.getElem_toArray, List.getElem_cons_succ, List.getElem_cons_zero])
              refine wpAnyH_take (i := 15) (oi := _) (v := ?_) rfl (by kernel_rfl) (by kernel_rfl) (by kernel_rfl) (fun _ _ _ h => h) (Or.inl ⟨by rfl, ?_⟩) (by assumption) ?_
              rotate_left
              focus (intro W hSw; (try dsimp only at hSw); go_simp; (try with_reducible rfl))
              (try simp only [Act.put, List.setIfInBounds_toArray, List.set_cons_zero, List.set_cons_succ, List.getElem_toArray, List.getElem_cons_succ, List.getElem_cons_zero])
              refine wpAnyH_take (i := 16) (oi := _) (v := ?_) rfl (by kernel_rfl) (by kernel_rfl) (by kernel_rfl) (fun _ _ _ h => h) (Or.inl ⟨by rfl, ?_⟩) (by assumption) ?_
              rotate_left
              focus (intro W hSw; (try dsimp only at hSw); go_simp; (try with_reducible rfl))
              (try simp only [Act.put, List.setIfInBounds_toArray, List.set_cons_zero, List.set_cons_succ, List.getElem_toArray, List.getElem_cons_succ, List.getElem_cons_zero])
              refine wpAnyH_take (i := 17) (oi := _) (v := ?_) rfl (by kernel_rfl) (by kernel_rfl) (by kernel_rfl) (fun _ _ _ h => h) (Or.inl ⟨by rfl, ?_⟩) (by assumption) ?_
              rotate_left
              focus (intro W hSw; (try dsimp only at hSw); go_simp; (try with_reducible rfl))
              (try simp only [Act.put, List.setIfInBounds_toArray, List.set_cons_zero, List.set_cons_succ, List.getElem_toArray, List.getElem_cons_succ, List.getElem_cons_zero])
              refine wpAnyH_ready (rs := [5, 19]) (by kernel_rfl) (by simp) ?_
              refine AllReadyH.cons rfl (fun K hK => ?_) ?_
              · skip
                go_simp
                obtain ⟨vA, evA⟩ : ∃ v, v = d0.alloc (.cells #[.int .i64 1, .int .i64 6, .int .i64 7, .int .i64 8, .int .i64 9, .int .i64 2, .int .i64 14, .int .i64 1] 3) := ⟨_, rfl⟩
                obtain ⟨g8, eg8⟩ : ∃ v, v = d0.heap.size := ⟨_, rfl⟩
                have hB9 : Below d0.heap.size d0 vA := (by rw [evA]; exact (Below.refl _ _).alloc (Nat.le_refl _) _)
                have kAvA : blk vA g8 = some #[.int .i64 1, .int .i64 6, .int .i64 7, .int .i64 8, .int .i64 9, .int .i64 2, .int .i64 14, .int .i64 1] := (by rw [evA]; exact blk_alloc_new _ _ _ eg8)
                have lg8 : d0.heap.size ≤ g8 := (by rw [eg8]; exact bd0.size)
                have bvA := bt bd0 hB9
                rw [← evA, ← eg8]
                clear evA eg8 hB9
                have cA := (blk_cell kAvA q).trans HHK.out.2
                refine hK.out _ _ ⟨(bvA.cell (p := ⟨g, off + r * 9, none⟩) hgd).trans y0, (bvA.cell (p := ⟨g, off + r * 9 + 1, none⟩) hgd).trans y1, (bvA.cell (p := ⟨g, off + r * 9 + 2, none⟩) hgd).trans y2⟩ (fun _ => ?_)
                clear hK K
                (try simp only [Act.put, List.setIfInBounds_toArray, List.set_cons_zero, List.set_cons_succ, List.getElem_toArray, List.getElem_cons_succ, List.getElem_cons_zero])
                refine wpAnyH_take (i := 9) (oi := _) (v := ?_) rfl (by kernel_rfl) (by kernel_rfl) (by kernel_rfl) (fun _ _ _ h => h) (Or.inl ⟨by rfl, ?_⟩) (by assumption) ?_
                rotate_left
                focus (intro W hSw; (try dsimp only at hSw); go_simp; (try with_reducible rfl))
                (try simp only [Act.put, List.setIfInBounds_toArray, List.set_cons_zero, List.set_cons_succ, List.getElem_toArray, List.getElem_cons_succ, List.getElem_cons_zero])
                refine wpAnyH_ready (rs := [10, 19]) (by kernel_rfl) (by simp) ?_
                refine AllReadyH.cons rfl (fun K hK => ?_) ?_
                · skip
                  go_simp
                  refine hK.out _ _ ⟨(bvA.cell (p := ⟨g, off + r * 9, none⟩) hgd).trans y0, (bvA.cell (p := ⟨g, off + r * 9 + 1, none⟩) hgd).trans y1, (bvA.cell (p := ⟨g, off + r * 9 + 2, none⟩) hgd).trans y2⟩ (fun _ => ?_)
                  clear hK K
                  (try simp only [Act.put, List.setIfInBounds_toArray, List.set_cons_zero, List.set_cons_succ, List.getElem_toArray, List.getElem_cons_succ, List.getElem_cons_zero])
                  refine wpAnyH_take (i := 18) (oi := _) (v := ?_) rfl (by kernel_rfl) (by kernel_rfl) (by kernel_rfl) (fun _ _ _ h => h) (Or.inl ⟨by rfl, ?_⟩) (by assumption) ?_
                  rotate_left
                  focus (intro W hSw; (try dsimp only at hSw); go_simp; (try with_reducible rfl))
                  (try simp only [Act.put, List.setIfInBounds_toArray, List.set_cons_zero, List.set_cons_succ, List.getElem_toArray, List.getElem_cons_succ, List.getElem_cons_zero])
                  refine wpAnyH_ready (rs := [19]) (by kernel_rfl) (by simp) ?_
                  refine AllReadyH.cons rfl (fun K hK => ?_) AllReadyH.nil
                  go_simp
                  obtain ⟨vB, evB⟩ : ∃ v, v = vA.alloc (.cells #[.int .i64 0, .int .i64 0, .int .i64 0, .int .i64 0, .int .u64 0, .int .i64 0, .int .i64 0] 56) := ⟨_, rfl⟩
                  obtain ⟨p9, ep9⟩ : ∃ v, v = vA.heap.size := ⟨_, rfl⟩
                  have hB9 : Below vA.heap.size vA vB := (by rw [evB]; exact (Below.refl _ _).alloc (Nat.le_refl _) _)
                  have kBvB : blk vB p9 = some #[.int .i64 0, .int .i64 0, .int .i64 0, .int .i64 0, .int .u64 0, .int .i64 0, .int .i64 0] := (by rw [evB]; exact blk_alloc_new _ _ _ ep9)
                  have lp9 : d0.heap.size ≤ p9 := (by rw [ep9]; exact bvA.size)
                  have bvB := bt bvA hB9
                  have kAvB := blk_below hB9 kAvA
                  rw [← evB, ← ep9]
                  clear evB ep9 hB9
                  have cA := (blk_cell kAvB q).trans HHK.out.2
                  refine hK.out _ _ ⟨(bvB.cell (p := ⟨g, off + r * 9, none⟩) hgd).trans y0, (bvB.cell (p := ⟨g, off + r * 9 + 1, none⟩) hgd).trans y1, (bvB.cell (p := ⟨g, off + r * 9 + 2, none⟩) hgd).trans y2⟩ (fun _ => ?_)
                  clear hK K
                  (try simp only [Act.put, List.setIfInBounds_toArray, List.set_cons_zero, List.set_cons_succ, List.getElem_toArray, List.getElem_cons_succ, List.getElem_cons_zero])
                  refine wpAnyH_ready (rs := [20]) (by kernel_rfl) (by simp) ?_
                  refine AllReadyH.cons rfl (fun K hK => ?_) AllReadyH.nil
                  refine wp_store_midB 56 (.tmp 11) (.tmp 106) p9 0 #[.int .i64 0, .int .i64 0, .int .i64 0, .int .i64 0, .int .u64 0, .int .i64 0, .int .i64 0] #[.int .i64 t2', .int .i64 no, .int .i64 ki, .int .i64 x.no, .int .u64 x.sq, .int .i64 x.of, .int .i64 0] #[.int .i64 t2', .int .i64 no, .int .i64 ki, .int .i64 x.no, .int .u64 x.sq, .int .i64 x.of, .int .i64 0] kBvB rfl rfl rfl (by simp) (by kernel_rfl) (by kernel_rfl) (by kernel_rfl) ?_
                  intro T kT sT BT zT
                  have bT9 := BT _ _ lp9 bvB
                  clear sT BT zT
                  refine hK.out _ _ ⟨(bT9.cell (p := ⟨g, off + r * 9, none⟩) hgd).trans y0, (bT9.cell (p := ⟨g, off + r * 9 + 1, none⟩) hgd).trans y1, (bT9.cell (p := ⟨g, off + r * 9 + 2, none⟩) hgd).trans y2⟩ (fun _ => ?_)
                  clear hK K
                  (try simp only [Act.put, List.setIfInBounds_toArray, List.set_cons_zero, List.set_cons_succ, List.getElem_toArray, List.getElem_cons_succ, List.getElem_cons_zero])
                  refine wpAnyH_done (by kernel_rfl) ?_ _
                  go_wp2
                  go_meet
                  case rel => exact ⟨p9, rfl, Nat.le_trans hw0.size lp9, Lib.hid ⟨kT, bt hw0 bT9⟩⟩
                refine AllReadyH.cons rfl (fun K hK => ?_) AllReadyH.nil
                go_simp
                obtain ⟨vB, evB⟩ : ∃ v, v = vA.alloc (.cells #[.int .i64 0, .int .i64 0, .int .i64 0, .int .i64 0, .int .u64 0, .int .i64 0, .int .i64 0] 56) := ⟨_, rfl⟩
                obtain ⟨p9, ep9⟩ : ∃ v, v = vA.heap.size := ⟨_, rfl⟩
                have hB9 : Below vA.heap.size vA vB := (by rw [evB]; exact (Below.refl _ _).alloc (Nat.le_refl _) _)
                have kBvB : blk vB p9 = some #[.int .i64 0, .int .i64 0, .int .i64 0, .int .i64 0, .int .u64 0, .int .i64 0, .int .i64 0] := (by rw [evB]; exact blk_alloc_new _ _ _ ep9)
                have lp9 : d0.heap.size ≤ p9 := (by rw [ep9]; exact bvA.size)
                have bvB := bt bvA hB9
                have kAvB := blk_below hB9 kAvA
                rw [← evB, ← ep9]
                clear evB ep9 hB9
                have cA := (blk_cell kAvB q).trans HHK.out.2
                refine hK.out _ _ ⟨(bvB.cell (p := ⟨g, off + r * 9, none⟩) hgd).trans y0, (bvB.cell (p := ⟨g, off + r * 9 + 1, none⟩) hgd).trans y1, (bvB.cell (p := ⟨g, off + r * 9 + 2, none⟩) hgd).trans y2⟩ (fun _ => ?_)
                clear hK K
                (try simp only [Act.put, List.setIfInBounds_toArray, List.set_cons_zero, List.set_cons_succ, List.getElem_toArray, List.getElem_cons_succ, List.getElem_cons_zero])
                refine wpAnyH_ready (rs := [10]) (by kernel_rfl) (by simp) ?_
                refine AllReadyH.cons rfl (fun K hK => ?_) AllReadyH.nil
                go_simp
                refine hK.out _ _ ⟨(bvB.cell (p := ⟨g, off + r * 9, none⟩) hgd).trans y0, (bvB.cell (p := ⟨g, off + r * 9 + 1, none⟩) hgd).trans y1, (bvB.cell (p := ⟨g, off + r * 9 + 2, none⟩) hgd).trans y2⟩ (fun _ => ?_)
                clear hK K
                (try simp only [Act.put, List.setIfInBounds_toArray, List.set_cons_zero, List.set_cons_succ, List.getElem_toArray, List.getElem_cons_succ, List.getElem_cons_zero])
                refine wpAnyH_take (i := 18) (oi := _) (v := ?_) rfl (by kernel_rfl) (by kernel_rfl) (by kernel_rfl) (fun _ _ _ h => h) (Or.inl ⟨by rfl, ?_⟩) (by assumption) ?_
                rotate_left
                focus (intro W hSw; (try dsimp only at hSw); go_simp; (try with_reducible rfl))
                (try simp only [Act.put, List.setIfInBounds_toArray, List.set_cons_zero, List.set_cons_succ, List.getElem_toArray, List.getElem_cons_succ, List.getElem_cons_zero])
                refine wpAnyH_ready (rs := [20]) (by kernel_rfl) (by simp) ?_
                refine AllReadyH.cons rfl (fun K hK => ?_) AllReadyH.nil
                refine wp_store_midB 56 (.tmp 11) (.tmp 106) p9 0 #[.int .i64 0, .int .i64 0, .int .i64 0, .int .i64 0, .int .u64 0, .int .i64 0, .int .i64 0] #[.int .i64 t2', .int .i64 no, .int .i64 ki, .int .i64 x.no, .int .u64 x.sq, .int .i64 x.of, .int .i64 0] #[.int .i64 t2', .int .i64 no, .int .i64 ki, .int .i64 x.no, .int .u64 x.sq, .int .i64 x.of, .int .i64 0] kBvB rfl rfl rfl (by simp) (by kernel_rfl) (by kernel_rfl) (by kernel_rfl) ?_
                intro T kT sT BT zT
                have bT9 := BT _ _ lp9 bvB
                clear sT BT zT
                refine hK.out _ _ ⟨(bT9.cell (p := ⟨g, off + r * 9, none⟩) hgd).trans y0, (bT9.cell (p := ⟨g, off + r * 9 + 1, none⟩) hgd).trans y1, (bT9.cell (p := ⟨g, off + r * 9 + 2, none⟩) hgd).trans y2⟩ (fun _ => ?_)
                clear hK K
                (try simp only [Act.put, List.setIfInBounds_toArray, List.set_cons_zero, List.set_cons_succ, List.getElem_toArray, List.getElem_cons_succ, List.getElem_cons_zero])
                refine wpAnyH_done (by kernel_rfl) ?_ _
                go_wp2
                go_meet
                case rel => exact ⟨p9, rfl, Nat.le_trans hw0.size lp9, Lib.hid ⟨kT, bt hw0 bT9⟩⟩
              refine AllReadyH.cons rfl (fun K hK => ?_) AllReadyH.nil
              go_simp
              obtain ⟨vB, evB⟩ : ∃ v, v = d0.alloc (.cells #[.int .i64 0, .int .i64 0, .int .i64 0, .int .i64 0, .int .u64 0, .int .i64 0, .int .i64 0] 56) := ⟨_, rfl⟩
              obtain ⟨p9, ep9⟩ : ∃ v, v = d0.heap.size := ⟨_, rfl⟩
              have hB9 : Below d0.heap.size d0 vB := (by rw [evB]; exact (Below.refl _ _).alloc (Nat.le_refl _) _)
              have kBvB : blk vB p9 = some #[.int .i64 0, .int .i64 0, .int .i64 0, .int .i64 0, .int .u64 0, .int .i64 0, .int .i64 0] := (by rw [evB]; exact blk_alloc_new _ _ _ ep9)
              have lp9 : d0.heap.size ≤ p9 := (by rw [ep9]; exact bd0.size)
              have bvB := bt bd0 hB9
              rw [← evB, ← ep9]
              clear evB ep9 hB9
              refine hK.out _ _ ⟨(bvB.cell (p := ⟨g, off + r * 9, none⟩) hgd).trans y0, (bvB.cell (p := ⟨g, off + r * 9 + 1, none⟩) hgd).trans y1, (bvB.cell (p := ⟨g, off + r * 9 + 2, none⟩) hgd).trans y2⟩ (fun _ => ?_)
              clear hK K
              (try simp only [Act.put, List.setIfInBounds_toArray, List.set_cons_zero, List.set_cons_succ, List.getElem_toArray, List.getElem_cons_succ, List.getElem_cons_zero])
              refine wpAnyH_ready (rs := [5]) (by kernel_rfl) (by simp) ?_
              refine AllReadyH.cons rfl (fun K hK => ?_) AllReadyH.nil
              go_simp
              obtain ⟨vA, evA⟩ : ∃ v, v = vB.alloc (.cells #[.int .i64 1, .int .i64 6, .int .i64 7, .int .i64 8, .int .i64 9, .int .i64 2, .int .i64 14, .int .i64 1] 3) := ⟨_, rfl⟩
              obtain ⟨g8, eg8⟩ : ∃ v, v = vB.heap.size := ⟨_, rfl⟩
              have hB9 : Below vB.heap.size vB vA := (by rw [evA]; exact (Below.refl _ _).alloc (Nat.le_refl _) _)
              have kAvA : blk vA g8 = some #[.int .i64 1, .int .i64 6, .int .i64 7, .int .i64 8, .int .i64 9, .int .i64 2, .int .i64 14, .int .i64 1] := (by rw [evA]; exact blk_alloc_new _ _ _ eg8)
              have lg8 : d0.heap.size ≤ g8 := (by rw [eg8]; exact bvB.size)
              have bvA := bt bvB hB9
              have kBvA := blk_below hB9 kBvB
              rw [← evA, ← eg8]
              clear evA eg8 hB9
              have cA := (blk_cell kAvA q).trans HHK.out.2
              refine hK.out _ _ ⟨(bvA.cell (p := ⟨g, off + r * 9, none⟩) hgd).trans y0, (bvA.cell (p := ⟨g, off + r * 9 + 1, none⟩) hgd).trans y1, (bvA.cell (p := ⟨g, off + r * 9 + 2, none⟩) hgd).trans y2⟩ (fun _ => ?_)
              clear hK K
              (try simp only [Act.put, List.setIfInBounds_toArray, List.set_cons_zero, List.set_cons_succ, List.getElem_toArray, List.getElem_cons_succ, List.getElem_cons_zero])
              refine wpAnyH_take (i := 9) (oi := _) (v := ?_) rfl (by kernel_rfl) (by kernel_rfl) (by kernel_rfl) (fun _ _ _ h => h) (Or.inl ⟨by rfl, ?_⟩) (by assumption) ?_
              rotate_left
              focus (intro W hSw; (try dsimp only at hSw); go_simp; (try with_reducible rfl))
              (try simp only [Act.put, List.setIfInBounds_toArray, List.set_cons_zero, List.set_cons_succ, List.getElem_toArray, List.getElem_cons_succ, List.getElem_cons_zero])
              refine wpAnyH_ready (rs := [10]) (by kernel_rfl) (by simp) ?_
              refine AllReadyH.cons rfl (fun K hK => ?_) AllReadyH.nil
              go_simp
              refine hK.out _ _ ⟨(bvA.cell (p := ⟨g, off + r * 9, none⟩) hgd).trans y0, (bvA.cell (p := ⟨g, off + r * 9 + 1, none⟩) hgd).trans y1, (bvA.cell (p := ⟨g, off + r * 9 + 2, none⟩) hgd).trans y2⟩ (fun _ => ?_)
              clear hK K
              (try simp only [Act.put, List.setIfInBounds_toArray, List.set_cons_zero, List.set_cons_succ, List.getElem_toArray, List.getElem_cons_succ, List.getElem_cons_zero])
              refine wpAnyH_take (i := 18) (oi := _) (v := ?_) rfl (by kernel_rfl) (by kernel_rfl) (by kernel_rfl) (fun _ _ _ h => h) (Or.inl ⟨by rfl, ?_⟩) (by assumption) ?_
              rotate_left
              focus (intro W hSw; (try dsimp only at hSw); go_simp; (try with_reducible rfl))
              (try simp only [Act.put, List.setIfInBounds_toArray, List.set_cons_zero, List.set_cons_succ, List.getElem_toArray, List.getElem_cons_succ, List.getElem_cons_zero])
              refine wpAnyH_ready (rs := [20]) (by kernel_rfl) (by simp) ?_
              refine AllReadyH.cons rfl (fun K hK => ?_) AllReadyH.nil
              refine wp_store_midB 56 (.tmp 11) (.tmp 106) p9 0 #[.int .i64 0, .int .i64 0, .int .i64 0, .int .i64 0, .int .u64 0, .int .i64 0, .int .i64 0] #[.int .i64 t2', .int .i64 no, .int .i64 ki, .int .i64 x.no, .int .u64 x.sq, .int .i64 x.of, .int .i64 0] #[.int .i64 t2', .int .i64 no, .int .i64 ki, .int .i64 x.no, .int .u64 x.sq, .int .i64 x.of, .int .i64 0] kBvA rfl rfl rfl (by simp) (by kernel_rfl) (by kernel_rfl) (by kernel_rfl) ?_
              intro T kT sT BT zT
              have bT9 := BT _ _ lp9 bvA
              clear sT BT zT
              refine hK.out _ _ ⟨(bT9.cell (p := ⟨g, off + r * 9, none⟩) hgd).trans y0, (bT9.cell (p := ⟨g, off + r * 9 + 1, none⟩) hgd).trans y1, (bT9.cell (p := ⟨g, off + r * 9 + 2, none⟩) hgd).trans y2⟩ (fun _ => ?_)
              clear hK K
              (try simp only [Act.put, List.setIfInBounds_toArray, List.set_cons_zero, List.set_cons_succ, List.getElem_toArray, List.getElem_cons_succ, List.getElem_cons_zero])
              refine wpAnyH_done (by kernel_rfl) ?_ _
              go_wp2
              go_meet
              case rel => exact ⟨p9, rfl, Nat.le_trans hw0.size lp9, Lib.hid ⟨kT, bt hw0 bT9⟩⟩
            case rest =>
              obtain ⟨p, rfl, lp, HC⟩ := hcut
              have kp := HC.out.1
              have np := kn kp
              have bwc := HC.out.2
              clear x0 x1 x2 h1
              rcases kcase HHK.out.1 with rfl | rfl | rfl | rfl | ⟨h1, h6, h7, h14⟩
              · have HE : Hid (fixO t2' no 1 x = ⟨t2', x.no, 1, x.no, x.sq, x.of, 0⟩) := Lib.hid (by unfold fixO; simp)
                go_upto_region 24 with fail
                refine wp_freshU p #[.int .i64 t2', .int .i64 x.no, .int .i64 1, .int .i64 x.no, .int .u64 x.sq, .int .i64 x.of, .int .i64 0] (by (apply blk_to; (focus (repeat (first | (with_reducible assumption) | (with_reducible apply blk_drew) | (with_reducible apply blk_set) | ((with_reducible apply blk_other'); (first | (focus (dsimp only; assumption)) | (focus (simp; done)) | (focus (dsimp only; omega)))) | ((with_reducible apply blk_alloc_new); (first | (with_reducible rfl) | (focus (simp; done)) | (focus (simp; omega)))) | (with_reducible apply blk_alloc) | ((with_reducible apply blk_below); (with_reducible assumption))))); rfl)) (by (repeat (first | (with_reducible assumption) | (with_reducible exact Below.refl _ _) | (with_reducible refine beld_drew ?_) | ((with_reducible refine bset' ?_ ?_); (first | (focus (dsimp only; assumption)) | (focus (simp; done)) | (focus (dsimp only; omega)))) | (with_reducible refine belt_alloc ?_) | ((with_reducible refine zeroed_below' ?_ ?_); (first | (focus (simp; done)) | (focus (dsimp only; omega)))) | (with_reducible refine bt ?_ (by assumption)))) : Below wr.heap.size wr _) ?_
                intro w9 k9 h9
                have n9 := kn k9
                have ho9 := Lib.hid (owns_belowS HL.out.1 h9)
                have hB9 := bt hB2 h9
                have HB9 := Lib.hid hB9
                have s9 := hB9.size
                clear HC kp np h9 hB9
                go_wp2_with (at_builtin; refine wpList_append_struct (enc := oc) rfl _ _ 23 rfl u.heap.size 56 i3 (.agg #[.int .i64 0, .int .i64 0, .int .i64 0, .int .i64 0, .int .u64 0, .int .i64 0, .int .i64 0]) 7 56 Tryz.underlying23 Kj.out Ky0.out Ky1.out Ky2.out rfl (by decide) oc_len oc_one _ l rfl (ho9.out.alloc _) w9.heap.size 1 ⟨t2', x.no, 1, x.no, x.sq, x.of, 0⟩ rfl (blk_alloc_new _ _ _ rfl) (by have := HL.out.2.2; unfold maxLen; omega) (by have := HL.out.2.2; omega) (by simp; omega) ?_; intro v' wb hown2 hgrow2; (have HO2 := Lib.hid hown2); (have hB3 : Below u.heap.size u wb := (HB9.out.alloc HB9.out.size _).grown hgrow2 (by simp; omega) (fun k e => (ho9.out.lt k e).1)); clear hown2 hgrow2)
                go_roundw
                case rel => exact ⟨i + 1, t2', by go_num, rfl, by omega, by omega, by omega, htt.2, hB3, l ++ [⟨t2', x.no, 1, x.no, x.sq, x.of, 0⟩], Lib.hid ⟨HO2.out, by rw [← HE.out]; exact HFX.out l t HL.out.2.1 ht0 ⟨htt.1, by omega⟩, by have := HL.out.2.2; simp; omega⟩⟩
                case measure => simp [intOf]; omega
              · have HE : Hid (fixO t2' no 6 x = ⟨t2', no, 6, x.no, x.sq, x.of, 1 + no % 4⟩) := Lib.hid (by unfold fixO; simp)
                go_upto_region 24 with fail
                refine wp_freshU p #[.int .i64 t2', .int .i64 no, .int .i64 6, .int .i64 x.no, .int .u64 x.sq, .int .i64 x.of, .int .i64 (1 + no % 4)] (by (apply blk_to; (focus (repeat (first | (with_reducible assumption) | (with_reducible apply blk_drew) | (with_reducible apply blk_set) | ((with_reducible apply blk_other'); (first | (focus (dsimp only; assumption)) | (focus (simp; done)) | (focus (dsimp only; omega)))) | ((with_reducible apply blk_alloc_new); (first | (with_reducible rfl) | (focus (simp; done)) | (focus (simp; omega)))) | (with_reducible apply blk_alloc) | ((with_reducible apply blk_below); (with_reducible assumption))))); rfl)) (by (repeat (first | (with_reducible assumption) | (with_reducible exact Below.refl _ _) | (with_reducible refine beld_drew ?_) | ((with_reducible refine bset' ?_ ?_); (first | (focus (dsimp only; assumption)) | (focus (simp; done)) | (focus (dsimp only; omega)))) | (with_reducible refine belt_alloc ?_) | ((with_reducible refine zeroed_below' ?_ ?_); (first | (focus (simp; done)) | (focus (dsimp only; omega)))) | (with_reducible refine bt ?_ (by assumption)))) : Below wr.heap.size wr _) ?_
                intro w9 k9 h9
                have n9 := kn k9
                have ho9 := Lib.hid (owns_belowS HL.out.1 h9)
                have hB9 := bt hB2 h9
                have HB9 := Lib.hid hB9
                have s9 := hB9.size
                clear HC kp np h9 hB9
                go_wp2_with (at_builtin; refine wpList_append_struct (enc := oc) rfl _ _ 23 rfl u.heap.size 56 i3 (.agg #[.int .i64 0, .int .i64 0, .int .i64 0, .int .i64 0, .int .u64 0, .int .i64 0, .int .i64 0]) 7 56 Tryz.underlying23 Kj.out Ky0.out Ky1.out Ky2.out rfl (by decide) oc_len oc_one _ l rfl (ho9.out.alloc _) w9.heap.size 1 ⟨t2', no, 6, x.no, x.sq, x.of, 1 + no % 4⟩ rfl (blk_alloc_new _ _ _ rfl) (by have := HL.out.2.2; unfold maxLen; omega) (by have := HL.out.2.2; omega) (by simp; omega) ?_; intro v' wb hown2 hgrow2; (have HO2 := Lib.hid hown2); (have hB3 : Below u.heap.size u wb := (HB9.out.alloc HB9.out.size _).grown hgrow2 (by simp; omega) (fun k e => (ho9.out.lt k e).1)); clear hown2 hgrow2)
                go_roundw
                case rel => exact ⟨i + 1, t2', by go_num, rfl, by omega, by omega, by omega, htt.2, hB3, l ++ [⟨t2', no, 6, x.no, x.sq, x.of, 1 + no % 4⟩], Lib.hid ⟨HO2.out, by rw [← HE.out]; exact HFX.out l t HL.out.2.1 ht0 ⟨htt.1, by omega⟩, by have := HL.out.2.2; simp; omega⟩⟩
                case measure => simp [intOf]; omega
              · have HE : Hid (fixO t2' no 7 x = ⟨t2', no, 7, x.no, x.sq, x.of, 1 + no % 4⟩) := Lib.hid (by unfold fixO; simp)
                go_upto_region 24 with fail
                refine wp_freshU p #[.int .i64 t2', .int .i64 no, .int .i64 7, .int .i64 x.no, .int .u64 x.sq, .int .i64 x.of, .int .i64 (1 + no % 4)] (by (apply blk_to; (focus (repeat (first | (with_reducible assumption) | (with_reducible apply blk_drew) | (with_reducible apply blk_set) | ((with_reducible apply blk_other'); (first | (focus (dsimp only; assumption)) | (focus (simp; done)) | (focus (dsimp only; omega)))) | ((with_reducible apply blk_alloc_new); (first | (with_reducible rfl) | (focus (simp; done)) | (focus (simp; omega)))) | (with_reducible apply blk_alloc) | ((with_reducible apply blk_below); (with_reducible assumption))))); rfl)) (by (repeat (first | (with_reducible assumption) | (with_reducible exact Below.refl _ _) | (with_reducible refine beld_drew ?_) | ((with_reducible refine bset' ?_ ?_); (first | (focus (dsimp only; assumption)) | (focus (simp; done)) | (focus (dsimp only; omega)))) | (with_reducible refine belt_alloc ?_) | ((with_reducible refine zeroed_below' ?_ ?_); (first | (focus (simp; done)) | (focus (dsimp only; omega)))) | (with_reducible refine bt ?_ (by assumption)))) : Below wr.heap.size wr _) ?_
                intro w9 k9 h9
                have n9 := kn k9
                have ho9 := Lib.hid (owns_belowS HL.out.1 h9)
                have hB9 := bt hB2 h9
                have HB9 := Lib.hid hB9
                have s9 := hB9.size
                clear HC kp np h9 hB9
                go_wp2_with (at_builtin; refine wpList_append_struct (enc := oc) rfl _ _ 23 rfl u.heap.size 56 i3 (.agg #[.int .i64 0, .int .i64 0, .int .i64 0, .int .i64 0, .int .u64 0, .int .i64 0, .int .i64 0]) 7 56 Tryz.underlying23 Kj.out Ky0.out Ky1.out Ky2.out rfl (by decide) oc_len oc_one _ l rfl (ho9.out.alloc _) w9.heap.size 1 ⟨t2', no, 7, x.no, x.sq, x.of, 1 + no % 4⟩ rfl (blk_alloc_new _ _ _ rfl) (by have := HL.out.2.2; unfold maxLen; omega) (by have := HL.out.2.2; omega) (by simp; omega) ?_; intro v' wb hown2 hgrow2; (have HO2 := Lib.hid hown2); (have hB3 : Below u.heap.size u wb := (HB9.out.alloc HB9.out.size _).grown hgrow2 (by simp; omega) (fun k e => (ho9.out.lt k e).1)); clear hown2 hgrow2)
                go_roundw
                case rel => exact ⟨i + 1, t2', by go_num, rfl, by omega, by omega, by omega, htt.2, hB3, l ++ [⟨t2', no, 7, x.no, x.sq, x.of, 1 + no % 4⟩], Lib.hid ⟨HO2.out, by rw [← HE.out]; exact HFX.out l t HL.out.2.1 ht0 ⟨htt.1, by omega⟩, by have := HL.out.2.2; simp; omega⟩⟩
                case measure => simp [intOf]; omega
              · have HE : Hid (fixO t2' no 14 x = ⟨t2', no, 14, 0, 0, 0, 0⟩) := Lib.hid (by unfold fixO; simp)
                go_upto_region 24 with fail
                refine wp_freshU p #[.int .i64 t2', .int .i64 no, .int .i64 14, .int .i64 0, .int .u64 0, .int .i64 0, .int .i64 0] (by (apply blk_to; (focus (repeat (first | (with_reducible assumption) | (with_reducible apply blk_drew) | (with_reducible apply blk_set) | ((with_reducible apply blk_other'); (first | (focus (dsimp only; assumption)) | (focus (simp; done)) | (focus (dsimp only; omega)))) | ((with_reducible apply blk_alloc_new); (first | (with_reducible rfl) | (focus (simp; done)) | (focus (simp; omega)))) | (with_reducible apply blk_alloc) | ((with_reducible apply blk_below); (with_reducible assumption))))); rfl)) (by (repeat (first | (with_reducible assumption) | (with_reducible exact Below.refl _ _) | (with_reducible refine beld_drew ?_) | ((with_reducible refine bset' ?_ ?_); (first | (focus (dsimp only; assumption)) | (focus (simp; done)) | (focus (dsimp only; omega)))) | (with_reducible refine belt_alloc ?_) | ((with_reducible refine zeroed_below' ?_ ?_); (first | (focus (simp; done)) | (focus (dsimp only; omega)))) | (with_reducible refine bt ?_ (by assumption)))) : Below wr.heap.size wr _) ?_
                intro w9 k9 h9
                have n9 := kn k9
                have ho9 := Lib.hid (owns_belowS HL.out.1 h9)
                have hB9 := bt hB2 h9
                have HB9 := Lib.hid hB9
                have s9 := hB9.size
                clear HC kp np h9 hB9
                go_wp2_with (at_builtin; refine wpList_append_struct (enc := oc) rfl _ _ 23 rfl u.heap.size 56 i3 (.agg #[.int .i64 0, .int .i64 0, .int .i64 0, .int .i64 0, .int .u64 0, .int .i64 0, .int .i64 0]) 7 56 Tryz.underlying23 Kj.out Ky0.out Ky1.out Ky2.out rfl (by decide) oc_len oc_one _ l rfl (ho9.out.alloc _) w9.heap.size 1 ⟨t2', no, 14, 0, 0, 0, 0⟩ rfl (blk_alloc_new _ _ _ rfl) (by have := HL.out.2.2; unfold maxLen; omega) (by have := HL.out.2.2; omega) (by simp; omega) ?_; intro v' wb hown2 hgrow2; (have HO2 := Lib.hid hown2); (have hB3 : Below u.heap.size u wb := (HB9.out.alloc HB9.out.size _).grown hgrow2 (by simp; omega) (fun k e => (ho9.out.lt k e).1)); clear hown2 hgrow2)
                go_roundw
                case rel => exact ⟨i + 1, t2', by go_num, rfl, by omega, by omega, by omega, htt.2, hB3, l ++ [⟨t2', no, 14, 0, 0, 0, 0⟩], Lib.hid ⟨HO2.out, by rw [← HE.out]; exact HFX.out l t HL.out.2.1 ht0 ⟨htt.1, by omega⟩, by have := HL.out.2.2; simp; omega⟩⟩
                case measure => simp [intOf]; omega
              · have b1 : (ki == 1) = false := by simpa using h1
                have b6 : (ki == 6) = false := by simpa using h6
                have b7 : (ki == 7) = false := by simpa using h7
                have b14 : (ki == 14) = false := by simpa using h14
                have HE : Hid (fixO t2' no ki x = ⟨t2', no, ki, x.no, x.sq, x.of, 0⟩) := Lib.hid (by unfold fixO; rw [if_neg h1, if_neg (by omega), if_neg h14])
                go_upto_region 24 with fail
                refine wp_freshU p #[.int .i64 t2', .int .i64 no, .int .i64 ki, .int .i64 x.no, .int .u64 x.sq, .int .i64 x.of, .int .i64 0] (by (apply blk_to; (focus (repeat (first | (with_reducible assumption) | (with_reducible apply blk_drew) | (with_reducible apply blk_set) | ((with_reducible apply blk_other'); (first | (focus (dsimp only; assumption)) | (focus (simp; done)) | (focus (dsimp only; omega)))) | ((with_reducible apply blk_alloc_new); (first | (with_reducible rfl) | (focus (simp; done)) | (focus (simp; omega)))) | (with_reducible apply blk_alloc) | ((with_reducible apply blk_below); (with_reducible assumption))))); rfl)) (by (repeat (first | (with_reducible assumption) | (with_reducible exact Below.refl _ _) | (with_reducible refine beld_drew ?_) | ((with_reducible refine bset' ?_ ?_); (first | (focus (dsimp only; assumption)) | (focus (simp; done)) | (focus (dsimp only; omega)))) | (with_reducible refine belt_alloc ?_) | ((with_reducible refine zeroed_below' ?_ ?_); (first | (focus (simp; done)) | (focus (dsimp only; omega)))) | (with_reducible refine bt ?_ (by assumption)))) : Below wr.heap.size wr _) ?_
                intro w9 k9 h9
                have n9 := kn k9
                have ho9 := Lib.hid (owns_belowS HL.out.1 h9)
                have hB9 := bt hB2 h9
                have HB9 := Lib.hid hB9
                have s9 := hB9.size
                clear HC kp np h9 hB9
                go_wp2_with (at_builtin; refine wpList_append_struct (enc := oc) rfl _ _ 23 rfl u.heap.size 56 i3 (.agg #[.int .i64 0, .int .i64 0, .int .i64 0, .int .i64 0, .int .u64 0, .int .i64 0, .int .i64 0]) 7 56 Tryz.underlying23 Kj.out Ky0.out Ky1.out Ky2.out rfl (by decide) oc_len oc_one _ l rfl (ho9.out.alloc _) w9.heap.size 1 ⟨t2', no, ki, x.no, x.sq, x.of, 0⟩ rfl (blk_alloc_new _ _ _ rfl) (by have := HL.out.2.2; unfold maxLen; omega) (by have := HL.out.2.2; omega) (by simp; omega) ?_; intro v' wb hown2 hgrow2; (have HO2 := Lib.hid hown2); (have hB3 : Below u.heap.size u wb := (HB9.out.alloc HB9.out.size _).grown hgrow2 (by simp; omega) (fun k e => (ho9.out.lt k e).1)); clear hown2 hgrow2)
                go_roundw
                case rel => exact ⟨i + 1, t2', by go_num, rfl, by omega, by omega, by omega, htt.2, hB3, l ++ [⟨t2', no, ki, x.no, x.sq, x.of, 0⟩], Lib.hid ⟨HO2.out, by rw [← HE.out]; exact HFX.out l t HL.out.2.1 ht0 ⟨htt.1, by omega⟩, by have := HL.out.2.2; simp; omega⟩⟩
                case measure => simp [intOf]; omega
          · have t2 : decide ((i : Int) < 36) = false := decide_eq_false (by omega)
            obtain ⟨a2, c2, rfl, hS2, _⟩ := srow_of_owns oc_len HL.out.1
            have HE := Lib.hid (And.intro hS2 (And.intro HL.out.2.1 HL.out.2.2))
            clear HL hS2
            go_wp2
            go_ret2
            exact ⟨b, l, _, _, _, _, rfl, ⟨HBS.out.2.2.1, HBS.out.2.1, HBS.out.2.2.2.1⟩, ⟨⟨t, HE.out.2.1⟩, by have := HE.out.2.2; omega⟩, HBS.out.1.below hB2, HE.out.1, bt hB hB2⟩
        · have t1 : decide ((i : Int) < (zs.length : Int)) = false := decide_eq_false (by omega)
          obtain ⟨a2, c2, rfl, hS2, _⟩ := srow_of_owns oc_len HL.out.1
          have HE := Lib.hid (And.intro hS2 (And.intro HL.out.2.1 HL.out.2.2))
          clear HL hS2
          go_wp2
          go_ret2
          exact ⟨b, l, _, _, _, _, rfl, ⟨HBS.out.2.2.1, HBS.out.2.1, HBS.out.2.2.2.1⟩, ⟨⟨t, HE.out.2.1⟩, by have := HE.out.2.2; omega⟩, HBS.out.1.below hB2, HE.out.1, bt hB hB2⟩
end Go.Proofs.YthfmkkkdjgkaoaaGreatDoor
