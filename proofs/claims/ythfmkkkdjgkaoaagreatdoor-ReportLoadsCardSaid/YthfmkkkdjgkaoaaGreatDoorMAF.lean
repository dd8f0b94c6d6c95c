/- Parts of a proof, printed by a program of mine out of my texts: RpRSs, RpRPk. -/
import Derived.Test.YthfmkkkdjgkaoaaGreatDoorMAE
import Derived.Test.YthfmkkkdjgkaoaaGreatDoorML
import Derived.Test.YthfmkkkdjgkaoaaGreatDoorMT
import Derived.Test.YthfmkkkdjgkaoaaGreatDoorMW
import Derived.Test.YthfmkkkdjgkaoaaGreatDoorMX10
set_option linter.unusedSimpArgs false
set_option linter.unusedVariables false
namespace Go.Proofs.YthfmkkkdjgkaoaaGreatDoor
open Go.RowKit
theorem owns_keep {W W' : World} {B B2 : Nat} {e e2 : TypeId} {k k2 : Nat} {v v2 : Value} {n n2 : Nat} {xs xs2 : List Value} (h : W.ownsRow B e k v n xs) (h2 : W.ownsRow B2 e2 k2 v2 n2 xs2) (hne : e ≠ e2) (hg : W.grownBy W' v2.ownBlock) : W'.ownsRow B e k v n xs := by
  obtain ⟨h1, h3⟩ := h
  refine ⟨h1, ?_⟩
  rcases h3 with h3 | ⟨g, cap, cur, h4, h5, h6, h7⟩
  · exact .inl h3
  · refine .inr ⟨g, cap, cur, h4, h5, ?_, h7⟩
    rw [hg.block g (Array.getElem?_eq_some_iff.1 h6).1 ?_]
    · exact h6
    · intro e9
      rcases h2.2 with ⟨h8, _⟩ | ⟨g2, cap2, cur2, h8, _, h10, _⟩
      · rw [h8] at e9; simp [Value.ownBlock] at e9
      · rw [h8] at e9
        obtain rfl : g = g2 := by simpa [Value.ownBlock] using e9
        rw [h6] at h10
        injection h10 with h10
        injection h10 with _ h11
        exact hne h11
theorem ldO_succ (b : List Bn) (sz : Bn → Int) (H : List Id3) (k : Nat) (h : k < H.length) : ldO b sz (H.take (k + 1)) = ldO b sz (H.take k) + szO b sz H[k] := by
  rw [List.take_succ_eq_append_getElem h, ld_add]
set_option maxRecDepth 100000 in
set_option maxHeartbeats 12800000 in
theorem rsteps43_ok (ab al : Option Addr) (cb cl : Nat) (b : List Bn) (l : List Oc) (node : Int) (hv : RunV b l) (hn1 : ¬ node < 1) (hn2 : ¬ 16 < node) (hd : ∀ x ∈ b, x.da.size ≤ maxLen ∧ 0 ≤ x.sq) (w : World) (hb : SRow bn 9 w ab cb b) (hl : SRow oc 7 w al cl l) :
    Calls Tryz.prog 10 #[.slice ab b.length cb, .slice al l.length cl, .int .i64 node] w (RetL (stepsO b szB node l) 0 w) := by
  have hbc : ∀ x ∈ b, bcode x = 0 := fun y hy => by obtain ⟨j, hj, rfl⟩ := List.getElem_of_mem hy; exact hv.bun j hj
  have GC : Hid (∀ W, Below w.heap.size w W → Calls Tryz.prog 32 #[.slice ab b.length cb, .slice al l.length cl] W fun e w' => e = .returned (.tuple #[.int .i64 0, .int .i64 0]) ∧ Below W.heap.size W w') := Lib.hid fun W hB => by
    have h := rrcheck_any ab al cb cl b l (fun x hx => (hd x hx).1) W (hb.below hB) (hl.below hB)
    rwa [runC_ok hv] at h
  have GH : Hid (∀ (H : List Id3) vh (o : Oc) W, H.length ≤ 10000 → Below w.heap.size w W → W.ownsRow w.heap.size 52 3 vh H.length (rowC idL H) → Calls Tryz.prog 33 #[.slice ab b.length cb, vh, .agg #[.int .i64 o.ti, .int .i64 o.no, .int .i64 o.ki, .int .i64 o.ino, .int .u64 o.isq, .int .i64 o.iof, .int .i64 o.ot], .int .i64 node] W (RetH vh H (hldO b node H o) W)) := Lib.hid fun H vh o W hH hB ho => by
    obtain ⟨a, c, rfl, hs, _⟩ := srow_of_owns (enc := idL) (k := 3) idL_len ho
    exact rholds_any ab a cb c b H o node hH W (hb.below hB) hs
  have GZ : Hid (∀ k W, Below w.heap.size w W → Calls Tryz.prog 34 #[.slice ab b.length cb, .agg (idL k).toArray] W fun e w' => e = .returned (.int .u64 (szO b szB k)) ∧ Below W.heap.size W w') := Lib.hid fun k W hB => rsz43_any ab cb b k hbc hd W (hb.below hB)
  have HL := Lib.hid hl
  have HLD := Lib.hid (fun H => ld_le b szB (fun y hy => szB_bd (hbc y hy)) H)
  have HSZ := Lib.hid (fun k => szO_bd hbc k)
  have htl := hv.tlen
  have hcap := hl.1
  have hmax := hl.2.1
  unfold maxLen at hmax
  have q0 : ((0 : Int) != 0) = false := rfl
  have q1 : decide (node < 1) = false := decide_eq_false hn1
  have q2 : decide (16 < node) = false := decide_eq_false hn2
  obtain ⟨i0, hi, hz0, hz1, hz2⟩ := info_parts infoLd
  have Hi := Lib.hid hi; have Hz0 := Lib.hid hz0; have Hz1 := Lib.hid hz1; have Hz2 := Lib.hid hz2
  clear hi hz0 hz1 hz2 hb hl hd hv hbc hn1 hn2
  go_enter Tryz.func10, Tryz.ntmps10
  go_upto_region 6 with (go_at_call 32; (with_reducible refine (GC.out _ (Below.refl _ _)).mono ?_); rintro e w1 ⟨rfl, h1⟩)
  clear q1 q2 GC
  go_wp2
  go_loopw [10, 11, 12, 13] (fun s10 s11 s12 s13 wr => ∃ i : Nat, s13 = .int .i64 i ∧ i ≤ l.length ∧ s12 = .int .u64 (stpS b szB node l i).2.1 ∧ Hid (wr.ownsRow w.heap.size 35 2 s10 (stpS b szB node l i).2.2.length (rowC lc (stpS b szB node l i).2.2) ∧ wr.ownsRow w.heap.size 52 3 s11 (stpS b szB node l i).1.length (rowC idL (stpS b szB node l i).1)) ∧ Below w.heap.size w wr) (fun _ _ _ s13 _ => l.length - (intOf s13).toNat)
  case atStart => exact ⟨0, rfl, Nat.zero_le _, rfl, Lib.hid ⟨by simpa [stpS, rowC] using World.ownsRow_nil _ _ _ _, by simpa [stpS, rowC] using World.ownsRow_nil _ _ _ _⟩, h1⟩
  case round =>
    clear h1
    obtain ⟨i, rfl, hi, rfl, HO, hB⟩ := hrel
    by_cases hlt : i < l.length
    · have hltz : (i : Int) < (l.length : Int) := by omega
      have hsc := stpS_succ (b := b) (sz := szB) (node := node) hlt
      have hhl := held_len (b := b) (sz := szB) (node := node) (l := l) i hi
      have hsl := stps_len (b := b) (sz := szB) (node := node) (l := l) i hi
      obtain ⟨g, off, hab, hgl, hcs⟩ := (HL.out.below hB).2.2.2 (by omega)
      subst hab
      have hr := hcs i hlt
      have hr2 : ∀ (h : i + 1 < l.length), wr.rangeAt g (off + (i + 1) * 7) (oc l[i + 1]) := fun h => hcs (i + 1) h
      have hnx : l[i + 1]? = if h : i + 1 < l.length then some l[i + 1] else none := by
        by_cases h : i + 1 < l.length
        · rw [dif_pos h, List.getElem?_eq_getElem h]
        · rw [dif_neg h, List.getElem?_eq_none (by omega)]
      obtain ⟨⟨ti, no, ki, ino, isq, iof, ot⟩, ho⟩ : ∃ o, o = l[i] := ⟨_, rfl⟩
      rw [← ho] at hr hsc
      have j0 : wr.cell? ⟨g, off + i * 7, none⟩ = some (.int .i64 ti) := hr 0 _ rfl
      have j1 : wr.cell? ⟨g, off + i * 7 + 1, none⟩ = some (.int .i64 no) := hr 1 _ rfl
      have j2 : wr.cell? ⟨g, off + i * 7 + 2, none⟩ = some (.int .i64 ki) := hr 2 _ rfl
      have j3 : wr.cell? ⟨g, off + i * 7 + 3, none⟩ = some (.int .i64 ino) := hr 3 _ rfl
      have j4 : wr.cell? ⟨g, off + i * 7 + 4, none⟩ = some (.int .u64 isq) := hr 4 _ rfl
      have j5 : wr.cell? ⟨g, off + i * 7 + 5, none⟩ = some (.int .i64 iof) := hr 5 _ rfl
      have j6 : wr.cell? ⟨g, off + i * 7 + 6, none⟩ = some (.int .i64 ot) := hr 6 _ rfl
      obtain ⟨⟨H, la, st⟩, hS⟩ : ∃ S, stpS b szB node l i = S := ⟨_, rfl⟩
      rw [hS] at HO hsc hhl hsl ⊢
      simp only at HO hsc hhl hsl ⊢
      obtain ⟨H2, hH2⟩ : ∃ H2, hldO b node H ⟨ti, no, ki, ino, isq, iof, ot⟩ = H2 := ⟨_, rfl⟩
      have hl2 : H2.length ≤ i + 1 := by rw [← hH2]; exact Nat.le_trans hld_len (Nat.succ_le_succ hhl)
      have gh := GH.out H u11 ⟨ti, no, ki, ino, isq, iof, ot⟩ wr (by omega) hB HO.out.2
      rw [hH2] at gh hsc
      have GHI := Lib.hid gh
      have HSC := Lib.hid hsc
      have HR2 := Lib.hid hr2
      have HNX := Lib.hid hnx
      clear hcs hr hr2 hnx ho hS hH2 gh hsc
      go_upto_region 13 with (go_at_call 33; (with_reducible refine (GHI.out).mono ?_); rintro e w3 ⟨vh, rfl, hoH, h3⟩)
      have hown : w3.ownsRow w.heap.size 52 3 vh H2.length (rowC idL H2) := by
        rcases hoH with ⟨rfl, rfl⟩ | h
        · exact owns_belowS HO.out.2 h3
        · exact owns_base h hB.size
      have HO3 := Lib.hid (And.intro (owns_belowS HO.out.1 h3) hown)
      have hB3 := bt hB h3
      have k0 : w3.cell? ⟨g, off + i * 7, none⟩ = some (.int .i64 ti) := (h3.cell (p := ⟨g, off + i * 7, none⟩) hgl).trans j0
      have hg3 := Nat.lt_of_lt_of_le hgl h3.size
      have HR3 : Hid (∀ (h : i + 1 < l.length) W, Below w3.heap.size w3 W → W.rangeAt g (off + (i + 1) * 7) (oc l[i + 1])) := Lib.hid fun h W hW => range_below hg3 (range_below hgl (HR2.out h) h3) hW
      clear GHI hoH h3 j0 j1 j2 j3 j4 j5 j6 hown HO HR2 hgl
      have hun : undef = Value.tuple #[] := rfl
      have w1 : IntKind.i64.wrap ((i : Int) + 1) = ((i + 1 : Nat) : Int) := by rw [IntWalk.i64_in _ (by omega)]; omega
      by_cases hnl : i + 1 < l.length
      · have hnz : ((i + 1 : Nat) : Int) < (l.length : Int) := by omega
        have kn0 : w3.cell? ⟨g, off + (i + 1) * 7, none⟩ = some (.int .i64 l[i + 1].ti) := HR3.out hnl w3 (Below.refl _ _) 0 _ rfl
        have hnx := HNX.out
        rw [dif_pos hnl] at hnx
        obtain ⟨tn, htn⟩ : ∃ t, l[i + 1].ti = t := ⟨_, rfl⟩
        rw [htn] at kn0
        obtain ⟨ip, hip⟩ : ∃ ip, i + 1 = ip := ⟨_, rfl⟩
        rw [hip] at kn0 hnz w1
        by_cases hte : tn = ti
        · have t1 : (tn == ti) = true := by simpa using hte
          have hstp : stpS b szB node l (i + 1) = (H2, la, st) := by
            rw [HSC.out, hnx]
            refine if_neg ?_
            rintro ⟨h9, _⟩
            simp only [Option.elim_some] at h9
            rw [htn] at h9
            exact (of_decide_eq_true h9) hte
          have HST := Lib.hid hstp
          clear hstp hnx htn hte
          go_upto_region 13 with fail
          refine wp_region_in (by kernel_rfl) (by kernel_rfl) ?_
          intro W0 hE hN
          have z0 := calm_cellQ (W0 := W0) (by rw [hE.out]; exact hg3) (by rw [hE.out]; exact k0)
          have z1 := calm_cellQ (W0 := W0) (by rw [hE.out]; exact hg3) (by rw [hE.out]; exact kn0)
          clear k0 kn0
          repeat (go_big_quiet_step (fail))
          refine wpQuiet_nil ?_
          rintro _ ⟨x', rfl⟩
          have bx : Below w3.heap.size w3 x'.wd := by rw [← hE.out]; exact x'.ok
          have hB9 := bt hB3 bx
          have HO9 := Lib.hid (And.intro (owns_belowS HO3.out.1 bx) (owns_belowS HO3.out.2 bx))
          clear z0 z1 hE hN bx HO3
          obtain ⟨u, hu⟩ : ∃ u, u = x'.wd := ⟨_, rfl⟩
          rw [← hu] at hB9 HO9 ⊢
          clear hu x'
          (try simp only [← hun])
          clear hun
          go_wp2
          go_roundw
          case rel => exact ⟨i + 1, by go_num, by omega, by rw [HST.out], Lib.hid (by rw [HST.out]; exact HO9.out), hB9⟩
          case measure => simp [intOf]; omega
        · have t1 : (tn == ti) = false := by simpa using hte
          have hgo : ((l[i + 1]?).elim true fun p => decide (p.ti ≠ ti)) = true := by
            rw [hnx]; simp only [Option.elim_some]; rw [htn]; exact decide_eq_true hte
          have HGO := Lib.hid hgo
          clear hnx htn hte hgo
          go_upto_region 13 with fail
          refine wp_region_in (by kernel_rfl) (by kernel_rfl) ?_
          intro W0 hE hN
          have z0 := calm_cellQ (W0 := W0) (by rw [hE.out]; exact hg3) (by rw [hE.out]; exact k0)
          have z1 := calm_cellQ (W0 := W0) (by rw [hE.out]; exact hg3) (by rw [hE.out]; exact kn0)
          clear kn0
          repeat (go_big_quiet_step (fail))
          refine wpQuiet_nil ?_
          rintro _ ⟨x', rfl⟩
          have bx : Below w3.heap.size w3 x'.wd := by rw [← hE.out]; exact x'.ok
          have hB9 := bt hB3 bx
          have HO9 := Lib.hid (And.intro (owns_belowS HO3.out.1 bx) (owns_belowS HO3.out.2 bx))
          have k9 : x'.wd.cell? ⟨g, off + i * 7, none⟩ = some (.int .i64 ti) := (bx.cell (p := ⟨g, off + i * 7, none⟩) hg3).trans k0
          have hg9 := Nat.lt_of_lt_of_le hg3 bx.size
          clear z0 z1 hE hN bx HO3 k0 hg3 HR3
          obtain ⟨u, hu⟩ : ∃ u, u = x'.wd := ⟨_, rfl⟩
          rw [← hu] at hB9 HO9 k9 hg9 ⊢
          clear hu x'
          (try simp only [← hun])
          clear hun
          obtain ⟨ah, ch, rfl, hsH, _⟩ := srow_of_owns (enc := idL) (k := 3) idL_len HO9.out.2
          have HSH := Lib.hid hsH
          have hcH := hsH.1
          have hmH := hsH.2.1
          unfold maxLen at hmH
          clear hsH
          have B0 : Below u.heap.size u u := Below.refl _ _
          go_wp2
          go_loopw [14, 15] (fun s14 s15 wr => ∃ k : Nat, s15 = .int .i64 k ∧ k ≤ H2.length ∧ s14 = .int .u64 (ldO b szB (H2.take k)) ∧ Below u.heap.size u wr) (fun _ s15 _ => H2.length - (intOf s15).toNat)
          case atStart => exact ⟨0, rfl, Nat.zero_le _, rfl, B0⟩
          case round =>
            clear B0
            obtain ⟨k, rfl, hk, rfl, hBk⟩ := hrel
            by_cases hkl : k < H2.length
            · have hkz : (k : Int) < (H2.length : Int) := by omega
              obtain ⟨gh, oh, e9, hgh, hch⟩ := (HSH.out.below hBk).2.2.2 (by omega)
              subst e9
              have hrk := hch k hkl
              have hls := ldO_succ b szB H2 k hkl
              have hld := HLD.out (H2.take k)
              have hszk := HSZ.out H2[k]
              have hlt9 : (H2.take k).length ≤ 5001 := by rw [List.length_take]; omega
              have hmul : ((H2.take k).length : Int) * 1200 ≤ 5001 * 1200 := Int.mul_le_mul_of_nonneg_right (by omega) (by omega)
              have gz := GZ.out H2[k] wr (bt hB9 hBk)
              obtain ⟨⟨x1, x2, x3⟩, hx⟩ : ∃ x, H2[k] = x := ⟨_, rfl⟩
              rw [hx] at hrk hls hszk gz
              have gz : Calls Tryz.prog 34 #[.slice ab b.length cb, .agg #[.int .i64 x1, .int .u64 x2, .int .i64 x3]] wr fun e w' => e = .returned (.int .u64 (szO b szB (x1, x2, x3))) ∧ Below wr.heap.size wr w' := gz
              obtain ⟨S, hS⟩ : ∃ S, szO b szB (x1, x2, x3) = S := ⟨_, rfl⟩
              rw [hS] at hls hszk gz
              obtain ⟨L, hL⟩ : ∃ L, ldO b szB (H2.take k) = L := ⟨_, rfl⟩
              rw [hL] at hls hld ⊢
              have y1 : IntKind.u64.wrap (L + S) = L + S := IntWalk.u64_in _ (by omega)
              have HLS := Lib.hid hls
              have GZ9 := Lib.hid gz
              have i1 : wr.cell? ⟨gh, oh + k * 3, none⟩ = some (.int .i64 x1) := hrk 0 _ rfl
              have i2 : wr.cell? ⟨gh, oh + k * 3 + 1, none⟩ = some (.int .u64 x2) := hrk 1 _ rfl
              have i3 : wr.cell? ⟨gh, oh + k * 3 + 2, none⟩ = some (.int .i64 x3) := hrk 2 _ rfl
              clear hch hrk hls hld hszk hlt9 hmul gz hx hS hL
              go_wp2_with (go_at_call 34; (with_reducible refine (GZ9.out).mono ?_); rintro e w5 ⟨rfl, h5⟩)
              go_roundw
              case rel => exact ⟨k + 1, by go_num, by omega, by rw [HLS.out], bt hBk h5⟩
              case measure => simp [intOf]; omega
            · have hkz : ¬ (k : Int) < (H2.length : Int) := by omega
              have hkl9 : k = H2.length := by omega
              have hLk : ldO b szB (H2.take k) = ldO b szB H2 := by rw [hkl9, List.take_length]
              obtain ⟨L, hL⟩ : ∃ L, ldO b szB H2 = L := ⟨_, rfl⟩
              have hsc := HSC.out
              rw [HGO.out] at hsc
              simp only [true_and] at hsc
              rw [hLk, hL] at *
              have HO8 := Lib.hid (And.intro (owns_belowS HO9.out.1 hBk) (owns_belowS HO9.out.2 hBk))
              have hB8 := bt hB9 hBk
              have k8 : wr.cell? ⟨g, off + i * 7, none⟩ = some (.int .i64 ti) := (hBk.cell (p := ⟨g, off + i * 7, none⟩) hg9).trans k9
              by_cases hne : L = la
              · have t9 : (L != la) = false := by simpa using hne
                rw [if_neg (fun h => h hne)] at hsc
                have HST := Lib.hid hsc
                clear hsc hL hLk hkl9 hne HGO HSC
                go_wp2
                go_roundw
                case rel => exact ⟨i + 1, by go_num, by omega, by rw [HST.out], Lib.hid (by rw [HST.out]; exact HO8.out), hB8⟩
                case measure => simp [intOf]; omega
              · have t9 : (L != la) = true := by simpa using hne
                rw [if_pos hne] at hsc
                have HST := Lib.hid hsc
                clear hsc hL hLk hkl9 hne HGO HSC
                go_wp2_with (at_builtin; refine wpList_append_struct (enc := lc) rfl _ _ 28 rfl w.heap.size 35 i0 (.agg #[.int .i64 0, .int .u64 0]) 2 16 Tryz.underlying28 Hi.out Hz0.out Hz1.out Hz2.out rfl (by decide) lc_len lc_one _ st rfl (HO8.out.1.alloc _) wr.heap.size 1 (ti, L) rfl (blk_alloc_new _ _ _ rfl) (by unfold maxLen; omega) (by omega) (by have := hB8.size; simp; omega) ?_; intro v' wb hown2 hgrow2; (have HO2 := Lib.hid (And.intro hown2 (owns_keep (HO8.out.2.alloc _) (HO8.out.1.alloc _) (by decide) hgrow2))); (have hB7 : Below w.heap.size w wb := (hB8.alloc hB8.size _).grown hgrow2 (by have := hB8.size; simp; omega) (fun k e => (HO8.out.1.lt k e).1)); clear hown2 hgrow2)
                go_roundw
                case rel => exact ⟨i + 1, by go_num, by omega, by rw [HST.out], Lib.hid (by rw [HST.out]; exact HO2.out), hB7⟩
                case measure => simp [intOf]; omega
      · have hnz : ¬ ((i + 1 : Nat) : Int) < (l.length : Int) := by omega
        have hgo : ((l[i + 1]?).elim true fun p => decide (p.ti ≠ ti)) = true := by
          rw [HNX.out, dif_neg hnl]; rfl
        have HGO := Lib.hid hgo
        obtain ⟨ip, hip⟩ : ∃ ip, i + 1 = ip := ⟨_, rfl⟩
        rw [hip] at hnz w1
        clear hgo
        go_upto_region 13 with fail
        refine wp_region_in (by kernel_rfl) (by kernel_rfl) ?_
        intro W0 hE hN
        have z0 := calm_cellQ (W0 := W0) (by rw [hE.out]; exact hg3) (by rw [hE.out]; exact k0)
        repeat (go_big_quiet_step (fail))
        refine wpQuiet_nil ?_
        rintro _ ⟨x', rfl⟩
        have bx : Below w3.heap.size w3 x'.wd := by rw [← hE.out]; exact x'.ok
        have hB9 := bt hB3 bx
        have HO9 := Lib.hid (And.intro (owns_belowS HO3.out.1 bx) (owns_belowS HO3.out.2 bx))
        have k9 : x'.wd.cell? ⟨g, off + i * 7, none⟩ = some (.int .i64 ti) := (bx.cell (p := ⟨g, off + i * 7, none⟩) hg3).trans k0
        have hg9 := Nat.lt_of_lt_of_le hg3 bx.size
        clear z0 hE hN bx HO3 k0 hg3 HR3
        obtain ⟨u, hu⟩ : ∃ u, u = x'.wd := ⟨_, rfl⟩
        rw [← hu] at hB9 HO9 k9 hg9 ⊢
        clear hu x'
        (try simp only [← hun])
        clear hun
        obtain ⟨ah, ch, rfl, hsH, _⟩ := srow_of_owns (enc := idL) (k := 3) idL_len HO9.out.2
        have HSH := Lib.hid hsH
        have hcH := hsH.1
        have hmH := hsH.2.1
        unfold maxLen at hmH
        clear hsH
        have B0 : Below u.heap.size u u := Below.refl _ _
        go_wp2
        go_loopw [14, 15] (fun s14 s15 wr => ∃ k : Nat, s15 = .int .i64 k ∧ k ≤ H2.length ∧ s14 = .int .u64 (ldO b szB (H2.take k)) ∧ Below u.heap.size u wr) (fun _ s15 _ => H2.length - (intOf s15).toNat)
        case atStart => exact ⟨0, rfl, Nat.zero_le _, rfl, B0⟩
        case round =>
          clear B0
          obtain ⟨k, rfl, hk, rfl, hBk⟩ := hrel
          by_cases hkl : k < H2.length
          · have hkz : (k : Int) < (H2.length : Int) := by omega
            obtain ⟨gh, oh, e9, hgh, hch⟩ := (HSH.out.below hBk).2.2.2 (by omega)
            subst e9
            have hrk := hch k hkl
            have hls := ldO_succ b szB H2 k hkl
            have hld := HLD.out (H2.take k)
            have hszk := HSZ.out H2[k]
            have hlt9 : (H2.take k).length ≤ 5001 := by rw [List.length_take]; omega
            have hmul : ((H2.take k).length : Int) * 1200 ≤ 5001 * 1200 := Int.mul_le_mul_of_nonneg_right (by omega) (by omega)
            have gz := GZ.out H2[k] wr (bt hB9 hBk)
            obtain ⟨⟨x1, x2, x3⟩, hx⟩ : ∃ x, H2[k] = x := ⟨_, rfl⟩
            rw [hx] at hrk hls hszk gz
            have gz : Calls Tryz.prog 34 #[.slice ab b.length cb, .agg #[.int .i64 x1, .int .u64 x2, .int .i64 x3]] wr fun e w' => e = .returned (.int .u64 (szO b szB (x1, x2, x3))) ∧ Below wr.heap.size wr w' := gz
            obtain ⟨S, hS⟩ : ∃ S, szO b szB (x1, x2, x3) = S := ⟨_, rfl⟩
            rw [hS] at hls hszk gz
            obtain ⟨L, hL⟩ : ∃ L, ldO b szB (H2.take k) = L := ⟨_, rfl⟩
            rw [hL] at hls hld ⊢
            have y1 : IntKind.u64.wrap (L + S) = L + S := IntWalk.u64_in _ (by omega)
            have HLS := Lib.hid hls
            have GZ9 := Lib.hid gz
            have i1 : wr.cell? ⟨gh, oh + k * 3, none⟩ = some (.int .i64 x1) := hrk 0 _ rfl
            have i2 : wr.cell? ⟨gh, oh + k * 3 + 1, none⟩ = some (.int .u64 x2) := hrk 1 _ rfl
            have i3 : wr.cell? ⟨gh, oh + k * 3 + 2, none⟩ = some (.int .i64 x3) := hrk 2 _ rfl
            clear hch hrk hls hld hszk hlt9 hmul gz hx hS hL
            go_wp2_with (go_at_call 34; (with_reducible refine (GZ9.out).mono ?_); rintro e w5 ⟨rfl, h5⟩)
            go_roundw
            case rel => exact ⟨k + 1, by go_num, by omega, by rw [HLS.out], bt hBk h5⟩
            case measure => simp [intOf]; omega
          · have hkz : ¬ (k : Int) < (H2.length : Int) := by omega
            have hkl9 : k = H2.length := by omega
            have hLk : ldO b szB (H2.take k) = ldO b szB H2 := by rw [hkl9, List.take_length]
            obtain ⟨L, hL⟩ : ∃ L, ldO b szB H2 = L := ⟨_, rfl⟩
            have hsc := HSC.out
            rw [HGO.out] at hsc
            simp only [true_and] at hsc
            rw [hLk, hL] at *
            have HO8 := Lib.hid (And.intro (owns_belowS HO9.out.1 hBk) (owns_belowS HO9.out.2 hBk))
            have hB8 := bt hB9 hBk
            have k8 : wr.cell? ⟨g, off + i * 7, none⟩ = some (.int .i64 ti) := (hBk.cell (p := ⟨g, off + i * 7, none⟩) hg9).trans k9
            by_cases hne : L = la
            · have t9 : (L != la) = false := by simpa using hne
              rw [if_neg (fun h => h hne)] at hsc
              have HST := Lib.hid hsc
              clear hsc hL hLk hkl9 hne HGO HSC
              go_wp2
              go_roundw
              case rel => exact ⟨i + 1, by go_num, by omega, by rw [HST.out], Lib.hid (by rw [HST.out]; exact HO8.out), hB8⟩
              case measure => simp [intOf]; omega
            · have t9 : (L != la) = true := by simpa using hne
              rw [if_pos hne] at hsc
              have HST := Lib.hid hsc
              clear hsc hL hLk hkl9 hne HGO HSC
              go_wp2_with (at_builtin; refine wpList_append_struct (enc := lc) rfl _ _ 28 rfl w.heap.size 35 i0 (.agg #[.int .i64 0, .int .u64 0]) 2 16 Tryz.underlying28 Hi.out Hz0.out Hz1.out Hz2.out rfl (by decide) lc_len lc_one _ st rfl (HO8.out.1.alloc _) wr.heap.size 1 (ti, L) rfl (blk_alloc_new _ _ _ rfl) (by unfold maxLen; omega) (by omega) (by have := hB8.size; simp; omega) ?_; intro v' wb hown2 hgrow2; (have HO2 := Lib.hid (And.intro hown2 (owns_keep (HO8.out.2.alloc _) (HO8.out.1.alloc _) (by decide) hgrow2))); (have hB7 : Below w.heap.size w wb := (hB8.alloc hB8.size _).grown hgrow2 (by have := hB8.size; simp; omega) (fun k e => (HO8.out.1.lt k e).1)); clear hown2 hgrow2)
              go_roundw
              case rel => exact ⟨i + 1, by go_num, by omega, by rw [HST.out], Lib.hid (by rw [HST.out]; exact HO2.out), hB7⟩
              case measure => simp [intOf]; omega
    · have hz : ¬ (i : Int) < (l.length : Int) := by omega
      have hil : i = l.length := by omega
      have ho := HO.out.1
      have hst : (stpS b szB node l i).2.2 = stepsO b szB node l := by rw [hil]; rfl
      rw [hst] at ho
      have HOO := Lib.hid ho
      clear ho HO hst hil
      go_wp2
      go_ret2
      exact ⟨_, rfl, HOO.out, hB⟩
end Go.Proofs.YthfmkkkdjgkaoaaGreatDoor
namespace Go.Proofs.YthfmkkkdjgkaoaaGreatDoor
open Go.RowKit
set_option maxRecDepth 100000 in
set_option maxHeartbeats 3200000 in
theorem rsteps43_any (ab al : Option Addr) (cb cl : Nat) (b : List Bn) (l : List Oc) (node : Int) (hd : ∀ x ∈ b, x.da.size ≤ maxLen ∧ 0 ≤ x.sq) (w : World) (hb : SRow bn 9 w ab cb b) (hl : SRow oc 7 w al cl l) :
    Calls Tryz.prog 10 #[.slice ab b.length cb, .slice al l.length cl, .int .i64 node] w (RetL (stpR b l node) (nodC b l node) w) := by
  have GC : Hid (∀ W, Below w.heap.size w W → Calls Tryz.prog 32 #[.slice ab b.length cb, .slice al l.length cl] W fun e w' => e = .returned (.tuple #[.int .i64 (runC b l).1, .int .i64 (runC b l).2]) ∧ Below W.heap.size W w') := Lib.hid fun W hB => rrcheck_any ab al cb cl b l (fun x hx => (hd x hx).1) W (hb.below hB) (hl.below hB)
  have hun : undef = Value.tuple #[] := rfl
  rcases nodC_cases b l node with ⟨h1, h2⟩ | ⟨h1, h2, h3⟩ | ⟨h1, h2, h3, h4⟩ | ⟨h1, h2, h3, h4⟩
  · have hs : stpR b l node = [] := by unfold stpR; rw [if_neg (by rw [h2]; exact h1)]
    rw [hs, h2]
    obtain ⟨r1, hr1⟩ : ∃ r, (runC b l).1 = r := ⟨_, rfl⟩
    obtain ⟨r2, hr2⟩ : ∃ r, (runC b l).2 = r := ⟨_, rfl⟩
    rw [hr1] at h1 ⊢
    rw [hr1, hr2] at GC
    have q0 : (r1 != 0) = true := by simpa using h1
    clear hr1 hr2 h1 h2 hs hb hl hd
    go_enter Tryz.func10, Tryz.ntmps10
    go_wp2_with (go_at_call 32; (with_reducible refine (GC.out _ (Below.refl _ _)).mono ?_); rintro e w1 ⟨rfl, h1⟩)
    go_ret2
    exact RetL.err r1 h1
  · have hs : stpR b l node = [] := by unfold stpR; rw [if_neg (by rw [h3]; decide)]
    rw [hs, h3]
    rw [h1] at GC
    obtain ⟨r2, hr2⟩ : ∃ r, (runC b l).2 = r := ⟨_, rfl⟩
    rw [hr2] at GC
    have q0 : ((0 : Int) != 0) = false := rfl
    have q1 : decide (node < 1) = true := decide_eq_true h2
    clear hr2 h1 h2 h3 hs hb hl hd
    go_enter Tryz.func10, Tryz.ntmps10
    go_wp2_with (go_at_call 32; (with_reducible refine (GC.out _ (Below.refl _ _)).mono ?_); rintro e w1 ⟨rfl, h1⟩)
    go_ret2
    exact RetL.err 2 h1
  · have hs : stpR b l node = [] := by unfold stpR; rw [if_neg (by rw [h4]; decide)]
    rw [hs, h4]
    rw [h1] at GC
    obtain ⟨r2, hr2⟩ : ∃ r, (runC b l).2 = r := ⟨_, rfl⟩
    rw [hr2] at GC
    have q0 : ((0 : Int) != 0) = false := rfl
    have q1 : decide (node < 1) = false := decide_eq_false h2
    have q2 : decide (16 < node) = true := decide_eq_true h3
    clear hr2 h1 h2 h3 h4 hs hb hl hd
    go_enter Tryz.func10, Tryz.ntmps10
    go_wp2_with (go_at_call 32; (with_reducible refine (GC.out _ (Below.refl _ _)).mono ?_); rintro e w1 ⟨rfl, h1⟩)
    go_ret2
    exact RetL.err 2 h1
  · have hs : stpR b l node = stepsO b szB node l := by unfold stpR; rw [if_pos h4]
    rw [hs, h4]
    exact rsteps43_ok ab al cb cl b l node (runC_zero h1) h2 h3 hd w hb hl
set_option maxRecDepth 100000 in
set_option maxHeartbeats 3200000 in
theorem rpeak43_any (ab al : Option Addr) (cb cl : Nat) (b : List Bn) (l : List Oc) (node : Int) (hd : ∀ x ∈ b, x.da.size ≤ maxLen ∧ 0 ≤ x.sq) (w : World) (hb : SRow bn 9 w ab cb b) (hl : SRow oc 7 w al cl l) :
    Calls Tryz.prog 13 #[.slice ab b.length cb, .slice al l.length cl, .int .i64 node] w fun e w' => e = .returned (.tuple #[.agg #[.int .i64 (pkR b l node).1, .int .u64 (pkR b l node).2], .int .i64 (nodC b l node)]) ∧ Below w.heap.size w w' := by
  have g1 : ∀ W, Below w.heap.size w W → Calls Tryz.prog 10 #[.slice ab b.length cb, .slice al l.length cl, .int .i64 node] W (RetL (stpR b l node) (nodC b l node) W) := fun W hB => rsteps43_any ab al cb cl b l node hd W (hb.below hB) (hl.below hB)
  have G1 := Lib.hid g1
  unfold pkR
  obtain ⟨s, hS⟩ : ∃ S, stpR b l node = S := ⟨_, rfl⟩
  obtain ⟨c, hp⟩ : ∃ p, nodC b l node = p := ⟨_, rfl⟩
  rw [hS, hp] at G1 ⊢
  clear g1 hS hp hb hl hd
  go_enter Tryz.func13, Tryz.ntmps13
  have kz0 : blk (w.alloc (.cells #[.int .i64 0, .int .u64 0] 35)) w.heap.size = some #[.int .i64 0, .int .u64 0] := blk_alloc_new _ _ _ rfl
  have bal : Below w.heap.size w (w.alloc (.cells #[.int .i64 0, .int .u64 0] 35)) := (Below.refl _ _).alloc (Nat.le_refl _) _
  go_upto_region 2 with (go_at_call 10; (with_reducible refine (G1.out _ bal).mono ?_); rintro e w1 ⟨v1, rfl, ho1, h1⟩; (obtain ⟨a1, c1, rfl, hs1, _⟩ := srow_of_owns lc_len ho1))
  have B1 := bta h1
  have KZ := Lib.hid (blk_below h1 kz0)
  obtain ⟨u, hu⟩ : ∃ u, u = w1.alloc (.cells #[.int .i64 0, .int .u64 0] 35) := ⟨_, rfl⟩
  have HR := Lib.hid hs1
  have hcap := hs1.1; have hmax := hs1.2.1
  unfold maxLen at hmax
  have B0 : Below w1.heap.size w1 (w1.alloc (.cells #[.int .i64 0, .int .u64 0] 35)) := (Below.refl _ _).alloc (Nat.le_refl _) _
  have kp0 : blk (w1.alloc (.cells #[.int .i64 0, .int .u64 0] 35)) w1.heap.size = some #[.int .i64 (pkT s 0).1, .int .u64 (pkT s 0).2] := blk_alloc_new _ _ _ rfl
  have KP0 := Lib.hid kp0
  clear ho1 h1 kz0 bal hu hs1 G1 kp0
  go_wp2
  go_loopw [11] (fun s11 wr => ∃ j : Nat, s11 = .int .i64 j ∧ j ≤ s.length ∧ Below w1.heap.size w1 wr ∧ Hid (blk wr w1.heap.size = some #[.int .i64 (pkT s j).1, .int .u64 (pkT s j).2])) (fun s11 _ => s.length - (intOf s11).toNat)
  case atStart => exact ⟨0, rfl, Nat.zero_le _, B0, KP0⟩
  case round =>
    clear B0 KP0
    obtain ⟨j, rfl, hj, hB, HM⟩ := hrel
    by_cases hlt : j < s.length
    · have hltz : (j : Int) < (s.length : Int) := by omega
      obtain ⟨g, off, hab, hgl, hcs⟩ := (HR.out.below hB).2.2.2 (by omega)
      subst hab
      have hst := pkT_succ hlt
      obtain ⟨⟨xt, xb⟩, hx⟩ : ∃ x, x = s[j] := ⟨_, rfl⟩
      have hr := hcs j hlt
      rw [← hx] at hr hst
      have k0 : wr.cell? ⟨g, off + j * 2, none⟩ = some (.int .i64 xt) := hr 0 _ rfl
      have k1 : wr.cell? ⟨g, off + j * 2 + 1, none⟩ = some (.int .u64 xb) := hr 1 _ rfl
      obtain ⟨⟨mt, mb⟩, hm⟩ : ∃ m, pkT s j = m := ⟨_, rfl⟩
      rw [hm] at hst HM
      have HST := Lib.hid hst
      have hdl := blk_lt HM.out
      have kp : wr.cell? ⟨w1.heap.size, 1, none⟩ = some (.int .u64 mb) := blk_cell HM.out 1
      obtain ⟨q, hq⟩ : ∃ q, decide (mb < xb) = q := ⟨_, rfl⟩
      have HQ := Lib.hid hq
      clear hst hm hx hcs hr
      go_upto_region 6 with fail
      refine wp_region_in (by kernel_rfl) (by kernel_rfl) ?_
      intro W0 hE hN
      have z0 := calm_cellQ (W0 := W0) (by rw [hE.out]; exact hgl) (by rw [hE.out]; exact k0)
      have z1 := calm_cellQ (W0 := W0) (by rw [hE.out]; exact hgl) (by rw [hE.out]; exact k1)
      have z2 := calm_cellQ (W0 := W0) (by rw [hE.out]; exact hdl) (by rw [hE.out]; exact kp)
      clear k0 k1 kp
      repeat (go_big_quiet_step (fail))
      refine wpQuiet_nil ?_
      rintro _ ⟨x', rfl⟩
      have bx : Below wr.heap.size wr x'.wd := by rw [← hE.out]; exact x'.ok
      have hB9 := bt hB bx
      have km := blk_below bx HM.out
      have i0 := z0 x'
      have i1 := z1 x'
      clear z0 z1 z2 hE hN bx HM hq
      obtain ⟨u9, hu⟩ : ∃ u, u = x'.wd := ⟨_, rfl⟩
      rw [← hu] at hB9 km i0 i1 ⊢
      clear hu x'
      have nm := kn km
      have hpl : w1.heap.size ≤ w1.heap.size := Nat.le_refl _
      cases q
      · have HE : Hid (pkT s (j + 1) = (mt, mb)) := Lib.hid (by rw [HST.out]; unfold pkF; rw [if_neg (of_decide_eq_false HQ.out)])
        clear i0 i1
        go_wp2
        go_roundw
        case rel => exact ⟨j + 1, by go_num, by omega, hB9, Lib.hid (by rw [HE.out]; exact km)⟩
        case measure => simp [intOf]; omega
      · have HE : Hid (pkT s (j + 1) = (xt, xb)) := Lib.hid (by rw [HST.out]; unfold pkF; rw [if_pos (of_decide_eq_true HQ.out)])
        have HN9 : Hid (blk ((u9.setCell ⟨w1.heap.size, 0, none⟩ (.int .i64 xt)).setCell ⟨w1.heap.size, 1, none⟩ (.int .u64 xb)) w1.heap.size = some #[.int .i64 xt, .int .u64 xb] ∧ Below w1.heap.size w1 ((u9.setCell ⟨w1.heap.size, 0, none⟩ (.int .i64 xt)).setCell ⟨w1.heap.size, 1, none⟩ (.int .u64 xb))) := Lib.hid ⟨blk_set (blk_set km), (hB9.setCell hpl _).setCell hpl _⟩
        clear hB9
        go_wp2
        go_roundw
        case rel => exact ⟨j + 1, by go_num, by omega, HN9.out.2, Lib.hid (by rw [HE.out]; exact HN9.out.1)⟩
        case measure => simp [intOf]; omega
    · have hz : ¬ (j : Int) < (s.length : Int) := by omega
      have hjs : j = s.length := by omega
      have hM := HM.out
      rw [hjs, pkT_all] at hM
      obtain ⟨⟨mt, mb⟩, hm⟩ : ∃ m, pkO s = m := ⟨_, rfl⟩
      rw [hm] at hM
      have HMM := Lib.hid hm
      have kz := blk_below hB KZ.out
      have nz := kn kz
      have nm := kn hM
      have hBw := bt B1 hB
      clear HM hm hjs
      go_wp2
      refine ret_blk (b := w.heap.size) (c := #[.int .i64 mt, .int .u64 mb]) (v := .tuple #[.agg #[.int .i64 mt, .int .u64 mb], .int .i64 c]) (by (apply blk_to; (focus (repeat (first | (with_reducible assumption) | (with_reducible apply blk_drew) | (with_reducible apply blk_set) | ((with_reducible apply blk_other'); (first | (focus (dsimp only; assumption)) | (focus (simp; done)) | (focus (dsimp only; omega)))) | ((with_reducible apply blk_alloc_new); (first | (with_reducible rfl) | (focus (simp; done)) | (focus (simp; omega)))) | (with_reducible apply blk_alloc) | ((with_reducible apply blk_below); (with_reducible assumption))))); rfl)) (fun W' hc => by simp [results, Tryz.results13, go_sem, hc]) rfl ⟨by rw [HMM.out], ?_⟩
      exact (hBw.setCell (Nat.le_refl _) _).setCell (Nat.le_refl _) _
set_option maxRecDepth 100000 in
set_option maxHeartbeats 1600000 in
theorem rdiv_any (x y : Nat) (hx : x ≤ 1000000000000000) (hy : y ≤ 1000000000000000) (w : World) :
    Calls Tryz.prog 38 #[.int .u64 (x : Int), .int .u64 (y : Int)] w fun e w' => e = .returned (.int .u64 (Nat.gcd x y : Nat)) ∧ Below w.heap.size w w' := by
  go_enter Tryz.func38, Tryz.ntmps38
  go_wp2
  go_loopw [0, 1] (fun s0 s1 wr => ∃ a c : Nat, s0 = .int .u64 (a : Int) ∧ s1 = .int .u64 (c : Int) ∧ a ≤ 1000000000000000 ∧ c ≤ 1000000000000000 ∧ Hid (Nat.gcd a c = Nat.gcd x y) ∧ Below w.heap.size w wr) (fun _ s1 _ => (intOf s1).toNat)
  case atStart => exact ⟨x, y, rfl, rfl, hx, hy, Lib.hid rfl, Below.refl _ _⟩
  case round =>
    obtain ⟨a, c, rfl, rfl, ha, hc, HG, hB⟩ := hrel
    by_cases h0 : 0 < c
    · have hz : (0 : Int) < (c : Int) := by omega
      have z0 : ((c : Int) == 0) = false := by simp; omega
      have e1 : ((a : Int)).tmod (c : Int) = ((a % c : Nat) : Int) := by rw [Int.tmod_eq_emod_of_nonneg (by omega)]; simp
      have hm := Nat.mod_lt a h0
      have hgs : Nat.gcd c (a % c) = Nat.gcd x y := by rw [gcd_step]; exact HG.out
      obtain ⟨m, hmm⟩ : ∃ m, a % c = m := ⟨_, rfl⟩
      rw [hmm] at e1 hm hgs
      have w1 : IntKind.u64.wrap (m : Int) = (m : Int) := IntWalk.u64_in _ (by omega)
      have HG2 := Lib.hid hgs
      clear hmm hgs HG
      go_upto_region 2 with fail
      refine wp_region_in (by kernel_rfl) (by kernel_rfl) ?_
      intro W0 hE hN
      repeat (go_big_quiet_step (fail))
      refine wpQuiet_nil ?_
      rintro _ ⟨x', rfl⟩
      have hB9 : Below w.heap.size w x'.wd := bt hB (by rw [← hE.out]; exact x'.ok)
      clear hE hN
      obtain ⟨u9, hu⟩ : ∃ u, u = x'.wd := ⟨_, rfl⟩
      rw [← hu] at hB9 ⊢
      clear hu x'
      go_wp2
      go_roundw
      case rel => exact ⟨c, m, rfl, rfl, hc, by omega, HG2, hB9⟩
      case measure => simp [intOf]; omega
    · have hz : ¬ (0 : Int) < (c : Int) := by omega
      have hc0 : c = 0 := by omega
      have hg : a = Nat.gcd x y := by have h := HG.out; rw [hc0, Nat.gcd_zero_right] at h; exact h
      have HG2 := Lib.hid hg
      clear hc0 hg HG
      go_wp2
      go_ret
      exact ⟨ret_int (by rw [← HG2.out]), hB⟩
end Go.Proofs.YthfmkkkdjgkaoaaGreatDoor
