/- Parts of a proof, printed by a program of mine out of my texts: RpStw. -/
import Derived.Deep.CutRange
import Derived.Test.YthfmkkkdjgkaoaaGreatDoorMA
import Derived.Test.YthfmkkkdjgkaoaaGreatDoorMR
set_option linter.unusedSimpArgs false
set_option linter.unusedVariables false
namespace Go.Proofs.YthfmkkkdjgkaoaaGreatDoor
open Go.RowKit
theorem infoLd : (Tryz.prog.info? 35).map (fun i => (i.zero, i.size, i.bytes)) = some (some (.agg #[.int .i64 0, .int .u64 0]), 2, 16) := by kernel_rfl
theorem stp_put {w1 : World} {B m : Nat} {vr : Array Value} {b : List Bn} {H : List Id3} {v : Value} {O : List (Int × Int)} (hs : StI w1 B m vr b H v O) (hBm : B + 2 < m) (x : Oc) (H' : List Id3) (nv : Bool) (hH : ∀ y, y ≠ oid x → (y ∈ H' ↔ y ∈ H)) (hn : decide (oid x ∈ H') = nv) :
    ∃ w5, Sem.run Tryz.prog (Instr.mapUpdate 107 (.map (some m)) (.agg #[.int .i64 x.ino, .int .u64 x.isq, .int .i64 x.iof]) (.bool nv)) w1 = .ok () w5 ∧ w1.grownBy w5 (some m) ∧ StI w5 B m vr b H' v O ∧
      Sem.run Tryz.prog (Instr.lookup 105 (.map (some (B + 1))) (.agg #[.int .i64 x.ino, .int .u64 x.isq, .int .i64 x.iof]) false) w5 = .ok (.int .u64 (szO b szB (oid x))) w5 := by
  obtain ⟨l1, hl1, hp1⟩ := hs.held.put
  obtain ⟨w5, r1, hm1, hg1⟩ := run_putId (e := 4) Tryz.underlying107 hl1 (oid x) (.bool nv)
  have h5 : StI w5 B m vr b H' v O := hs.put hg1 hBm (hp1 w5 H' (oid x) hH (by rw [hn]; exact hm1))
  obtain ⟨l2, hl2, hg2⟩ := h5.sizes.look (z := .int .u64 0) (fun k hk => fS_none hk)
  exact ⟨w5, r1, hg1, h5, (run_lookId (e := 33) (z := .int .u64 0) Tryz.underlying105 (by kernel_rfl) hl2 (oid x)).trans (by rw [hg2]; rfl)⟩
set_option maxRecDepth 100000 in
set_option maxHeartbeats 6400000 in
theorem psteps_any (ab al : Option Addr) (cb cl : Nat) (b : List Bn) (l : List Oc) (node : Int) (hv : RunV b l) (hd : ∀ x ∈ b, x.da.size ≤ maxLen ∧ 0 ≤ x.sq) (w : World) (hH : HTab w) (hb : SRow bn 9 w ab cb b) (hl : SRow oc 7 w al cl l) :
    Calls Tryz.prog 31 #[.agg #[.slice ab b.length cb, .slice al l.length cl], .int .i64 node] w (OwnR lc 2 35 (stepsO b szB node l) w) := by
  have gs : ∀ x ∈ b, ∀ W, Below w.heap.size w W → Calls Tryz.prog 56 #[.agg #[.int .i64 x.no, .int .u64 x.sq, .int .i64 x.of, .int .i64 x.de, .int .i64 x.pr, .int .i64 x.bo, .int .i64 x.li, .int .i64 x.to, .string x.da]] W fun e w' => (∃ c, e = .returned (.tuple #[.int .i64 (szB x), .int .i64 c])) ∧ Below W.heap.size W w' := fun x hx W hB => (sizeB_any x.no x.sq x.of x.de x.pr x.bo x.li x.to x.da (hd x hx).1 (hd x hx).2 W (hH.on hB)).mono fun e w' h => ⟨⟨_, h.1⟩, h.2⟩
  have hbl := hv.len
  have hll := hv.tlen
  have HV := Lib.hid hv; have GS := Lib.hid gs
  have HR := Lib.hid hb; have HL := Lib.hid hl
  have hcap := hb.1; have hmax := hb.2.1
  have hcapl := hl.1; have hmaxl := hl.2.1
  unfold maxLen at hmax hmaxl
  obtain ⟨i0, hi, hz0, hz1, hz2⟩ := info_parts infoLd
  have Hi := Lib.hid hi; have Hz0 := Lib.hid hz0; have Hz1 := Lib.hid hz1; have Hz2 := Lib.hid hz2
  clear hi hz0 hz1 hz2 gs hb hl hH hd hv
  go_enter Tryz.func31, Tryz.ntmps31
  have hmm := @run_makeMap Tryz.prog
  go_wp2
  obtain ⟨vr, hvr⟩ : ∃ v, v = (#[.slice ab b.length cb, .slice al l.length cl] : Array Value) := ⟨_, rfl⟩
  have hv1 : vr[1]? = some (.slice al l.length cl) := by rw [hvr]; rfl
  obtain ⟨u0, hu0⟩ : ∃ u, u = ((w.alloc (.cells #[.slice ab b.length cb, .slice al l.length cl] 70)).alloc (.map #[] 0)).alloc (.map #[] 0) := ⟨_, rfl⟩
  have k0 : Hid (blk u0 w.heap.size = some vr ∧ BMap u0 (w.heap.size + 1) (b.take 0) (fS b) ∧ BMap u0 (w.heap.size + 2) (b.take 0) (fD b)) := Lib.hid (by
    rw [hu0, hvr]
    refine ⟨blk_alloc (blk_alloc (blk_alloc_new _ _ _ rfl) _) _, bmap_nil _ ?_, bmap_nil _ ?_⟩
    · have := (mapAt_made (w.alloc (.cells #[.slice ab b.length cb, .slice al l.length cl] 70))).alloc (.map #[] 0)
      simpa using this
    · have := mapAt_made ((w.alloc (.cells #[.slice ab b.length cb, .slice al l.length cl] 70)).alloc (.map #[] 0))
      simpa using this)
  have b0 : Below w.heap.size w u0 := by rw [hu0]; exact (((Below.refl _ _).alloc (Nat.le_refl _) _).alloc (by simp) _).alloc (by simp; omega) _
  rw [← hu0]
  clear hu0 hvr
  go_loopw [24] (fun i wr => ∃ j : Nat, i = .int .i64 j ∧ j ≤ b.length ∧ Below w.heap.size w wr ∧ Hid (blk wr w.heap.size = some vr ∧ BMap wr (w.heap.size + 1) (b.take j) (fS b) ∧ BMap wr (w.heap.size + 2) (b.take j) (fD b))) (fun i _ => b.length - (intOf i).toNat)
  case atStart => exact ⟨0, rfl, Nat.zero_le _, b0, k0⟩
  case round =>
    clear b0 k0
    obtain ⟨j, rfl, hj, hB, HM⟩ := hrel
    by_cases hlt : j < b.length
    · have hltz : (j : Int) < (b.length : Int) := by omega
      obtain ⟨g, off, hab, hgl, hcs⟩ := (HR.out.below (hB)).2.2.2 (by omega)
      subst hab
      obtain ⟨x, hx⟩ : ∃ x, x = b[j] := ⟨_, rfl⟩
      have hr := hcs j hlt
      rw [← hx] at hr
      have HX := Lib.hid hx
      clear hx hcs hmm
      go_upto_region 4 with fail
      refine wp_region_elem0 54 (.tmp 26) g (off + j * 9) (bn x) #[.int .i64 0, .int .u64 0, .int .i64 0, .int .i64 0, .int .i64 0, .int .i64 0, .int .i64 0, .int .i64 0, .string ⟨#[]⟩] hr rfl (by go_simp) rfl rfl rfl _ Tryz.underlying54 rfl (by kernel_rfl) rfl (by kernel_rfl) rfl _ _ rfl rfl rfl rfl (bn_one x) ?_
      intro c0 w1 hc0 kb hB1
      conv => arg 4; simp [Act.put]
      have hB2 : Below w.heap.size w w1 := bt hB hB1
      have kb : blk w1 c0 = some #[.int .i64 x.no, .int .u64 x.sq, .int .i64 x.of, .int .i64 x.de, .int .i64 x.pr, .int .i64 x.bo, .int .i64 x.li, .int .i64 x.to, .string x.da] := kb
      have HM2 : Hid (blk w1 w.heap.size = some vr ∧ BMap w1 (w.heap.size + 1) (b.take j) (fS b) ∧ BMap w1 (w.heap.size + 2) (b.take j) (fD b)) := Lib.hid ⟨blk_below hB1 HM.out.1, HM.out.2.1.below hB1, HM.out.2.2.below hB1⟩
      have hxm : x ∈ b := by rw [HX.out]; exact List.getElem_mem _
      have gs := GS.out x hxm
      have hsz := szB_bd (HV.out.mem x hxm)
      have hS := fS_at HV.out.ids hxm
      have hD := fD_at HV.out.ids hxm
      obtain ⟨z, hz⟩ : ∃ z, szB x = z := ⟨_, rfl⟩
      simp only [hz] at gs hS hsz
      have GSX := Lib.hid gs; have HS := Lib.hid hS; have HD := Lib.hid hD
      have m1 : IntKind.u64.wrap z = z := IntWalk.u64_in _ (by omega)
      have hcc : w.heap.size + 2 < c0 := by rw [hc0]; exact HM.out.2.2.lt
      have nk := kn kb
      clear hz gs hS hD hxm hr hc0 hB1 hgl HM hB
      go_upto_region 6 with (go_at_call 56; (with_reducible refine (GSX.out _ (hB2)).mono ?_); rintro e w2 ⟨⟨cz, rfl⟩, h2⟩; (have kb2 := blk_below h2 kb); (have hB3 := bt hB2 h2); (have HM3 : Hid (blk w2 w.heap.size = some vr ∧ BMap w2 (w.heap.size + 1) (b.take j) (fS b) ∧ BMap w2 (w.heap.size + 2) (b.take j) (fD b)) := Lib.hid ⟨blk_below h2 HM2.out.1, HM2.out.2.1.below h2, HM2.out.2.2.below h2⟩); clear h2 nk)
      clear kb HM2 hB2
      obtain ⟨l1, hl1, hp1⟩ := HM3.out.2.1.put
      obtain ⟨l2, hl2, hp2⟩ := HM3.out.2.2.put
      obtain ⟨w3, r1, hm1, hg1⟩ := run_putId (e := 33) Tryz.underlying105 (hl1.kept (w' := w2.drew) rfl) (bid x) (.int .u64 z)
      obtain ⟨w4, r2, hm2, hg2⟩ := run_putId (e := 3) Tryz.underlying106 (w := w3) (hl2.kept (hg1.block _ hl2.lt (by simp))) (bid x) (.int .i64 x.de)
      have r1 : Sem.run Tryz.prog (Instr.mapUpdate 105 (.map (some (w.heap.size + 1))) (.agg #[.int .i64 x.no, .int .u64 x.sq, .int .i64 x.of]) (.int .u64 z)) w2.drew = .ok () w3 := r1
      have r2 : Sem.run Tryz.prog (Instr.mapUpdate 106 (.map (some (w.heap.size + 2))) (.agg #[.int .i64 x.no, .int .u64 x.sq, .int .i64 x.of]) (.int .i64 x.de)) w3 = .ok () w4 := r2
      have kb3 : blk w3 c0 = some #[.int .i64 x.no, .int .u64 x.sq, .int .i64 x.of, .int .i64 x.de, .int .i64 x.pr, .int .i64 x.bo, .int .i64 x.li, .int .i64 x.to, .string x.da] := (blk_kept (hg1.block c0 (blk_lt kb2) (by simp; omega))).trans (blk_drew kb2)
      have kb4 : blk w4 c0 = some #[.int .i64 x.no, .int .u64 x.sq, .int .i64 x.of, .int .i64 x.de, .int .i64 x.pr, .int .i64 x.bo, .int .i64 x.li, .int .i64 x.to, .string x.da] := (blk_kept (hg2.block c0 (blk_lt kb3) (by simp; omega))).trans kb3
      have hB5 : Below w.heap.size w w4 := (hB3.drew.grown hg1 hB3.size (fun k e => by cases e; omega)).grown hg2 (Nat.le_trans hB3.size hg1.size) (fun k e => by cases e; omega)
      have HN : Hid (blk w4 w.heap.size = some vr ∧ BMap w4 (w.heap.size + 1) (b.take (j + 1)) (fS b) ∧ BMap w4 (w.heap.size + 2) (b.take (j + 1)) (fD b)) := Lib.hid (by
        rw [List.take_succ_eq_append_getElem hlt, ← HX.out]
        have q1 : blk w3 w.heap.size = some vr := (blk_kept (hg1.block _ (blk_lt HM3.out.1) (by simp))).trans (blk_drew HM3.out.1)
        refine ⟨(blk_kept (hg2.block _ (blk_lt q1) (by simp))).trans q1, ?_, hp2 w4 x (by rw [HD.out]; exact hm2)⟩
        have q2 := hp1 w3 x (by rw [HS.out]; exact hm1)
        exact q2.kept (hg2.block _ q2.lt (by simp)))
      have n2 := kn kb2
      have n3 := kn kb3
      have n4 := kn kb4
      clear hp1 hp2 hm1 hm2 hg1 hg2 hl1 hl2 HS HD HM3 GSX hcc
      go_region_held3 (fun W => ∀ o, W.cell? ⟨c0, o, none⟩ = (#[.int .i64 x.no, .int .u64 x.sq, .int .i64 x.of, .int .i64 x.de, .int .i64 x.pr, .int .i64 x.bo, .int .i64 x.li, .int .i64 x.to, .string x.da] : Array Value)[o]?) (exact fun o => blk_cell (by (apply blk_to; (focus (repeat (first | (with_reducible assumption) | (with_reducible apply blk_drew) | (with_reducible apply blk_set) | ((with_reducible apply blk_other'); (first | (focus (dsimp only; assumption)) | (focus (simp; done)) | (focus (dsimp only; omega)))) | ((with_reducible apply blk_alloc_new); (first | (with_reducible rfl) | (focus (simp; done)) | (focus (simp; omega)))) | (with_reducible apply blk_alloc) | ((with_reducible apply blk_below); (with_reducible assumption))))); rfl)) o) (fail)
      clear r1 r2 n2 n3 n4 kb kb2 kb3 kb4 hB3 m1
      go_wp2
      go_roundw
      case rel => exact ⟨j + 1, by go_num, by omega, hB5, HN⟩
      case measure => simp [intOf]; omega
    · obtain rfl : j = b.length := by omega
      have hM := HM.out
      rw [List.take_length] at hM
      obtain ⟨m, hm0⟩ : ∃ m, m = wr.heap.size := ⟨_, rfl⟩
      have hBm : w.heap.size + 2 < m := by rw [hm0]; exact hM.2.2.lt
      have HE : StI (wr.alloc (.map #[] 0)) w.heap.size m vr b (stpS b szB node l 0).1 (.slice none 0 0) (stpS b szB node l 0).2.2 :=
        ⟨blk_alloc hM.1 _, hM.2.1.kept (Below.heap_alloc _ _ _ hM.2.1.lt), hM.2.2.kept (Below.heap_alloc _ _ _ hM.2.2.lt), hmap_nil (by rw [hm0]; exact mapAt_made wr), by
          have := World.ownsRow_nil (wr.alloc (.map #[] 0)) (m + 1) 35 2
          simpa [rowC, stpS] using this⟩
      have HSI := Lib.hid HE
      have hBa : Below w.heap.size w (wr.alloc (.map #[] 0)) := hB.alloc hB.size _
      have krx := blk_cell hM.1
      have kr1 : wr.cell? ⟨w.heap.size, 1, none⟩ = some (.slice al l.length cl) := (krx 1).trans hv1
      have kr2 : (wr.alloc (.map #[] 0)).cell? ⟨w.heap.size, 1, none⟩ = some (.slice al l.length cl) := (blk_cell HE.run 1).trans hv1
      obtain ⟨u0, hu0⟩ : ∃ u, u = wr.alloc (.map #[] 0) := ⟨_, rfl⟩
      rw [← hu0] at HSI hBa
      clear HE HM hM krx GS HR
      go_wp2
      rw [← hu0, ← hm0]
      clear hu0 hm0 kr1 kr2 hB hmm
      go_loopw [12, 13, 14, 48] (fun s12 s13 s14 s48 wr => ∃ j : Nat, s48 = .int .i64 j ∧ j ≤ l.length ∧ Below w.heap.size w wr ∧ Hid (s13 = .int .u64 (ldO b szB (stpS b szB node l j).1) ∧ s14 = .int .u64 (stpS b szB node l j).2.1 ∧ StI wr w.heap.size m vr b (stpS b szB node l j).1 s12 (stpS b szB node l j).2.2)) (fun _ _ _ s48 _ => l.length - (intOf s48).toNat)
      case atStart => exact ⟨0, rfl, Nat.zero_le _, hBa, Lib.hid ⟨rfl, rfl, HSI.out⟩⟩
      case round =>
        clear hBa HSI
        obtain ⟨j, rfl, hj, hB, HO⟩ := hrel
        by_cases hlt : j < l.length
        · have hltz : (j : Int) < (l.length : Int) := by omega
          obtain ⟨g, off, hab, hgl, hcs⟩ := (HL.out.below hB).2.2.2 (by omega)
          subst hab
          obtain ⟨x, hx⟩ : ∃ x, x = l[j] := ⟨_, rfl⟩
          have hr := hcs j hlt
          rw [← hx] at hr
          have HX := Lib.hid hx
          have HCS := Lib.hid hcs
          have hst := stpS_succ (b := b) (sz := szB) (node := node) hlt
          rw [← hx] at hst
          have hhl := held_len (b := b) (sz := szB) (node := node) (l := l) j hj
          have hsl := stps_len (b := b) (sz := szB) (node := node) (l := l) j hj
          have hnd : (stpS b szB node l j).1.Nodup := by rw [stpS_held b szB node l j hj]; exact heldO_nodup _ _ _
          obtain ⟨H, hH⟩ : ∃ H, (stpS b szB node l j).1 = H := ⟨_, rfl⟩
          obtain ⟨bf, hbf⟩ : ∃ H, (stpS b szB node l j).2.1 = H := ⟨_, rfl⟩
          obtain ⟨O, hO⟩ : ∃ H, (stpS b szB node l j).2.2 = H := ⟨_, rfl⟩
          rw [hH, hbf, hO] at hst HO
          rw [hH] at hhl hnd
          rw [hO] at hsl
          obtain ⟨e13, e14, hsi⟩ := HO.out
          subst e13 e14
          have HST := Lib.hid hst
          have HND := Lib.hid hnd
          have HSI := Lib.hid hsi
          clear hx hcs hst hnd hsi hH hbf hO HO
          go_upto_region 13 with fail
          refine wp_region_elem 56 (.tmp 51) (.tmp 50) (.int .i64 j) (.int .i64 j) g (off + j * 7) (oc x) #[.int .i64 0, .int .i64 0, .int .i64 0, .int .i64 0, .int .u64 0, .int .i64 0, .int .i64 0] hr rfl rfl rfl (by go_simp) rfl rfl rfl _ Tryz.underlying56 rfl (by kernel_rfl) rfl (by kernel_rfl) rfl rfl rfl rfl _ _ rfl rfl rfl rfl (oc_one x) ?_
          intro c0 w1 hc0 kb hB1
          conv => arg 4; simp [Act.put]
          have hB2 : Below w.heap.size w w1 := bt hB hB1
          have kb : blk w1 c0 = some #[.int .i64 x.ti, .int .i64 x.no, .int .i64 x.ki, .int .i64 x.ino, .int .u64 x.isq, .int .i64 x.iof, .int .i64 x.ot] := kb
          have HS1 := Lib.hid (HSI.out.below hB1)
          have hmc : m < c0 := by rw [hc0]; exact HSI.out.held.lt
          have gl2 : g < w1.heap.size := Nat.lt_of_lt_of_le hgl hB1.size
          have KB := Lib.hid kb
          have nk := kn kb
          obtain ⟨ld, hld⟩ : ∃ ld, ldO b szB H = ld := ⟨_, rfl⟩
          have hlb := ld_le b szB (fun y hy => szB_bd (HV.out.mem y hy)) H
          rw [hld] at hlb ⊢
          have HLD := Lib.hid hld
          clear hr hc0 hB1 hB hgl HSI hld kb
          go_upto_if 56 with fail
          go_cut [13] from 53 to 106 (fun s13 wq => Below w.heap.size w wq ∧ g < wq.heap.size ∧ Hid (s13 = .int .u64 (ldO b szB (hldO b node H x)) ∧ blk wq c0 = some #[.int .i64 x.ti, .int .i64 x.no, .int .i64 x.ki, .int .i64 x.ino, .int .u64 x.isq, .int .i64 x.iof, .int .i64 x.ot] ∧ StI wq w.heap.size m vr b (hldO b node H x) u12 O))
          case first =>
            by_cases hno : x.no = node
            · have t1 : (x.no == node) = true := by simp [hno]
              obtain ⟨lm, hlm, hgm⟩ := HS1.out.held.look
              obtain ⟨ldd, hldd, hgd⟩ := HS1.out.dest.look (z := .int .i64 0) (fun k hk => fD_none hk)
              have lkH : Sem.run Tryz.prog (Instr.lookup 107 (.map (some m)) (.agg #[.int .i64 x.ino, .int .u64 x.isq, .int .i64 x.iof]) false) w1 = .ok (.bool (decide (oid x ∈ H))) w1 := (run_lookId (e := 4) (z := .bool false) Tryz.underlying107 (by kernel_rfl) hlm (oid x)).trans (by rw [hgm])
              have lkD : Sem.run Tryz.prog (Instr.lookup 106 (.map (some (w.heap.size + 2))) (.agg #[.int .i64 x.ino, .int .u64 x.isq, .int .i64 x.iof]) false) w1 = .ok (.int .i64 (deO b (oid x))) w1 := (run_lookId (e := 3) (z := .int .i64 0) Tryz.underlying106 (by kernel_rfl) hldd (oid x)).trans (by rw [hgd]; rfl)
              have hnw : nwO b node H x = if x.ki = 1 then decide (oid x ∈ H) || decide (deO b (oid x) ≠ node) else if x.ki = 6 then true else if x.ki = 7 ∨ x.ki = 9 then false else decide (oid x ∈ H) := rfl
              obtain ⟨hb, hhb⟩ : ∃ q, decide (oid x ∈ H) = q := ⟨_, rfl⟩
              obtain ⟨nw, hnww⟩ : ∃ q, nwO b node H x = q := ⟨_, rfl⟩
              obtain ⟨dd, hdd⟩ : ∃ q, deO b (oid x) = q := ⟨_, rfl⟩
              rw [hhb] at lkH hnw
              rw [hnww] at hnw
              rw [hdd] at lkD hnw
              have HHB := Lib.hid hhb
              have HNW := Lib.hid hnww
              have hnk := HNW
              have gu := fun W => usesID_any x.ki W
              obtain ⟨q, hq⟩ : ∃ q, useB x.ki = q := ⟨_, rfl⟩
              rw [hq] at gu
              have GU := Lib.hid gu
              have HQ := Lib.hid hq
              have hso := szO_bd (b := b) (fun y hy => HV.out.mem y hy) (oid x)
              clear hlm hgm hldd hgd hhb hnww hdd lm ldd hnk gu hq
              have hun : undef = Value.tuple #[] := rfl
              go_upto_if 63 with fail
              by_cases he : nw = hb
              · have hsm : hldO b node H x = H := hld_same (by rw [HNW.out, HHB.out, he])
                have HSM := Lib.hid hsm
                clear hsm HNW HHB HQ
                by_cases h1 : x.ki = 1
                · have t2 : (x.ki == 1) = true := by simp [h1]
                  rw [if_pos h1] at hnw
                  cases hb
                  · have t3 : (dd != node) = false := by rw [he] at hnw; simpa using hnw
                    clear hnw h1 he
                    (cases q <;> (go_wp2_with (go_at_call 57; (with_reducible refine (GU.out _).mono ?_); rintro e w9 ⟨rfl, rfl⟩); (try simp only [← hun]); go_meet; case rel => exact ⟨hB2, gl2, Lib.hid ⟨by rw [HSM.out, HLD.out], KB.out, by rw [HSM.out]; exact HS1.out⟩⟩))
                  · clear hnw h1 he
                    (cases q <;> (go_wp2_with (go_at_call 57; (with_reducible refine (GU.out _).mono ?_); rintro e w9 ⟨rfl, rfl⟩); (try simp only [← hun]); go_meet; case rel => exact ⟨hB2, gl2, Lib.hid ⟨by rw [HSM.out, HLD.out], KB.out, by rw [HSM.out]; exact HS1.out⟩⟩))
                · have t2 : (x.ki == 1) = false := by simp [h1]
                  rw [if_neg h1] at hnw
                  by_cases h6 : x.ki = 6
                  · rw [if_pos h6] at hnw
                    have t3 : (x.ki == 6) = true := by simp [h6]
                    have hbt : hb = true := by rw [← he, hnw]
                    subst hbt
                    clear h1 h6 hnw he
                    (cases q <;> (go_wp2_with (go_at_call 57; (with_reducible refine (GU.out _).mono ?_); rintro e w9 ⟨rfl, rfl⟩); (try simp only [← hun]); go_meet; case rel => exact ⟨hB2, gl2, Lib.hid ⟨by rw [HSM.out, HLD.out], KB.out, by rw [HSM.out]; exact HS1.out⟩⟩))
                  · rw [if_neg h6] at hnw
                    have t3 : (x.ki == 6) = false := by simp [h6]
                    by_cases h7 : x.ki = 7
                    · rw [if_pos (.inl h7)] at hnw
                      have t4 : (x.ki == 7) = true := by simp [h7]
                      have hbt : hb = false := by rw [← he, hnw]
                      subst hbt
                      clear h1 h6 h7 hnw he
                      (cases q <;> (go_wp2_with (go_at_call 57; (with_reducible refine (GU.out _).mono ?_); rintro e w9 ⟨rfl, rfl⟩); (try simp only [← hun]); go_meet; case rel => exact ⟨hB2, gl2, Lib.hid ⟨by rw [HSM.out, HLD.out], KB.out, by rw [HSM.out]; exact HS1.out⟩⟩))
                    · have t4 : (x.ki == 7) = false := by simp [h7]
                      by_cases h9 : x.ki = 9
                      · rw [if_pos (.inr h9)] at hnw
                        have t5 : (x.ki == 9) = true := by simp [h9]
                        have hbt : hb = false := by rw [← he, hnw]
                        subst hbt
                        clear h1 h6 h7 h9 hnw he
                        (cases q <;> (go_wp2_with (go_at_call 57; (with_reducible refine (GU.out _).mono ?_); rintro e w9 ⟨rfl, rfl⟩); (try simp only [← hun]); go_meet; case rel => exact ⟨hB2, gl2, Lib.hid ⟨by rw [HSM.out, HLD.out], KB.out, by rw [HSM.out]; exact HS1.out⟩⟩))
                      · have t5 : (x.ki == 9) = false := by simp [h9]
                        clear h1 h6 h7 h9 hnw he
                        cases hb <;> (cases q <;> (go_wp2_with (go_at_call 57; (with_reducible refine (GU.out _).mono ?_); rintro e w9 ⟨rfl, rfl⟩); (try simp only [← hun]); go_meet; case rel => exact ⟨hB2, gl2, Lib.hid ⟨by rw [HSM.out, HLD.out], KB.out, by rw [HSM.out]; exact HS1.out⟩⟩))
              · have hqt : q = true := by rw [← HQ.out]; exact nwO_use (b := b) (node := node) (h := H) (by rw [HNW.out, HHB.out]; exact he)
                subst hqt
                have hlb1 := hlb.1; have hlb2 := hlb.2
                have hbd2 : ld ≤ 6000000 := by omega
                cases nw
                · have hbt : hb = true := by cases hb; exact absurd rfl he; rfl
                  subst hbt
                  have hmem : oid x ∈ H := of_decide_eq_true HHB.out
                  have hdl := hld_del hno HNW.out hmem
                  have hld2 := ld_del b szB (oid x) H HND.out hmem
                  have hnn := ld_le b szB (fun y hy => szB_bd (HV.out.mem y hy)) (H.filter fun k => decide (k ≠ oid x))
                  rw [← hdl] at hld2 hnn
                  obtain ⟨w5, r1, hg5, hs5, lk5⟩ := stp_put HS1.out hBm x (hldO b node H x) false (fun y hy => by rw [hdl, List.mem_filter]; simp [hy]) (by rw [hdl]; simp)
                  obtain ⟨sz, hsz⟩ : ∃ sz, szO b szB (oid x) = sz := ⟨_, rfl⟩
                  rw [hsz] at hso lk5 hld2
                  rw [HLD.out] at hld2
                  rw [hld2] at hnn
                  have m1 : IntKind.u64.wrap (ld - sz) = ld - sz := IntWalk.u64_in _ (by omega)
                  have kb5 : blk w5 c0 = some #[.int .i64 x.ti, .int .i64 x.no, .int .i64 x.ki, .int .i64 x.ino, .int .u64 x.isq, .int .i64 x.iof, .int .i64 x.ot] := (blk_kept (hg5.block c0 (blk_lt KB.out) (by simp; omega))).trans KB.out
                  have hB5 : Below w.heap.size w w5 := hB2.grown hg5 hB2.size (fun k e => by cases e; omega)
                  have gl5 : g < w5.heap.size := Nat.lt_of_lt_of_le gl2 hg5.size
                  have HF : Hid (Value.int .u64 (ld - sz) = .int .u64 (ldO b szB (hldO b node H x)) ∧ blk w5 c0 = some #[.int .i64 x.ti, .int .i64 x.no, .int .i64 x.ki, .int .i64 x.ino, .int .u64 x.isq, .int .i64 x.iof, .int .i64 x.ot] ∧ StI w5 w.heap.size m vr b (hldO b node H x) u12 O) := Lib.hid ⟨by rw [hld2], kb5, hs5⟩
                  have n5 := kn kb5
                  have h79 : x.ki ≠ 1 ∧ x.ki ≠ 6 ∧ (x.ki = 7 ∨ x.ki = 9) := by
                    refine Classical.byContradiction fun hc => ?_
                    by_cases h1 : x.ki = 1
                    · rw [if_pos h1] at hnw; cases hnw
                    · by_cases h6 : x.ki = 6
                      · rw [if_neg h1, if_pos h6] at hnw; cases hnw
                      · rw [if_neg h1, if_neg h6, if_neg (fun h => hc ⟨h1, h6, h⟩)] at hnw; cases hnw
                  have t2 : (x.ki == 1) = false := by simp [h79.1]
                  have t3 : (x.ki == 6) = false := by simp [h79.2.1]
                  have h7 := h79.2.2
                  clear hmem hdl hld2 hnn hg5 hs5 hsz h79 hnw he HHB HNW HQ kb5 HND HLD HS1 hlb hso
                  rcases h7 with h7 | h7
                  · have t4 : (x.ki == 7) = true := by simp [h7]
                    clear h7
                    (go_wp2_with (go_at_call 57; (with_reducible refine (GU.out _).mono ?_); rintro e w9 ⟨rfl, rfl⟩); (try simp only [← hun]); go_meet; case rel => exact ⟨hB5, gl5, HF⟩)
                  · have t4 : (x.ki == 7) = false := by simp [h7]
                    have t5 : (x.ki == 9) = true := by simp [h7]
                    clear h7
                    (go_wp2_with (go_at_call 57; (with_reducible refine (GU.out _).mono ?_); rintro e w9 ⟨rfl, rfl⟩); (try simp only [← hun]); go_meet; case rel => exact ⟨hB5, gl5, HF⟩)
                · have hbt : hb = false := by cases hb; rfl; exact absurd rfl he
                  subst hbt
                  have hmem : oid x ∉ H := of_decide_eq_false HHB.out
                  have hdl := hld_add hno HNW.out hmem
                  have hld2 := ld_add b szB H (oid x)
                  rw [← hdl] at hld2
                  obtain ⟨w5, r1, hg5, hs5, lk5⟩ := stp_put HS1.out hBm x (hldO b node H x) true (fun y hy => by rw [hdl, List.mem_append]; simp [hy]) (by rw [hdl]; simp)
                  obtain ⟨sz, hsz⟩ : ∃ sz, szO b szB (oid x) = sz := ⟨_, rfl⟩
                  rw [hsz] at hso lk5 hld2
                  rw [HLD.out] at hld2
                  have m1 : IntKind.u64.wrap (ld + sz) = ld + sz := IntWalk.u64_in _ (by omega)
                  have kb5 : blk w5 c0 = some #[.int .i64 x.ti, .int .i64 x.no, .int .i64 x.ki, .int .i64 x.ino, .int .u64 x.isq, .int .i64 x.iof, .int .i64 x.ot] := (blk_kept (hg5.block c0 (blk_lt KB.out) (by simp; omega))).trans KB.out
                  have hB5 : Below w.heap.size w w5 := hB2.grown hg5 hB2.size (fun k e => by cases e; omega)
                  have gl5 : g < w5.heap.size := Nat.lt_of_lt_of_le gl2 hg5.size
                  have HF : Hid (Value.int .u64 (ld + sz) = .int .u64 (ldO b szB (hldO b node H x)) ∧ blk w5 c0 = some #[.int .i64 x.ti, .int .i64 x.no, .int .i64 x.ki, .int .i64 x.ino, .int .u64 x.isq, .int .i64 x.iof, .int .i64 x.ot] ∧ StI w5 w.heap.size m vr b (hldO b node H x) u12 O) := Lib.hid ⟨by rw [hld2], kb5, hs5⟩
                  have n5 := kn kb5
                  by_cases h1 : x.ki = 1
                  · rw [if_pos h1, Bool.false_or] at hnw
                    have t2 : (x.ki == 1) = true := by simp [h1]
                    have t3 : (dd != node) = true := by have := of_decide_eq_true hnw.symm; simpa using this
                    clear hmem hdl hld2 hg5 hs5 hsz h1 hnw he HHB HNW HQ kb5 HND HLD HS1 hlb hso
                    (go_wp2_with (go_at_call 57; (with_reducible refine (GU.out _).mono ?_); rintro e w9 ⟨rfl, rfl⟩); (try simp only [← hun]); go_meet; case rel => exact ⟨hB5, gl5, HF⟩)
                  · rw [if_neg h1] at hnw
                    have h6 : x.ki = 6 := Classical.byContradiction fun h6 => by
                      rw [if_neg h6] at hnw
                      split at hnw <;> cases hnw
                    have t2 : (x.ki == 1) = false := by simp [h1]
                    have t3 : (x.ki == 6) = true := by simp [h6]
                    clear hmem hdl hld2 hg5 hs5 hsz h1 h6 hnw he HHB HNW HQ kb5 HND HLD HS1 hlb hso
                    (go_wp2_with (go_at_call 57; (with_reducible refine (GU.out _).mono ?_); rintro e w9 ⟨rfl, rfl⟩); (try simp only [← hun]); go_meet; case rel => exact ⟨hB5, gl5, HF⟩)
            · have t1 : (x.no == node) = false := by simp [hno]
              have e1 := hld_ne (b := b) (h := H) hno
              have HE1 := Lib.hid e1
              clear e1 hno
              go_wp2
              go_meet
              case rel => exact ⟨hB2, gl2, Lib.hid ⟨by rw [HE1.out, HLD.out], KB.out, by rw [HE1.out]; exact HS1.out⟩⟩
          case rest =>
          obtain ⟨hB3, gl3, HC⟩ := hcut
          obtain ⟨rfl, kb3, hs3⟩ := HC.out
          have HS3 := Lib.hid hs3
          have KB3 := Lib.hid kb3
          obtain ⟨H2, hH2⟩ : ∃ H2, hldO b node H x = H2 := ⟨_, rfl⟩
          rw [hH2] at HST HS3 ⊢
          obtain ⟨ld2, hld2⟩ : ∃ ld, ldO b szB H2 = ld := ⟨_, rfl⟩
          rw [hld2] at HST ⊢
          have HLD2 := Lib.hid hld2
          have HRL := HL
          obtain ⟨p, hp⟩ : ∃ p, p = j + 1 := ⟨_, rfl⟩
          have m1 : IntKind.i64.wrap ((j : Int) + 1) = (p : Int) := (IntWalk.i64_in _ (by omega)).trans (by omega)
          have hcs' : p < l.length → ∃ y, l[j + 1]? = some y ∧ wc.cell? ⟨g, off + p * 7, none⟩ = some (.int .i64 y.ti) := fun h => by
            refine ⟨l[p], by rw [← hp]; exact List.getElem?_eq_getElem h, ?_⟩
            have := (((HL.out.below hB3).2.2.2 (by omega)))
            obtain ⟨g', off', e, _, hc⟩ := this
            cases e
            have := hc p h 0 _ rfl
            simpa using this
          have HCS2 := Lib.hid hcs'
          have HPJ := Lib.hid hp
          have hn1 : l.length ≤ p → l[j + 1]? = none := fun h => List.getElem?_eq_none (by omega)
          have HN1 := Lib.hid hn1
          obtain ⟨nx, hnx⟩ : ∃ nx, l[j + 1]? = nx := ⟨_, rfl⟩
          rw [hnx] at HST HCS2 HN1
          have hpl : p ≤ l.length := by omega
          clear hnx hn1 hcs' hp hs3 kb3 HC hH2 hld2 nk HS1 KB hB2 gl2 HCS hlb HLD HND
          have hun : undef = Value.tuple #[] := rfl
          go_upto_region 29 with fail
          go_cut [18] from 107 to 124 (fun s18 wq => s18 = .bool (nx.elim true fun p => decide (p.ti ≠ x.ti)) ∧ Below w.heap.size w wq ∧ Hid (blk wq c0 = some #[.int .i64 x.ti, .int .i64 x.no, .int .i64 x.ki, .int .i64 x.ino, .int .u64 x.isq, .int .i64 x.iof, .int .i64 x.ot] ∧ StI wq w.heap.size m vr b H2 u12 O))
          case first =>
            by_cases hn : p < l.length
            · obtain ⟨y, rfl, hy⟩ := HCS2.out hn
              have e1 : ((p : Int) == (l.length : Int)) = false := by simp; omega
              have i2 : (p : Int) < (l.length : Int) := by omega
              refine wp_region_in (by kernel_rfl) (by kernel_rfl) ?_
              intro W0 hE hN
              have q1 : blk W0 c0 = some #[.int .i64 x.ti, .int .i64 x.no, .int .i64 x.ki, .int .i64 x.ino, .int .u64 x.isq, .int .i64 x.iof, .int .i64 x.ot] := (by rw [hE.out]; exact KB3.out)
              have q2 : StI W0 w.heap.size m vr b H2 u12 O := (by rw [hE.out]; exact HS3.out)
              have qB : Below w.heap.size w W0 := (by rw [hE.out]; exact hB3)
              have q3 : g < W0.heap.size := (by rw [hE.out]; exact gl3)
              have q4 : W0.cell? ⟨g, off + p * 7, none⟩ = some (.int .i64 y.ti) := (by rw [hE.out]; exact hy)
              have n1 := calm_kn q1
              have n2 : ∀ X : Class (Calm W0), X.wd.cell? ⟨w.heap.size, 1, none⟩ = some (.slice (some ⟨g, off, none⟩) l.length cl) := fun X => (blk_cell (blk_below X.ok q2.run) 1).trans hv1
              have n3 : ∀ X : Class (Calm W0), X.wd.cell? ⟨g, off + p * 7, none⟩ = some (.int .i64 y.ti) := fun X => (X.ok.cell q3).trans q4
              clear hE hy
              repeat (go_big_quiet_step (fail))
              refine wpQuiet_nil ?_
              rintro _ ⟨x', rfl⟩
              have hB4 := bt qB x'.ok
              have HF := Lib.hid (And.intro (blk_below x'.ok q1) (q2.below x'.ok))
              obtain ⟨u, hu⟩ : ∃ u, u = x'.wd := ⟨_, rfl⟩
              rw [← hu] at hB4 HF
              rw [← hu]
              clear hu x' hN q1 q2 q3 q4 qB n1 n2 n3 W0
              (try simp only [← hun])
              go_wp2
              go_meet
              case rel => exact ⟨by simp; first | rfl | (by_cases e : y.ti = x.ti <;> simp [e]), hB4, HF⟩
            · have hnx := HN1.out (by omega)
              subst hnx
              have e1 : ((p : Int) == (l.length : Int)) = true := by simp; omega
              refine wp_region_in (by kernel_rfl) (by kernel_rfl) ?_
              intro W0 hE hN
              have q1 : blk W0 c0 = some #[.int .i64 x.ti, .int .i64 x.no, .int .i64 x.ki, .int .i64 x.ino, .int .u64 x.isq, .int .i64 x.iof, .int .i64 x.ot] := (by rw [hE.out]; exact KB3.out)
              have q2 : StI W0 w.heap.size m vr b H2 u12 O := (by rw [hE.out]; exact HS3.out)
              have qB : Below w.heap.size w W0 := (by rw [hE.out]; exact hB3)
              have n1 := calm_kn q1
              have n2 : ∀ X : Class (Calm W0), X.wd.cell? ⟨w.heap.size, 1, none⟩ = some (.slice (some ⟨g, off, none⟩) l.length cl) := fun X => (blk_cell (blk_below X.ok q2.run) 1).trans hv1
              clear hE
              repeat (go_big_quiet_step (fail))
              refine wpQuiet_nil ?_
              rintro _ ⟨x', rfl⟩
              have hB4 := bt qB x'.ok
              have HF := Lib.hid (And.intro (blk_below x'.ok q1) (q2.below x'.ok))
              obtain ⟨u, hu⟩ : ∃ u, u = x'.wd := ⟨_, rfl⟩
              rw [← hu] at hB4 HF
              rw [← hu]
              clear hu x' hN q1 q2 qB n1 n2 W0
              (try simp only [← hun])
              go_wp2
              go_meet
              case rel => exact ⟨rfl, hB4, HF⟩
          case rest =>
          obtain ⟨rfl, hB4, HF⟩ := hcut
          obtain ⟨lst, hlst⟩ : ∃ q, (nx.elim true fun p => decide (p.ti ≠ x.ti)) = q := ⟨_, rfl⟩
          rw [hlst] at HST
          rw [hlst]
          clear hlst HCS2 HN1 HS3 KB3 hB3 gl3 m1
          have nk := kn HF.out.1
          by_cases hap : lst = true ∧ ld2 ≠ bf
          · rw [if_pos hap] at HST
            obtain ⟨rfl, hne⟩ := hap
            have t1 : (ld2 != bf) = true := by simp [hne]
            have HNL : Hid (O.length ≤ 5000) := Lib.hid (by omega)
            have HOW := Lib.hid HF.out.2.own
            clear hne
            go_wp2_with (at_builtin; go_loud (refine wpList_append_struct (enc := lc) rfl _ _ 28 rfl (m + 1) 35 i0 (.agg #[.int .i64 0, .int .u64 0]) 2 16 Tryz.underlying28 Hi.out Hz0.out Hz1.out Hz2.out rfl (by decide) lc_len lc_one _ O rfl (HOW.out.alloc _) wc.heap.size 1 (x.ti, ld2) rfl (blk_alloc_new _ _ _ rfl) (by have := HNL.out; unfold maxLen; omega) (by have := HNL.out; omega) (by have := HF.out.2.held.lt; simp; omega) ?_); intro v' wb hown2 hgrow2)
            have hBl : Below w.heap.size w (wc.alloc (.cells #[.int .i64 x.ti, .int .u64 ld2] 35)) := hB4.alloc hB4.size _
            have hsA : StI (wc.alloc (.cells #[.int .i64 x.ti, .int .u64 ld2] 35)) w.heap.size m vr b H2 u12 O := HF.out.2.below ((Below.refl _ _).alloc (Nat.le_refl _) _)
            have hB6 : Below w.heap.size w wb := hBl.grown hgrow2 (by have := hB4.size; simp; omega) (fun k e => by have := (HOW.out.lt k e).1; omega)
            have hs6 := hsA.app hgrow2 hBm hown2
            have ho3 : Hid (Value.int .u64 ld2 = .int .u64 (ldO b szB (stpS b szB node l (j + 1)).1) ∧ Value.int .u64 ld2 = .int .u64 (stpS b szB node l (j + 1)).2.1 ∧ StI wb w.heap.size m vr b (stpS b szB node l (j + 1)).1 v' (stpS b szB node l (j + 1)).2.2) := Lib.hid (by
              rw [HST.out]
              exact ⟨by rw [HLD2.out], rfl, hs6⟩)
            clear hown2 hgrow2 HOW HST hBl hsA hs6 HF nk
            go_wp2
            (try simp only [← hun])
            clear hun
            go_roundw
            case rel => exact ⟨j + 1, by go_num, by omega, hB6, ho3⟩
            case measure => simp [intOf]; omega
          · rw [if_neg hap] at HST
            have ho3 : Hid (Value.int .u64 ld2 = .int .u64 (ldO b szB (stpS b szB node l (j + 1)).1) ∧ Value.int .u64 bf = .int .u64 (stpS b szB node l (j + 1)).2.1 ∧ StI wc w.heap.size m vr b (stpS b szB node l (j + 1)).1 u12 (stpS b szB node l (j + 1)).2.2) := Lib.hid (by
              rw [HST.out]
              exact ⟨by rw [HLD2.out], rfl, HF.out.2⟩)
            clear HST HF nk
            cases lst
            · clear hap
              go_wp2
              (try simp only [← hun])
              clear hun
              go_roundw
              case rel => exact ⟨j + 1, by go_num, by omega, hB4, ho3⟩
              case measure => simp [intOf]; omega
            · have t1 : (ld2 != bf) = false := by
                by_cases e : ld2 = bf
                · simp [e]
                · exact absurd ⟨rfl, e⟩ hap
              clear hap
              go_wp2
              (try simp only [← hun])
              clear hun
              go_roundw
              case rel => exact ⟨j + 1, by go_num, by omega, hB4, ho3⟩
              case measure => simp [intOf]; omega
        · obtain rfl : j = l.length := by omega
          have ho := HO.out.2.2.own
          have HQ : Hid (wr.ownsRow w.heap.size 35 2 u12 (stepsO b szB node l).length (rowC lc (stepsO b szB node l))) := Lib.hid (owns_base ho (by omega))
          clear HO ho
          go_wp2
          go_ret
          exact ⟨_, rfl, HQ.out, hB⟩
end Go.Proofs.YthfmkkkdjgkaoaaGreatDoor
