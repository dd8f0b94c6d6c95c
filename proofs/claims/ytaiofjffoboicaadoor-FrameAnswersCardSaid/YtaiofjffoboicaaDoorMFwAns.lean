/- Parts of a proof, printed by a program of mine out of my texts: FwAns. -/
import Derived.OpenShut
import Derived.Test.YtaiofjffoboicaaDoorMFrAns
import Derived.Test.YtaiofjffoboicaaDoorMFrAwake
import Derived.Test.YtaiofjffoboicaaDoorMFrRAns
set_option linter.unusedSimpArgs false
set_option linter.unusedVariables false
namespace Go.Proofs.YtaiofjffoboicaaDoor
open Go.RowKit
theorem u64_lo {a : Int} (h : (Lit.int .u64 a).wf = true) : 0 ≤ a := by
  have := bounds_u64 h
  omega
set_option maxRecDepth 100000 in
set_option maxHeartbeats 1600000 in
theorem frameAnswers_fr (f g : Fr) (hdf : f.da.size ≤ maxLen) (hdg : g.da.size ≤ maxLen) (h0f : 0 ≤ f.b) (h0g : 0 ≤ g.b) (w : World) (hH : HTab w) (hT : STab w) :
    Calls Tryd.prog 7 #[frv f, frv g] w fun e w' => e = .returned (.bool true) ∧ Below w.heap.size w w' := by
  have HH := Lib.hid hH; have HT := Lib.hid hT; clear hH hT
  have ga := Lib.hid awake_any
  have gf := fun w => fans_any f g hdf hdg h0f h0g w
  have gr := fun w => rans_any f g hdf hdg w
  unfold ansW at gf gr
  obtain ⟨⟨A, c⟩, hA⟩ : ∃ x : Bool × Int, x = ansV f g := ⟨_, rfl⟩
  rw [← hA] at gf gr
  simp only at gf gr
  replace gf := Lib.hid gf; replace gr := Lib.hid gr
  clear hA h0f h0g
  unfold maxLen at hdf hdg
  by_cases h1 : 1100 < f.da.size
  · have t1 : decide ((1100 : Int) < f.da.size) = true := decide_eq_true (by omega)
    clear h1
    go_enter Tryd.func7, Tryd.ntmps7
    go_wp2_with (go_at_call 10; (with_reducible refine (ga.out _ (HH.out.on (by (repeat (first | (with_reducible assumption) | (with_reducible exact Below.refl _ _) | (with_reducible refine beld_drew ?_) | ((with_reducible refine bset' ?_ ?_); (first | (focus (dsimp only; assumption)) | (focus (simp; done)) | (focus (dsimp only; omega)))) | (with_reducible refine belt_alloc ?_) | ((with_reducible refine zeroed_below' ?_ ?_); (first | (focus (simp; done)) | (focus (dsimp only; omega)))) | (with_reducible refine bt ?_ (by assumption)))))) (HT.out.on (by (repeat (first | (with_reducible assumption) | (with_reducible exact Below.refl _ _) | (with_reducible refine beld_drew ?_) | ((with_reducible refine bset' ?_ ?_); (first | (focus (dsimp only; assumption)) | (focus (simp; done)) | (focus (dsimp only; omega)))) | (with_reducible refine belt_alloc ?_) | ((with_reducible refine zeroed_below' ?_ ?_); (first | (focus (simp; done)) | (focus (dsimp only; omega)))) | (with_reducible refine bt ?_ (by assumption))))))).mono ?_); rintro e wa ⟨rfl, ha⟩)
    go_ret
    exact ⟨rfl, by (repeat (first | (with_reducible assumption) | (with_reducible exact Below.refl _ _) | (with_reducible refine beld_drew ?_) | ((with_reducible refine bset' ?_ ?_); (first | (focus (dsimp only; assumption)) | (focus (simp; done)) | (focus (dsimp only; omega)))) | (with_reducible refine belt_alloc ?_) | ((with_reducible refine zeroed_below' ?_ ?_); (first | (focus (simp; done)) | (focus (dsimp only; omega)))) | (with_reducible refine bt ?_ (by assumption))))⟩
  · have t1 : decide ((1100 : Int) < f.da.size) = false := decide_eq_false (by omega)
    clear h1
    by_cases h2 : 1100 < g.da.size
    · have t2 : decide ((1100 : Int) < g.da.size) = true := decide_eq_true (by omega)
      clear h2
      go_enter Tryd.func7, Tryd.ntmps7
      go_wp2_with (go_at_call 10; (with_reducible refine (ga.out _ (HH.out.on (by (repeat (first | (with_reducible assumption) | (with_reducible exact Below.refl _ _) | (with_reducible refine beld_drew ?_) | ((with_reducible refine bset' ?_ ?_); (first | (focus (dsimp only; assumption)) | (focus (simp; done)) | (focus (dsimp only; omega)))) | (with_reducible refine belt_alloc ?_) | ((with_reducible refine zeroed_below' ?_ ?_); (first | (focus (simp; done)) | (focus (dsimp only; omega)))) | (with_reducible refine bt ?_ (by assumption)))))) (HT.out.on (by (repeat (first | (with_reducible assumption) | (with_reducible exact Below.refl _ _) | (with_reducible refine beld_drew ?_) | ((with_reducible refine bset' ?_ ?_); (first | (focus (dsimp only; assumption)) | (focus (simp; done)) | (focus (dsimp only; omega)))) | (with_reducible refine belt_alloc ?_) | ((with_reducible refine zeroed_below' ?_ ?_); (first | (focus (simp; done)) | (focus (dsimp only; omega)))) | (with_reducible refine bt ?_ (by assumption))))))).mono ?_); rintro e wa ⟨rfl, ha⟩)
      go_ret
      exact ⟨rfl, by (repeat (first | (with_reducible assumption) | (with_reducible exact Below.refl _ _) | (with_reducible refine beld_drew ?_) | ((with_reducible refine bset' ?_ ?_); (first | (focus (dsimp only; assumption)) | (focus (simp; done)) | (focus (dsimp only; omega)))) | (with_reducible refine belt_alloc ?_) | ((with_reducible refine zeroed_below' ?_ ?_); (first | (focus (simp; done)) | (focus (dsimp only; omega)))) | (with_reducible refine bt ?_ (by assumption))))⟩
    · have t2 : decide ((1100 : Int) < g.da.size) = false := decide_eq_false (by omega)
      clear h2
      go_enter Tryd.func7, Tryd.ntmps7
      go_upto_region 3 with fail
      refine wp_region_lit ?_
      refine wpList_load_blk 29 (.tmp 2) w.heap.size #[.int .i64 f.k, .int .i64 f.fr, .int .i64 f.to_, .int .u64 f.mi, .int .u64 f.yo, .int .u64 f.a, .int .u64 f.b, .int .i64 f.ino, .int .u64 f.isq, .int .i64 f.iof, .int .i64 f.bno, .int .u64 f.bsq, .int .i64 f.bof, .int .i64 f.bde, .int .i64 f.bpr, .int .i64 f.bbo, .int .i64 f.bli, .int .i64 f.bto, .string f.da] (by (apply blk_to; (focus (repeat (first | (with_reducible assumption) | (with_reducible apply blk_drew) | (with_reducible apply blk_set) | ((with_reducible apply blk_other'); (first | (focus (dsimp only; assumption)) | (focus (simp; done)) | (focus (dsimp only; omega)))) | ((with_reducible apply blk_alloc_new); (first | (with_reducible rfl) | (focus (simp; done)) | (focus (simp; omega)))) | (with_reducible apply blk_alloc) | ((with_reducible apply blk_below); (with_reducible assumption))))); rfl)) _ rfl rfl rfl Tryd.underlying29 rfl (by kernel_rfl) ?_
      conv => arg 5; simp [Act.put]
      refine wpList_load_blk 29 (.tmp 3) (w.heap.size + 1) #[.int .i64 g.k, .int .i64 g.fr, .int .i64 g.to_, .int .u64 g.mi, .int .u64 g.yo, .int .u64 g.a, .int .u64 g.b, .int .i64 g.ino, .int .u64 g.isq, .int .i64 g.iof, .int .i64 g.bno, .int .u64 g.bsq, .int .i64 g.bof, .int .i64 g.bde, .int .i64 g.bpr, .int .i64 g.bbo, .int .i64 g.bli, .int .i64 g.bto, .string g.da] (by (apply blk_to; (focus (repeat (first | (with_reducible assumption) | (with_reducible apply blk_drew) | (with_reducible apply blk_set) | ((with_reducible apply blk_other'); (first | (focus (dsimp only; assumption)) | (focus (simp; done)) | (focus (dsimp only; omega)))) | ((with_reducible apply blk_alloc_new); (first | (with_reducible rfl) | (focus (simp; done)) | (focus (simp; omega)))) | (with_reducible apply blk_alloc) | ((with_reducible apply blk_below); (with_reducible assumption))))); rfl)) _ rfl rfl rfl Tryd.underlying29 rfl (by kernel_rfl) ?_
      conv => arg 5; simp [Act.put]
      go_wp2_with fail
      (with_reducible refine (gf.out _).mono ?_)
      rintro e w1 ⟨rfl, h1⟩
      have k1 : blk w1 w.heap.size = some #[.int .i64 f.k, .int .i64 f.fr, .int .i64 f.to_, .int .u64 f.mi, .int .u64 f.yo, .int .u64 f.a, .int .u64 f.b, .int .i64 f.ino, .int .u64 f.isq, .int .i64 f.iof, .int .i64 f.bno, .int .u64 f.bsq, .int .i64 f.bof, .int .i64 f.bde, .int .i64 f.bpr, .int .i64 f.bbo, .int .i64 f.bli, .int .i64 f.bto, .string f.da] := (by (apply blk_to; (focus (repeat (first | (with_reducible assumption) | (with_reducible apply blk_drew) | (with_reducible apply blk_set) | ((with_reducible apply blk_other'); (first | (focus (dsimp only; assumption)) | (focus (simp; done)) | (focus (dsimp only; omega)))) | ((with_reducible apply blk_alloc_new); (first | (with_reducible rfl) | (focus (simp; done)) | (focus (simp; omega)))) | (with_reducible apply blk_alloc) | ((with_reducible apply blk_below); (with_reducible assumption))))); rfl))
      have k2 : blk w1 (w.heap.size + 1) = some #[.int .i64 g.k, .int .i64 g.fr, .int .i64 g.to_, .int .u64 g.mi, .int .u64 g.yo, .int .u64 g.a, .int .u64 g.b, .int .i64 g.ino, .int .u64 g.isq, .int .i64 g.iof, .int .i64 g.bno, .int .u64 g.bsq, .int .i64 g.bof, .int .i64 g.bde, .int .i64 g.bpr, .int .i64 g.bbo, .int .i64 g.bli, .int .i64 g.bto, .string g.da] := (by (apply blk_to; (focus (repeat (first | (with_reducible assumption) | (with_reducible apply blk_drew) | (with_reducible apply blk_set) | ((with_reducible apply blk_other'); (first | (focus (dsimp only; assumption)) | (focus (simp; done)) | (focus (dsimp only; omega)))) | ((with_reducible apply blk_alloc_new); (first | (with_reducible rfl) | (focus (simp; done)) | (focus (simp; omega)))) | (with_reducible apply blk_alloc) | ((with_reducible apply blk_below); (with_reducible assumption))))); rfl))
      have b1 : Below w.heap.size w w1 := (by (repeat (first | (with_reducible assumption) | (with_reducible exact Below.refl _ _) | (with_reducible refine beld_drew ?_) | ((with_reducible refine bset' ?_ ?_); (first | (focus (dsimp only; assumption)) | (focus (simp; done)) | (focus (dsimp only; omega)))) | (with_reducible refine belt_alloc ?_) | ((with_reducible refine zeroed_below' ?_ ?_); (first | (focus (simp; done)) | (focus (dsimp only; omega)))) | (with_reducible refine bt ?_ (by assumption)))))
      clear h1
      go_upto_region 4 with fail
      refine wp_region_lit ?_
      refine wpList_load_blk 29 (.tmp 2) w.heap.size #[.int .i64 f.k, .int .i64 f.fr, .int .i64 f.to_, .int .u64 f.mi, .int .u64 f.yo, .int .u64 f.a, .int .u64 f.b, .int .i64 f.ino, .int .u64 f.isq, .int .i64 f.iof, .int .i64 f.bno, .int .u64 f.bsq, .int .i64 f.bof, .int .i64 f.bde, .int .i64 f.bpr, .int .i64 f.bbo, .int .i64 f.bli, .int .i64 f.bto, .string f.da] k1 _ rfl rfl rfl Tryd.underlying29 rfl (by kernel_rfl) ?_
      conv => arg 5; simp [Act.put]
      refine wpList_load_blk 29 (.tmp 3) (w.heap.size + 1) #[.int .i64 g.k, .int .i64 g.fr, .int .i64 g.to_, .int .u64 g.mi, .int .u64 g.yo, .int .u64 g.a, .int .u64 g.b, .int .i64 g.ino, .int .u64 g.isq, .int .i64 g.iof, .int .i64 g.bno, .int .u64 g.bsq, .int .i64 g.bof, .int .i64 g.bde, .int .i64 g.bpr, .int .i64 g.bbo, .int .i64 g.bli, .int .i64 g.bto, .string g.da] k2 _ rfl rfl rfl Tryd.underlying29 rfl (by kernel_rfl) ?_
      conv => arg 5; simp [Act.put]
      go_wp2_with fail
      (with_reducible refine (gr.out _).mono ?_)
      rintro e w2 ⟨rfl, h2⟩
      have b2 : Below w.heap.size w w2 := b1.trans (h2.mono b1.size)
      clear h2 k1 k2 b1
      go_wp2_with (go_at_call 10; (with_reducible refine (ga.out _ (HH.out.on (by (repeat (first | (with_reducible assumption) | (with_reducible exact Below.refl _ _) | (with_reducible refine beld_drew ?_) | ((with_reducible refine bset' ?_ ?_); (first | (focus (dsimp only; assumption)) | (focus (simp; done)) | (focus (dsimp only; omega)))) | (with_reducible refine belt_alloc ?_) | ((with_reducible refine zeroed_below' ?_ ?_); (first | (focus (simp; done)) | (focus (dsimp only; omega)))) | (with_reducible refine bt ?_ (by assumption)))))) (HT.out.on (by (repeat (first | (with_reducible assumption) | (with_reducible exact Below.refl _ _) | (with_reducible refine beld_drew ?_) | ((with_reducible refine bset' ?_ ?_); (first | (focus (dsimp only; assumption)) | (focus (simp; done)) | (focus (dsimp only; omega)))) | (with_reducible refine belt_alloc ?_) | ((with_reducible refine zeroed_below' ?_ ?_); (first | (focus (simp; done)) | (focus (dsimp only; omega)))) | (with_reducible refine bt ?_ (by assumption))))))).mono ?_); rintro e wa ⟨rfl, ha⟩)
      go_ret
      exact ⟨rfl, by (repeat (first | (with_reducible assumption) | (with_reducible exact Below.refl _ _) | (with_reducible refine beld_drew ?_) | ((with_reducible refine bset' ?_ ?_); (first | (focus (dsimp only; assumption)) | (focus (simp; done)) | (focus (dsimp only; omega)))) | (with_reducible refine belt_alloc ?_) | ((with_reducible refine zeroed_below' ?_ ?_); (first | (focus (simp; done)) | (focus (dsimp only; omega)))) | (with_reducible refine bt ?_ (by assumption))))⟩
theorem frameAnswers_walk (x0 x1 x2 x3 x4 x5 x6 x7 x8 x9 x10 x11 x12 x13 x14 x15 x16 x17 : Int) (xd : ByteArray) (y0 y1 y2 y3 y4 y5 y6 y7 y8 y9 y10 y11 y12 y13 y14 y15 y16 y17 : Int) (yd : ByteArray) (wx : (Lit.int .u64 x6).wf = true) (hx : xd.size ≤ maxLen) (wy : (Lit.int .u64 y6).wf = true) (hy : yd.size ≤ maxLen) (w : World)
    (T0 : Lib.TabIs Tryd.prog w sumNm .u32 sumTab) (T1 : Lib.TabIs Tryd.prog w headsNm .u8 headsTab) :
    Calls Tryd.prog 7 #[frv ⟨x0, x1, x2, x3, x4, x5, x6, x7, x8, x9, x10, x11, x12, x13, x14, x15, x16, x17, xd⟩, frv ⟨y0, y1, y2, y3, y4, y5, y6, y7, y8, y9, y10, y11, y12, y13, y14, y15, y16, y17, yd⟩] w fun e w' => e = .returned (.bool true) ∧ Below w.heap.size w w' :=
  frameAnswers_fr _ _ hx hy (u64_lo wx) (u64_lo wy) w (htab_of T1) (stab_of T0)
end Go.Proofs.YtaiofjffoboicaaDoor
