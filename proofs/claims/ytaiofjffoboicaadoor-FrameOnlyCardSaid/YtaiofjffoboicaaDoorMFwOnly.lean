/- Parts of a proof, printed by a program of mine out of my texts: FwOnly. -/
import Derived.Great.Walk
import Derived.OpenShut
import Derived.Deep.Cut
import Derived.Test.YtaiofjffoboicaaDoorMFrAwake
import Derived.Test.YtaiofjffoboicaaDoorMFwKit
set_option linter.unusedSimpArgs false
set_option linter.unusedVariables false
namespace Go.Proofs.YtaiofjffoboicaaDoor
open Go.RowKit
set_option maxRecDepth 100000 in
set_option maxHeartbeats 1600000 in
theorem frameOnly_at (s : ByteArray) (hs : s.size ≤ maxLen) (w : World) (hH : HTab w) (hT : STab w) :
    Calls Tryd.prog 4 #[.string s] w fun e w' => e = .returned (.bool true) ∧ Below w.heap.size w w' := by
  have HH := Lib.hid hH; have HT := Lib.hid hT; clear hH hT
  have ga := Lib.hid awake_any
  by_cases h1 : 1300 < s.size
  · have t1 : decide ((1300 : Int) < s.size) = true := decide_eq_true (by omega)
    clear h1
    go_enter Tryd.func4, Tryd.ntmps4
    go_wp2_with (go_at_call 10; (with_reducible refine (ga.out _ (HH.out.on (by (repeat (first | (with_reducible assumption) | (with_reducible exact Below.refl _ _) | (with_reducible refine beld_drew ?_) | ((with_reducible refine bset' ?_ ?_); (first | (focus (dsimp only; assumption)) | (focus (simp; done)) | (focus (dsimp only; omega)))) | (with_reducible refine belt_alloc ?_) | ((with_reducible refine zeroed_below' ?_ ?_); (first | (focus (simp; done)) | (focus (dsimp only; omega)))) | (with_reducible refine bt ?_ (by assumption)))))) (HT.out.on (by (repeat (first | (with_reducible assumption) | (with_reducible exact Below.refl _ _) | (with_reducible refine beld_drew ?_) | ((with_reducible refine bset' ?_ ?_); (first | (focus (dsimp only; assumption)) | (focus (simp; done)) | (focus (dsimp only; omega)))) | (with_reducible refine belt_alloc ?_) | ((with_reducible refine zeroed_below' ?_ ?_); (first | (focus (simp; done)) | (focus (dsimp only; omega)))) | (with_reducible refine bt ?_ (by assumption))))))).mono ?_); rintro e wa ⟨rfl, ha⟩)
    go_ret
    exact ⟨rfl, by (repeat (first | (with_reducible assumption) | (with_reducible exact Below.refl _ _) | (with_reducible refine beld_drew ?_) | ((with_reducible refine bset' ?_ ?_); (first | (focus (dsimp only; assumption)) | (focus (simp; done)) | (focus (dsimp only; omega)))) | (with_reducible refine belt_alloc ?_) | ((with_reducible refine zeroed_below' ?_ ?_); (first | (focus (simp; done)) | (focus (dsimp only; omega)))) | (with_reducible refine bt ?_ (by assumption))))⟩
  · have t1 : decide ((1300 : Int) < s.size) = false := decide_eq_false (by omega)
    clear h1
    have gd := fun w h t => fdec_any s hs w h t
    obtain ⟨⟨F, c, x⟩, hF⟩ : ∃ x, decFr wrapI s.data.toList = x := ⟨_, rfl⟩
    rw [hF] at gd
    by_cases hc : c = 0
    · subst hc
      rw [decFr_sm good_wrap] at hF
      obtain ⟨hok, hn, hb, hx⟩ := decFr_only _ _ _ hF
      have hda : F.da.size ≤ maxLen := (da_of hok)
      have ge := fun w h t => fencode_any F hda hn w h t
      unfold encV encF at ge
      simp only [if_pos hok] at ge
      rw [← hb] at ge
      have ge : ∀ w, HTab w → STab w → Calls Tryd.prog 13 #[.agg #[.int .i64 F.k, .int .i64 F.fr, .int .i64 F.to_, .int .u64 F.mi, .int .u64 F.yo, .int .u64 F.a, .int .u64 F.b, .int .i64 F.ino, .int .u64 F.isq, .int .i64 F.iof, .int .i64 F.bno, .int .u64 F.bsq, .int .i64 F.bof, .int .i64 F.bde, .int .i64 F.bpr, .int .i64 F.bbo, .int .i64 F.bli, .int .i64 F.bto, .string F.da]] w fun e w' => e = .returned (.tuple #[.string s, .int .i64 0]) ∧ Below w.heap.size w w' := fun w h t => by
        have := ge w h t
        unfold bstr at this
        simpa using this
      have gd : ∀ w, HTab w → STab w → Calls Tryd.prog 11 #[.string s] w fun e w' => e = .returned (.tuple #[.agg #[.int .i64 F.k, .int .i64 F.fr, .int .i64 F.to_, .int .u64 F.mi, .int .u64 F.yo, .int .u64 F.a, .int .u64 F.b, .int .i64 F.ino, .int .u64 F.isq, .int .i64 F.iof, .int .i64 F.bno, .int .u64 F.bsq, .int .i64 F.bof, .int .i64 F.bde, .int .i64 F.bpr, .int .i64 F.bbo, .int .i64 F.bli, .int .i64 F.bto, .string F.da], .agg #[.int .i64 0, .int .i64 x]]) ∧ Below w.heap.size w w' := gd
      replace ge := Lib.hid ge; replace gd := Lib.hid gd
      clear hF hok hn hb hx hda
      go_enter Tryd.func4, Tryd.ntmps4
      go_upto_region 3 with fail
      refine wp_region_tail0 5 ?_
      intro W1 hE1 hN1
      have bW1 : Below w.heap.size w W1 := (by rw [hE1.out]; (repeat (first | (with_reducible assumption) | (with_reducible exact Below.refl _ _) | (with_reducible refine beld_drew ?_) | ((with_reducible refine bset' ?_ ?_); (first | (focus (dsimp only; assumption)) | (focus (simp; done)) | (focus (dsimp only; omega)))) | (with_reducible refine belt_alloc ?_) | ((with_reducible refine zeroed_below' ?_ ?_); (first | (focus (simp; done)) | (focus (dsimp only; omega)))) | (with_reducible refine bt ?_ (by assumption)))))
      clear hE1
      simp only [List.take_succ_cons, List.take_zero, List.drop_succ_cons, List.drop_zero]
      repeat (go_big_quiet_step ((go_at_call 11; (with_reducible refine Class.go _ (gd.out _ ?_ ?_)); exact HH.out.on (bt bW1 (Class.ok _)); exact HT.out.on (bt bW1 (Class.ok _)))))
      refine wpQuiet_nil ?_
      rintro _ ⟨x, rfl⟩
      have bb1 := bt bW1 x.ok
      clear hN1 bW1
      obtain ⟨u1, hu1⟩ : ∃ u, u = x.wd := ⟨_, rfl⟩
      rw [← hu1] at bb1 ⊢
      clear hu1 x
      refine Go.Great.wpList_allocTo rfl (some 3) rfl (.pointer (some ⟨u1.heap.size, 0, none⟩)) (.cells #[.int .i64 0, .int .i64 0, .int .i64 0, .int .u64 0, .int .u64 0, .int .u64 0, .int .u64 0, .int .i64 0, .int .u64 0, .int .i64 0, .int .i64 0, .int .u64 0, .int .i64 0, .int .i64 0, .int .i64 0, .int .i64 0, .int .i64 0, .int .i64 0, .string ⟨#[]⟩] 29) (by kernel_rfl) ?_
      conv => arg 5; simp [Act.put]
      obtain ⟨y1, hy1⟩ : ∃ y, y = u1.alloc (.cells #[.int .i64 0, .int .i64 0, .int .i64 0, .int .u64 0, .int .u64 0, .int .u64 0, .int .u64 0, .int .i64 0, .int .u64 0, .int .i64 0, .int .i64 0, .int .u64 0, .int .i64 0, .int .i64 0, .int .i64 0, .int .i64 0, .int .i64 0, .int .i64 0, .string ⟨#[]⟩] 29) := ⟨_, rfl⟩
      have ky1 : blk y1 u1.heap.size = some #[.int .i64 0, .int .i64 0, .int .i64 0, .int .u64 0, .int .u64 0, .int .u64 0, .int .u64 0, .int .i64 0, .int .u64 0, .int .i64 0, .int .i64 0, .int .u64 0, .int .i64 0, .int .i64 0, .int .i64 0, .int .i64 0, .int .i64 0, .int .i64 0, .string ⟨#[]⟩] := (by rw [hy1]; exact blk_alloc_new _ _ _ rfl)
      have by1 : Below w.heap.size w y1 := (by rw [hy1]; exact bb1.alloc bb1.size _)
      have hz1 := bb1.size
      rw [← hy1]
      clear hy1 bb1
      have hl1 := blk_lt ky1
      refine Go.Great.wpList_allocTo rfl (some 4) rfl (.pointer (some ⟨y1.heap.size, 0, none⟩)) (.cells #[.int .i64 0, .int .i64 0] 32) (by kernel_rfl) ?_
      conv => arg 5; simp [Act.put]
      refine wpList_store_blk 29 (.tmp 3) (.tmp 14) u1.heap.size #[.int .i64 0, .int .i64 0, .int .i64 0, .int .u64 0, .int .u64 0, .int .u64 0, .int .u64 0, .int .i64 0, .int .u64 0, .int .i64 0, .int .i64 0, .int .u64 0, .int .i64 0, .int .i64 0, .int .i64 0, .int .i64 0, .int .i64 0, .int .i64 0, .string ⟨#[]⟩] #[.int .i64 F.k, .int .i64 F.fr, .int .i64 F.to_, .int .u64 F.mi, .int .u64 F.yo, .int .u64 F.a, .int .u64 F.b, .int .i64 F.ino, .int .u64 F.isq, .int .i64 F.iof, .int .i64 F.bno, .int .u64 F.bsq, .int .i64 F.bof, .int .i64 F.bde, .int .i64 F.bpr, .int .i64 F.bbo, .int .i64 F.bli, .int .i64 F.bto, .string F.da] (blk_alloc ky1 _) rfl rfl rfl rfl (by kernel_rfl) rfl (by kernel_rfl) ?_
      intro s1 ks1 o1 B1 z1
      conv => arg 5; simp [Act.put]
      have es1 := o1 y1.heap.size #[.int .i64 0, .int .i64 0] (by omega) (blk_alloc_new _ _ _ rfl)
      have bs1 : Below w.heap.size w s1 := B1 _ _ hz1 (by1.alloc by1.size _)
      clear o1 B1 z1 by1 ky1
      refine wpList_store_blk 32 (.tmp 4) (.tmp 15) y1.heap.size #[.int .i64 0, .int .i64 0] #[.int .i64 0, .int .i64 x] es1 rfl rfl rfl rfl (by kernel_rfl) rfl (by kernel_rfl) ?_
      intro v1 ev1 o1 B1 z1
      conv => arg 5; simp [Act.put]
      have kv1 := o1 u1.heap.size #[.int .i64 F.k, .int .i64 F.fr, .int .i64 F.to_, .int .u64 F.mi, .int .u64 F.yo, .int .u64 F.a, .int .u64 F.b, .int .i64 F.ino, .int .u64 F.isq, .int .i64 F.iof, .int .i64 F.bno, .int .u64 F.bsq, .int .i64 F.bof, .int .i64 F.bde, .int .i64 F.bpr, .int .i64 F.bbo, .int .i64 F.bli, .int .i64 F.bto, .string F.da] (by omega) ks1
      have bv1 : Below w.heap.size w v1 := B1 _ _ (by omega) bs1
      clear o1 B1 z1 ks1 es1 bs1
      have ne1 := kn ev1
      go_upto_region 6 with fail
      refine wp_region_lit ?_
      refine wpList_load_blk 29 (.tmp 3) u1.heap.size #[.int .i64 F.k, .int .i64 F.fr, .int .i64 F.to_, .int .u64 F.mi, .int .u64 F.yo, .int .u64 F.a, .int .u64 F.b, .int .i64 F.ino, .int .u64 F.isq, .int .i64 F.iof, .int .i64 F.bno, .int .u64 F.bsq, .int .i64 F.bof, .int .i64 F.bde, .int .i64 F.bpr, .int .i64 F.bbo, .int .i64 F.bli, .int .i64 F.bto, .string F.da] kv1 _ rfl rfl rfl Tryd.underlying29 rfl (by kernel_rfl) ?_
      conv => arg 5; simp [Act.put]
      go_wp2_with fail
      (with_reducible refine (ge.out _ (HH.out.on bv1) (HT.out.on bv1)).mono ?_)
      rintro e w2 ⟨rfl, h2⟩
      have b2 : Below w.heap.size w w2 := bv1.trans (h2.mono bv1.size)
      clear h2 ne1 kv1 ev1 bv1
      go_wp2_with (go_at_call 10; (with_reducible refine (ga.out _ (HH.out.on (by (repeat (first | (with_reducible assumption) | (with_reducible exact Below.refl _ _) | (with_reducible refine beld_drew ?_) | ((with_reducible refine bset' ?_ ?_); (first | (focus (dsimp only; assumption)) | (focus (simp; done)) | (focus (dsimp only; omega)))) | (with_reducible refine belt_alloc ?_) | ((with_reducible refine zeroed_below' ?_ ?_); (first | (focus (simp; done)) | (focus (dsimp only; omega)))) | (with_reducible refine bt ?_ (by assumption)))))) (HT.out.on (by (repeat (first | (with_reducible assumption) | (with_reducible exact Below.refl _ _) | (with_reducible refine beld_drew ?_) | ((with_reducible refine bset' ?_ ?_); (first | (focus (dsimp only; assumption)) | (focus (simp; done)) | (focus (dsimp only; omega)))) | (with_reducible refine belt_alloc ?_) | ((with_reducible refine zeroed_below' ?_ ?_); (first | (focus (simp; done)) | (focus (dsimp only; omega)))) | (with_reducible refine bt ?_ (by assumption))))))).mono ?_); rintro e wa ⟨rfl, ha⟩)
      go_ret
      exact ⟨rfl, by (repeat (first | (with_reducible assumption) | (with_reducible exact Below.refl _ _) | (with_reducible refine beld_drew ?_) | ((with_reducible refine bset' ?_ ?_); (first | (focus (dsimp only; assumption)) | (focus (simp; done)) | (focus (dsimp only; omega)))) | (with_reducible refine belt_alloc ?_) | ((with_reducible refine zeroed_below' ?_ ?_); (first | (focus (simp; done)) | (focus (dsimp only; omega)))) | (with_reducible refine bt ?_ (by assumption))))⟩
    · have hz : F = noFr := by
        have := decFr_err wrapI s.data.toList (by rw [hF]; exact hc)
        rw [hF] at this
        exact this
      subst hz
      have gd : ∀ w, HTab w → STab w → Calls Tryd.prog 11 #[.string s] w fun e w' => e = .returned (.tuple #[.agg #[.int .i64 0, .int .i64 0, .int .i64 0, .int .u64 0, .int .u64 0, .int .u64 0, .int .u64 0, .int .i64 0, .int .u64 0, .int .i64 0, .int .i64 0, .int .u64 0, .int .i64 0, .int .i64 0, .int .i64 0, .int .i64 0, .int .i64 0, .int .i64 0, .string ⟨#[]⟩], .agg #[.int .i64 c, .int .i64 x]]) ∧ Below w.heap.size w w' := gd
      have E : ∀ w, Sem.run Tryd.prog (binOp BinOp.eql 29 (.agg #[.int .i64 0, .int .i64 0, .int .i64 0, .int .u64 0, .int .u64 0, .int .u64 0, .int .u64 0, .int .i64 0, .int .u64 0, .int .i64 0, .int .i64 0, .int .u64 0, .int .i64 0, .int .i64 0, .int .i64 0, .int .i64 0, .int .i64 0, .int .i64 0, .string ⟨#[]⟩]) (.agg #[.int .i64 0, .int .i64 0, .int .i64 0, .int .u64 0, .int .u64 0, .int .u64 0, .int .u64 0, .int .i64 0, .int .u64 0, .int .i64 0, .int .i64 0, .int .u64 0, .int .i64 0, .int .i64 0, .int .i64 0, .int .i64 0, .int .i64 0, .int .i64 0, .string ⟨#[]⟩])) w = .ok (.bool true) w := fun w => by
        have := run_frEq noFr noFr w
        rw [frEq_self] at this
        exact this
      have t2 : (c != 0) = true := by simp [hc]
      replace gd := Lib.hid gd
      clear hF hc
      go_enter Tryd.func4, Tryd.ntmps4
      go_upto_region 3 with fail
      refine wp_region_tail0 5 ?_
      intro W1 hE1 hN1
      have bW1 : Below w.heap.size w W1 := (by rw [hE1.out]; (repeat (first | (with_reducible assumption) | (with_reducible exact Below.refl _ _) | (with_reducible refine beld_drew ?_) | ((with_reducible refine bset' ?_ ?_); (first | (focus (dsimp only; assumption)) | (focus (simp; done)) | (focus (dsimp only; omega)))) | (with_reducible refine belt_alloc ?_) | ((with_reducible refine zeroed_below' ?_ ?_); (first | (focus (simp; done)) | (focus (dsimp only; omega)))) | (with_reducible refine bt ?_ (by assumption)))))
      clear hE1
      simp only [List.take_succ_cons, List.take_zero, List.drop_succ_cons, List.drop_zero]
      repeat (go_big_quiet_step ((go_at_call 11; (with_reducible refine Class.go _ (gd.out _ ?_ ?_)); exact HH.out.on (bt bW1 (Class.ok _)); exact HT.out.on (bt bW1 (Class.ok _)))))
      refine wpQuiet_nil ?_
      rintro _ ⟨x, rfl⟩
      have bb1 := bt bW1 x.ok
      clear hN1 bW1
      obtain ⟨u1, hu1⟩ : ∃ u, u = x.wd := ⟨_, rfl⟩
      rw [← hu1] at bb1 ⊢
      clear hu1 x
      refine Go.Great.wpList_allocTo rfl (some 3) rfl (.pointer (some ⟨u1.heap.size, 0, none⟩)) (.cells #[.int .i64 0, .int .i64 0, .int .i64 0, .int .u64 0, .int .u64 0, .int .u64 0, .int .u64 0, .int .i64 0, .int .u64 0, .int .i64 0, .int .i64 0, .int .u64 0, .int .i64 0, .int .i64 0, .int .i64 0, .int .i64 0, .int .i64 0, .int .i64 0, .string ⟨#[]⟩] 29) (by kernel_rfl) ?_
      conv => arg 5; simp [Act.put]
      obtain ⟨y1, hy1⟩ : ∃ y, y = u1.alloc (.cells #[.int .i64 0, .int .i64 0, .int .i64 0, .int .u64 0, .int .u64 0, .int .u64 0, .int .u64 0, .int .i64 0, .int .u64 0, .int .i64 0, .int .i64 0, .int .u64 0, .int .i64 0, .int .i64 0, .int .i64 0, .int .i64 0, .int .i64 0, .int .i64 0, .string ⟨#[]⟩] 29) := ⟨_, rfl⟩
      have ky1 : blk y1 u1.heap.size = some #[.int .i64 0, .int .i64 0, .int .i64 0, .int .u64 0, .int .u64 0, .int .u64 0, .int .u64 0, .int .i64 0, .int .u64 0, .int .i64 0, .int .i64 0, .int .u64 0, .int .i64 0, .int .i64 0, .int .i64 0, .int .i64 0, .int .i64 0, .int .i64 0, .string ⟨#[]⟩] := (by rw [hy1]; exact blk_alloc_new _ _ _ rfl)
      have by1 : Below w.heap.size w y1 := (by rw [hy1]; exact bb1.alloc bb1.size _)
      have hz1 := bb1.size
      rw [← hy1]
      clear hy1 bb1
      have hl1 := blk_lt ky1
      refine Go.Great.wpList_allocTo rfl (some 4) rfl (.pointer (some ⟨y1.heap.size, 0, none⟩)) (.cells #[.int .i64 0, .int .i64 0] 32) (by kernel_rfl) ?_
      conv => arg 5; simp [Act.put]
      refine wpList_store_blk 29 (.tmp 3) (.tmp 14) u1.heap.size #[.int .i64 0, .int .i64 0, .int .i64 0, .int .u64 0, .int .u64 0, .int .u64 0, .int .u64 0, .int .i64 0, .int .u64 0, .int .i64 0, .int .i64 0, .int .u64 0, .int .i64 0, .int .i64 0, .int .i64 0, .int .i64 0, .int .i64 0, .int .i64 0, .string ⟨#[]⟩] #[.int .i64 0, .int .i64 0, .int .i64 0, .int .u64 0, .int .u64 0, .int .u64 0, .int .u64 0, .int .i64 0, .int .u64 0, .int .i64 0, .int .i64 0, .int .u64 0, .int .i64 0, .int .i64 0, .int .i64 0, .int .i64 0, .int .i64 0, .int .i64 0, .string ⟨#[]⟩] (blk_alloc ky1 _) rfl rfl rfl rfl (by kernel_rfl) rfl (by kernel_rfl) ?_
      intro s1 ks1 o1 B1 z1
      conv => arg 5; simp [Act.put]
      have es1 := o1 y1.heap.size #[.int .i64 0, .int .i64 0] (by omega) (blk_alloc_new _ _ _ rfl)
      have bs1 : Below w.heap.size w s1 := B1 _ _ hz1 (by1.alloc by1.size _)
      clear o1 B1 z1 by1 ky1
      refine wpList_store_blk 32 (.tmp 4) (.tmp 15) y1.heap.size #[.int .i64 0, .int .i64 0] #[.int .i64 c, .int .i64 x] es1 rfl rfl rfl rfl (by kernel_rfl) rfl (by kernel_rfl) ?_
      intro v1 ev1 o1 B1 z1
      conv => arg 5; simp [Act.put]
      have kv1 := o1 u1.heap.size #[.int .i64 0, .int .i64 0, .int .i64 0, .int .u64 0, .int .u64 0, .int .u64 0, .int .u64 0, .int .i64 0, .int .u64 0, .int .i64 0, .int .i64 0, .int .u64 0, .int .i64 0, .int .i64 0, .int .i64 0, .int .i64 0, .int .i64 0, .int .i64 0, .string ⟨#[]⟩] (by omega) ks1
      have bv1 : Below w.heap.size w v1 := B1 _ _ (by omega) bs1
      clear o1 B1 z1 ks1 es1 bs1
      have ne1 := kn ev1
      go_upto_region 5 with fail
      refine wp_region_lit ?_
      refine wpList_load_blk 29 (.tmp 3) u1.heap.size #[.int .i64 0, .int .i64 0, .int .i64 0, .int .u64 0, .int .u64 0, .int .u64 0, .int .u64 0, .int .i64 0, .int .u64 0, .int .i64 0, .int .i64 0, .int .u64 0, .int .i64 0, .int .i64 0, .int .i64 0, .int .i64 0, .int .i64 0, .int .i64 0, .string ⟨#[]⟩] kv1 _ rfl rfl rfl Tryd.underlying29 rfl (by kernel_rfl) ?_
      conv => arg 5; simp [Act.put]
      refine wpList_build_is 29 #[] #[.int .i64 0, .int .i64 0, .int .i64 0, .int .u64 0, .int .u64 0, .int .u64 0, .int .u64 0, .int .i64 0, .int .u64 0, .int .i64 0, .int .i64 0, .int .u64 0, .int .i64 0, .int .i64 0, .int .i64 0, .int .i64 0, .int .i64 0, .int .i64 0, .string ⟨#[]⟩] rfl rfl (by kernel_rfl) ?_
      conv => arg 5; simp [Act.put]
      clear ne1 kv1 ev1
      go_wp2_with (go_at_call 10; (with_reducible refine (ga.out _ (HH.out.on (by (repeat (first | (with_reducible assumption) | (with_reducible exact Below.refl _ _) | (with_reducible refine beld_drew ?_) | ((with_reducible refine bset' ?_ ?_); (first | (focus (dsimp only; assumption)) | (focus (simp; done)) | (focus (dsimp only; omega)))) | (with_reducible refine belt_alloc ?_) | ((with_reducible refine zeroed_below' ?_ ?_); (first | (focus (simp; done)) | (focus (dsimp only; omega)))) | (with_reducible refine bt ?_ (by assumption)))))) (HT.out.on (by (repeat (first | (with_reducible assumption) | (with_reducible exact Below.refl _ _) | (with_reducible refine beld_drew ?_) | ((with_reducible refine bset' ?_ ?_); (first | (focus (dsimp only; assumption)) | (focus (simp; done)) | (focus (dsimp only; omega)))) | (with_reducible refine belt_alloc ?_) | ((with_reducible refine zeroed_below' ?_ ?_); (first | (focus (simp; done)) | (focus (dsimp only; omega)))) | (with_reducible refine bt ?_ (by assumption))))))).mono ?_); rintro e wa ⟨rfl, ha⟩)
      go_ret
      exact ⟨rfl, by (repeat (first | (with_reducible assumption) | (with_reducible exact Below.refl _ _) | (with_reducible refine beld_drew ?_) | ((with_reducible refine bset' ?_ ?_); (first | (focus (dsimp only; assumption)) | (focus (simp; done)) | (focus (dsimp only; omega)))) | (with_reducible refine belt_alloc ?_) | ((with_reducible refine zeroed_below' ?_ ?_); (first | (focus (simp; done)) | (focus (dsimp only; omega)))) | (with_reducible refine bt ?_ (by assumption))))⟩
theorem frameOnly_walk (s : ByteArray) (hs : s.size ≤ maxLen) (w : World) (T0 : Lib.TabIs Tryd.prog w sumNm .u32 sumTab) (T1 : Lib.TabIs Tryd.prog w headsNm .u8 headsTab) :
    Calls Tryd.prog 4 #[.string s] w fun e w' => e = .returned (.bool true) ∧ Below w.heap.size w w' :=
  frameOnly_at s hs w (htab_of T1) (stab_of T0)
end Go.Proofs.YtaiofjffoboicaaDoor
