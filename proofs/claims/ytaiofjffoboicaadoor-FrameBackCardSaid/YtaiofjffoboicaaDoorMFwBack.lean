/- Parts of a proof, printed by a program of mine out of my texts: FwBack. -/
import Derived.Great.Walk
import Derived.OpenShut
import Derived.Deep.Cut
import Derived.Test.YtaiofjffoboicaaDoorMFrAwake
import Derived.Test.YtaiofjffoboicaaDoorMFwKit
import Derived.Test.YtaiofjffoboicaaDoorMMad
import Derived.Test.YtaiofjffoboicaaDoorMWk
import Derived.Test.YtaiofjffoboicaaDoorMX1
set_option linter.unusedSimpArgs false
set_option linter.unusedVariables false
namespace Go.Proofs.YtaiofjffoboicaaDoor
open Go.RowKit
set_option maxRecDepth 100000 in
set_option maxHeartbeats 1600000 in
theorem frameBack_at (n : Int) (w : World) (hH : HTab w) (hT : STab w) :
    Calls Tryd.prog 6 #[.int .i64 n] w fun e w' => e = .returned (.bool true) ∧ Below w.heap.size w w' := by
  have HH := Lib.hid hH; have HT := Lib.hid hT; clear hH hT
  have ga := Lib.hid awake_any
  go_enter Tryd.func6, Tryd.ntmps6
  go_upto_region 1 with fail
  refine wp_region_lit ?_
  refine Go.Great.wpList_readTo rfl (some 10) rfl (.int .i64 n) rfl ?_
  conv => arg 5; simp [Act.put]
  refine wpList_callR rfl (some 11) rfl 14 #[.int .i64 n] (by kernel_rfl) (fun v w' => ∃ F, frC F = 0 ∧ NN F ∧ v = frv F ∧ Below w.heap.size w w') ((made_any n w).mono ?_) ?_
  · rintro e w' ⟨F, h1, h2, rfl, h3⟩
    exact ⟨_, rfl, F, h1, h2, rfl, h3⟩
  rintro v w1 ⟨F, hok, hn, rfl, b1⟩
  conv => arg 5; simp [Act.put]
  have hda : F.da.size ≤ maxLen := da_of hok
  have hen : encF F = (sealS (bodyF F), 0) := by unfold encF; rw [if_pos hok]
  have hlen := encF_len F
  rw [hen] at hlen
  simp only at hlen
  obtain ⟨S, hS⟩ : ∃ S : ByteArray, (⟨(sealS (bodyF F)).toArray⟩ : ByteArray) = S := ⟨_, rfl⟩
  have hSl : S.data.toList = sealS (bodyF F) := by rw [← hS]
  have hSz : S.size = (sealS (bodyF F)).length := by rw [← hS]; exact bsize _
  have ge : ∀ w, HTab w → STab w → Calls Tryd.prog 13 #[.agg #[.int .i64 F.k, .int .i64 F.fr, .int .i64 F.to_, .int .u64 F.mi, .int .u64 F.yo, .int .u64 F.a, .int .u64 F.b, .int .i64 F.ino, .int .u64 F.isq, .int .i64 F.iof, .int .i64 F.bno, .int .u64 F.bsq, .int .i64 F.bof, .int .i64 F.bde, .int .i64 F.bpr, .int .i64 F.bbo, .int .i64 F.bli, .int .i64 F.bto, .string F.da]] w fun e w' => e = .returned (.tuple #[.string S, .int .i64 0]) ∧ Below w.heap.size w w' := fun w h t => by
    have := fencode_any F hda hn w h t
    unfold encV at this
    rw [hen] at this
    unfold bstr at this
    simp only [hS] at this
    exact this
  have gz : ∀ w, HTab w → STab w → Calls Tryd.prog 16 #[.agg #[.int .i64 F.k, .int .i64 F.fr, .int .i64 F.to_, .int .u64 F.mi, .int .u64 F.yo, .int .u64 F.a, .int .u64 F.b, .int .i64 F.ino, .int .u64 F.isq, .int .i64 F.iof, .int .i64 F.bno, .int .u64 F.bsq, .int .i64 F.bof, .int .i64 F.bde, .int .i64 F.bpr, .int .i64 F.bbo, .int .i64 F.bli, .int .i64 F.bto, .string F.da]] w fun e w' => e = .returned (.tuple #[.int .i64 S.size, .int .i64 0]) ∧ Below w.heap.size w w' := fun w h t => by
    have := fsize_any F hda hn w h t
    unfold sizeV at this
    rw [hen] at this
    simp only at this
    rw [← hSz] at this
    exact this
  have gd : ∀ w, HTab w → STab w → Calls Tryd.prog 11 #[.string S] w fun e w' => e = .returned (.tuple #[.agg #[.int .i64 F.k, .int .i64 F.fr, .int .i64 F.to_, .int .u64 F.mi, .int .u64 F.yo, .int .u64 F.a, .int .u64 F.b, .int .i64 F.ino, .int .u64 F.isq, .int .i64 F.iof, .int .i64 F.bno, .int .u64 F.bsq, .int .i64 F.bof, .int .i64 F.bde, .int .i64 F.bpr, .int .i64 F.bbo, .int .i64 F.bli, .int .i64 F.bto, .string F.da], .agg #[.int .i64 0, .int .i64 0]]) ∧ Below w.heap.size w w' := fun w h t => by
    have := fdec_any S (by unfold maxLen; omega) w h t
    rw [hSl, decFr_sm good_wrap, decFr_enc F hok hn] at this
    exact this
  have gc : ∀ w, Calls Tryd.prog 17 #[.agg #[.int .i64 F.k, .int .i64 F.fr, .int .i64 F.to_, .int .u64 F.mi, .int .u64 F.yo, .int .u64 F.a, .int .u64 F.b, .int .i64 F.ino, .int .u64 F.isq, .int .i64 F.iof, .int .i64 F.bno, .int .u64 F.bsq, .int .i64 F.bof, .int .i64 F.bde, .int .i64 F.bpr, .int .i64 F.bbo, .int .i64 F.bli, .int .i64 F.bto, .string F.da]] w fun e w' => e = .returned (.int .i64 0) ∧ Below w.heap.size w w' := fun w => by
    have := fcheck_any F hda hn.b.1 w
    rw [hok] at this
    exact this
  have E : ∀ w, Sem.run Tryd.prog (binOp BinOp.eql 29 (.agg #[.int .i64 F.k, .int .i64 F.fr, .int .i64 F.to_, .int .u64 F.mi, .int .u64 F.yo, .int .u64 F.a, .int .u64 F.b, .int .i64 F.ino, .int .u64 F.isq, .int .i64 F.iof, .int .i64 F.bno, .int .u64 F.bsq, .int .i64 F.bof, .int .i64 F.bde, .int .i64 F.bpr, .int .i64 F.bbo, .int .i64 F.bli, .int .i64 F.bto, .string F.da]) (.agg #[.int .i64 F.k, .int .i64 F.fr, .int .i64 F.to_, .int .u64 F.mi, .int .u64 F.yo, .int .u64 F.a, .int .u64 F.b, .int .i64 F.ino, .int .u64 F.isq, .int .i64 F.iof, .int .i64 F.bno, .int .u64 F.bsq, .int .i64 F.bof, .int .i64 F.bde, .int .i64 F.bpr, .int .i64 F.bbo, .int .i64 F.bli, .int .i64 F.bto, .string F.da])) w = .ok (.bool true) w := fun w => by
    have := run_frEq F F w
    rw [frEq_self] at this
    exact this
  have tl : decide ((S.size : Int) ≤ 1200) = true := decide_eq_true (by omega)
  replace ge := Lib.hid ge; replace gz := Lib.hid gz; replace gd := Lib.hid gd; replace gc := Lib.hid gc
  clear hok hn hda hen hlen hS hSl hSz
  refine Go.Great.wpList_allocTo rfl (some 3) rfl (.pointer (some ⟨w1.heap.size, 0, none⟩)) (.cells #[.int .i64 0, .int .i64 0, .int .i64 0, .int .u64 0, .int .u64 0, .int .u64 0, .int .u64 0, .int .i64 0, .int .u64 0, .int .i64 0, .int .i64 0, .int .u64 0, .int .i64 0, .int .i64 0, .int .i64 0, .int .i64 0, .int .i64 0, .int .i64 0, .string ⟨#[]⟩] 29) (by kernel_rfl) ?_
  conv => arg 5; simp [Act.put]
  refine wpList_store_blk 29 (.tmp 3) (.tmp 11) w1.heap.size #[.int .i64 0, .int .i64 0, .int .i64 0, .int .u64 0, .int .u64 0, .int .u64 0, .int .u64 0, .int .i64 0, .int .u64 0, .int .i64 0, .int .i64 0, .int .u64 0, .int .i64 0, .int .i64 0, .int .i64 0, .int .i64 0, .int .i64 0, .int .i64 0, .string ⟨#[]⟩] #[.int .i64 F.k, .int .i64 F.fr, .int .i64 F.to_, .int .u64 F.mi, .int .u64 F.yo, .int .u64 F.a, .int .u64 F.b, .int .i64 F.ino, .int .u64 F.isq, .int .i64 F.iof, .int .i64 F.bno, .int .u64 F.bsq, .int .i64 F.bof, .int .i64 F.bde, .int .i64 F.bpr, .int .i64 F.bbo, .int .i64 F.bli, .int .i64 F.bto, .string F.da] (blk_alloc_new _ _ _ rfl) rfl rfl rfl rfl (by kernel_rfl) rfl (by kernel_rfl) ?_
  intro w2 kF o2 B2 s2
  conv => arg 5; simp [Act.put]
  have b2 : Below w.heap.size w w2 := B2 _ _ b1.size (b1.alloc b1.size _)
  clear o2 B2 s2 b1
  go_upto_region 2 with fail
  refine wp_region_lit ?_
  refine wpList_load_blk 29 (.tmp 3) w1.heap.size #[.int .i64 F.k, .int .i64 F.fr, .int .i64 F.to_, .int .u64 F.mi, .int .u64 F.yo, .int .u64 F.a, .int .u64 F.b, .int .i64 F.ino, .int .u64 F.isq, .int .i64 F.iof, .int .i64 F.bno, .int .u64 F.bsq, .int .i64 F.bof, .int .i64 F.bde, .int .i64 F.bpr, .int .i64 F.bbo, .int .i64 F.bli, .int .i64 F.bto, .string F.da] kF _ rfl rfl rfl Tryd.underlying29 rfl (by kernel_rfl) ?_
  conv => arg 5; simp [Act.put]
  go_wp2_with fail
  (with_reducible refine (ge.out _ (HH.out.on b2) (HT.out.on b2)).mono ?_)
  rintro e w3 ⟨rfl, h3⟩
  replace kF := blk_below h3 kF
  replace b2 : Below w.heap.size w w3 := b2.trans (h3.mono b2.size)
  clear h3
  go_upto_region 3 with fail
  refine wp_region_lit ?_
  refine wpList_load_blk 29 (.tmp 3) w1.heap.size #[.int .i64 F.k, .int .i64 F.fr, .int .i64 F.to_, .int .u64 F.mi, .int .u64 F.yo, .int .u64 F.a, .int .u64 F.b, .int .i64 F.ino, .int .u64 F.isq, .int .i64 F.iof, .int .i64 F.bno, .int .u64 F.bsq, .int .i64 F.bof, .int .i64 F.bde, .int .i64 F.bpr, .int .i64 F.bbo, .int .i64 F.bli, .int .i64 F.bto, .string F.da] kF _ rfl rfl rfl Tryd.underlying29 rfl (by kernel_rfl) ?_
  conv => arg 5; simp [Act.put]
  go_wp2_with fail
  (with_reducible refine (gz.out _ (HH.out.on b2) (HT.out.on b2)).mono ?_)
  rintro e w4 ⟨rfl, h4⟩
  replace kF := blk_below h4 kF
  replace b2 : Below w.heap.size w w4 := b2.trans (h4.mono b2.size)
  clear h4
  go_upto_region 4 with fail
  refine wp_region_tail0 5 ?_
  intro W1 hE1 hN1
  have bW1 : Below w.heap.size w W1 := (by rw [hE1.out]; exact b2)
  have kFa1 : blk W1 w1.heap.size = some #[.int .i64 F.k, .int .i64 F.fr, .int .i64 F.to_, .int .u64 F.mi, .int .u64 F.yo, .int .u64 F.a, .int .u64 F.b, .int .i64 F.ino, .int .u64 F.isq, .int .i64 F.iof, .int .i64 F.bno, .int .u64 F.bsq, .int .i64 F.bof, .int .i64 F.bde, .int .i64 F.bpr, .int .i64 F.bbo, .int .i64 F.bli, .int .i64 F.bto, .string F.da] := (by rw [hE1.out]; exact kF)
  clear hE1 kF
  simp only [List.take_succ_cons, List.take_zero, List.drop_succ_cons, List.drop_zero]
  repeat (go_big_quiet_step ((go_at_call 11; (with_reducible refine Class.go _ (gd.out _ ?_ ?_)); exact HH.out.on (bt bW1 (Class.ok _)); exact HT.out.on (bt bW1 (Class.ok _)))))
  refine wpQuiet_nil ?_
  rintro _ ⟨x, rfl⟩
  have bb1 := bt bW1 x.ok
  have kFb1 := blk_below x.ok kFa1
  clear hN1 bW1 kFa1
  obtain ⟨u1, hu1⟩ : ∃ u, u = x.wd := ⟨_, rfl⟩
  rw [← hu1] at bb1 kFb1 ⊢
  clear hu1 x
  refine Go.Great.wpList_allocTo rfl (some 8) rfl (.pointer (some ⟨u1.heap.size, 0, none⟩)) (.cells #[.int .i64 0, .int .i64 0, .int .i64 0, .int .u64 0, .int .u64 0, .int .u64 0, .int .u64 0, .int .i64 0, .int .u64 0, .int .i64 0, .int .i64 0, .int .u64 0, .int .i64 0, .int .i64 0, .int .i64 0, .int .i64 0, .int .i64 0, .int .i64 0, .string ⟨#[]⟩] 29) (by kernel_rfl) ?_
  conv => arg 5; simp [Act.put]
  obtain ⟨y1, hy1⟩ : ∃ y, y = u1.alloc (.cells #[.int .i64 0, .int .i64 0, .int .i64 0, .int .u64 0, .int .u64 0, .int .u64 0, .int .u64 0, .int .i64 0, .int .u64 0, .int .i64 0, .int .i64 0, .int .u64 0, .int .i64 0, .int .i64 0, .int .i64 0, .int .i64 0, .int .i64 0, .int .i64 0, .string ⟨#[]⟩] 29) := ⟨_, rfl⟩
  have ky1 : blk y1 u1.heap.size = some #[.int .i64 0, .int .i64 0, .int .i64 0, .int .u64 0, .int .u64 0, .int .u64 0, .int .u64 0, .int .i64 0, .int .u64 0, .int .i64 0, .int .i64 0, .int .u64 0, .int .i64 0, .int .i64 0, .int .i64 0, .int .i64 0, .int .i64 0, .int .i64 0, .string ⟨#[]⟩] := (by rw [hy1]; exact blk_alloc_new _ _ _ rfl)
  have by1 : Below w.heap.size w y1 := (by rw [hy1]; exact bb1.alloc bb1.size _)
  have kFc1 : blk y1 w1.heap.size = some #[.int .i64 F.k, .int .i64 F.fr, .int .i64 F.to_, .int .u64 F.mi, .int .u64 F.yo, .int .u64 F.a, .int .u64 F.b, .int .i64 F.ino, .int .u64 F.isq, .int .i64 F.iof, .int .i64 F.bno, .int .u64 F.bsq, .int .i64 F.bof, .int .i64 F.bde, .int .i64 F.bpr, .int .i64 F.bbo, .int .i64 F.bli, .int .i64 F.bto, .string F.da] := (by rw [hy1]; exact blk_alloc kFb1 _)
  have kFl1 := blk_lt kFb1
  have hz1 := bb1.size
  rw [← hy1]
  clear hy1 bb1 kFb1
  have hl1 := blk_lt ky1
  refine Go.Great.wpList_allocTo rfl (some 9) rfl (.pointer (some ⟨y1.heap.size, 0, none⟩)) (.cells #[.int .i64 0, .int .i64 0] 32) (by kernel_rfl) ?_
  conv => arg 5; simp [Act.put]
  refine wpList_store_blk 29 (.tmp 8) (.tmp 25) u1.heap.size #[.int .i64 0, .int .i64 0, .int .i64 0, .int .u64 0, .int .u64 0, .int .u64 0, .int .u64 0, .int .i64 0, .int .u64 0, .int .i64 0, .int .i64 0, .int .u64 0, .int .i64 0, .int .i64 0, .int .i64 0, .int .i64 0, .int .i64 0, .int .i64 0, .string ⟨#[]⟩] #[.int .i64 F.k, .int .i64 F.fr, .int .i64 F.to_, .int .u64 F.mi, .int .u64 F.yo, .int .u64 F.a, .int .u64 F.b, .int .i64 F.ino, .int .u64 F.isq, .int .i64 F.iof, .int .i64 F.bno, .int .u64 F.bsq, .int .i64 F.bof, .int .i64 F.bde, .int .i64 F.bpr, .int .i64 F.bbo, .int .i64 F.bli, .int .i64 F.bto, .string F.da] (blk_alloc ky1 _) rfl rfl rfl rfl (by kernel_rfl) rfl (by kernel_rfl) ?_
  intro s1 ks1 o1 B1 z1
  conv => arg 5; simp [Act.put]
  have es1 := o1 y1.heap.size #[.int .i64 0, .int .i64 0] (by omega) (blk_alloc_new _ _ _ rfl)
  have bs1 : Below w.heap.size w s1 := B1 _ _ hz1 (by1.alloc by1.size _)
  have kFd1 := o1 w1.heap.size #[.int .i64 F.k, .int .i64 F.fr, .int .i64 F.to_, .int .u64 F.mi, .int .u64 F.yo, .int .u64 F.a, .int .u64 F.b, .int .i64 F.ino, .int .u64 F.isq, .int .i64 F.iof, .int .i64 F.bno, .int .u64 F.bsq, .int .i64 F.bof, .int .i64 F.bde, .int .i64 F.bpr, .int .i64 F.bbo, .int .i64 F.bli, .int .i64 F.bto, .string F.da] (by omega) (blk_alloc kFc1 _)
  clear o1 B1 z1 by1 ky1 kFc1
  refine wpList_store_blk 32 (.tmp 9) (.tmp 26) y1.heap.size #[.int .i64 0, .int .i64 0] #[.int .i64 0, .int .i64 0] es1 rfl rfl rfl rfl (by kernel_rfl) rfl (by kernel_rfl) ?_
  intro v1 ev1 o1 B1 z1
  conv => arg 5; simp [Act.put]
  have kv1 := o1 u1.heap.size #[.int .i64 F.k, .int .i64 F.fr, .int .i64 F.to_, .int .u64 F.mi, .int .u64 F.yo, .int .u64 F.a, .int .u64 F.b, .int .i64 F.ino, .int .u64 F.isq, .int .i64 F.iof, .int .i64 F.bno, .int .u64 F.bsq, .int .i64 F.bof, .int .i64 F.bde, .int .i64 F.bpr, .int .i64 F.bbo, .int .i64 F.bli, .int .i64 F.bto, .string F.da] (by omega) ks1
  have bv1 : Below w.heap.size w v1 := B1 _ _ (by omega) bs1
  have kF := o1 w1.heap.size #[.int .i64 F.k, .int .i64 F.fr, .int .i64 F.to_, .int .u64 F.mi, .int .u64 F.yo, .int .u64 F.a, .int .u64 F.b, .int .i64 F.ino, .int .u64 F.isq, .int .i64 F.iof, .int .i64 F.bno, .int .u64 F.bsq, .int .i64 F.bof, .int .i64 F.bde, .int .i64 F.bpr, .int .i64 F.bbo, .int .i64 F.bli, .int .i64 F.bto, .string F.da] (by omega) kFd1
  clear o1 B1 z1 ks1 es1 bs1 kFd1
  go_upto_region 5 with fail
  refine wp_region_in0 ?_
  intro W9 hE hN
  have q1 : blk W9 w1.heap.size = some #[.int .i64 F.k, .int .i64 F.fr, .int .i64 F.to_, .int .u64 F.mi, .int .u64 F.yo, .int .u64 F.a, .int .u64 F.b, .int .i64 F.ino, .int .u64 F.isq, .int .i64 F.iof, .int .i64 F.bno, .int .u64 F.bsq, .int .i64 F.bof, .int .i64 F.bde, .int .i64 F.bpr, .int .i64 F.bbo, .int .i64 F.bli, .int .i64 F.bto, .string F.da] := (by rw [hE.out]; exact kF)
  have q2 : blk W9 u1.heap.size = some #[.int .i64 F.k, .int .i64 F.fr, .int .i64 F.to_, .int .u64 F.mi, .int .u64 F.yo, .int .u64 F.a, .int .u64 F.b, .int .i64 F.ino, .int .u64 F.isq, .int .i64 F.iof, .int .i64 F.bno, .int .u64 F.bsq, .int .i64 F.bof, .int .i64 F.bde, .int .i64 F.bpr, .int .i64 F.bbo, .int .i64 F.bli, .int .i64 F.bto, .string F.da] := (by rw [hE.out]; exact kv1)
  have q3 : blk W9 y1.heap.size = some #[.int .i64 0, .int .i64 0] := (by rw [hE.out]; exact ev1)
  have q4 : Below w.heap.size w W9 := (by rw [hE.out]; exact bv1)
  have nf := calm_kn q3
  clear hE kF kv1 ev1 bv1 b2
  refine wpQuiet_load_blk 29 (.tmp 3) w1.heap.size #[.int .i64 F.k, .int .i64 F.fr, .int .i64 F.to_, .int .u64 F.mi, .int .u64 F.yo, .int .u64 F.a, .int .u64 F.b, .int .i64 F.ino, .int .u64 F.isq, .int .i64 F.iof, .int .i64 F.bno, .int .u64 F.bsq, .int .i64 F.bof, .int .i64 F.bde, .int .i64 F.bpr, .int .i64 F.bbo, .int .i64 F.bli, .int .i64 F.bto, .string F.da] (fun W hW => by obtain ⟨x, rfl⟩ := hW; exact blk_below x.ok q1) _ rfl rfl rfl Tryd.underlying29 rfl (by kernel_rfl) ?_
  conv => arg 6; simp [Act.put]
  refine wpQuiet_split 26 ?_
  simp only [List.take_succ_cons, List.take_zero, List.drop_succ_cons, List.drop_zero]
  repeat (go_big_quiet_step ((go_at_call 17; (with_reducible refine Class.go _ (gc.out _)))))
  refine wpQuiet_nil ?_
  refine wpQuiet_load_blkG 29 (.tmp 8) u1.heap.size #[.int .i64 F.k, .int .i64 F.fr, .int .i64 F.to_, .int .u64 F.mi, .int .u64 F.yo, .int .u64 F.a, .int .u64 F.b, .int .i64 F.ino, .int .u64 F.isq, .int .i64 F.iof, .int .i64 F.bno, .int .u64 F.bsq, .int .i64 F.bof, .int .i64 F.bde, .int .i64 F.bpr, .int .i64 F.bbo, .int .i64 F.bli, .int .i64 F.bto, .string F.da] (fun W hW => by obtain ⟨x, rfl⟩ := hW; exact blk_below x.ok q2) _ (by kernel_rfl) rfl rfl Tryd.underlying29 rfl (by kernel_rfl) ?_
  conv => arg 6; simp [Act.put]
  refine wpQuiet_load_blkG 29 (.tmp 3) w1.heap.size #[.int .i64 F.k, .int .i64 F.fr, .int .i64 F.to_, .int .u64 F.mi, .int .u64 F.yo, .int .u64 F.a, .int .u64 F.b, .int .i64 F.ino, .int .u64 F.isq, .int .i64 F.iof, .int .i64 F.bno, .int .u64 F.bsq, .int .i64 F.bof, .int .i64 F.bde, .int .i64 F.bpr, .int .i64 F.bbo, .int .i64 F.bli, .int .i64 F.bto, .string F.da] (fun W hW => by obtain ⟨x, rfl⟩ := hW; exact blk_below x.ok q1) _ (by kernel_rfl) rfl rfl Tryd.underlying29 rfl (by kernel_rfl) ?_
  conv => arg 6; simp [Act.put]
  repeat (go_big_quiet_step ((go_at_call 10; (with_reducible refine Class.go _ (ga.out _ ?_ ?_)); exact HH.out.on (bt q4 (Class.ok _)); exact HT.out.on (bt q4 (Class.ok _)))))
  refine wpQuiet_nil ?_
  rintro _ ⟨x, rfl⟩
  have b9 := bt q4 x.ok
  go_wp2
  go_ret
  exact ⟨rfl, b9⟩
theorem frameBack_walk (n : Int) (w : World) (T0 : Lib.TabIs Tryd.prog w sumNm .u32 sumTab) (T1 : Lib.TabIs Tryd.prog w headsNm .u8 headsTab) :
    Calls Tryd.prog 6 #[.int .i64 n] w fun e w' => e = .returned (.bool true) ∧ Below w.heap.size w w' :=
  frameBack_at n w (htab_of T1) (stab_of T0)
end Go.Proofs.YtaiofjffoboicaaDoor
