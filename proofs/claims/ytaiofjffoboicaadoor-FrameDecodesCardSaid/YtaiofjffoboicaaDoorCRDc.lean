/- Parts of a proof, printed by a program of mine out of my texts: FrRDec0, FrRDecP, FrRDec2, FrRDec3. -/
import Derived.Great.Walk
import Derived.Deep.Cut
import Derived.Test.YtaiofjffoboicaaDoorCDec
import Derived.Test.YtaiofjffoboicaaDoorCEq
import Derived.Test.YtaiofjffoboicaaDoorCFrChkAll
import Derived.Test.YtaiofjffoboicaaDoorCFrRefH
import Derived.Test.YtaiofjffoboicaaDoorCLaw
import Derived.Test.YtaiofjffoboicaaDoorCRRd
set_option linter.unusedSimpArgs false
set_option linter.unusedVariables false
namespace Go.Proofs.YtaiofjffoboicaaDoor
open Go.RowKit
theorem drop_two (s : ByteArray) (n : Nat) (hn : s.size = n + 2) : s.data.toList.drop n = [s[n],s[n + 1]]:=by
  have hl : s.data.toList.length = s.size:=by simp
  have h1 : n < s.data.toList.length:=by omega
  have h2 : n + 1 < s.data.toList.length:=by omega
  rw [List.drop_eq_getElem_cons h1,List.drop_eq_getElem_cons h2,List.drop_eq_nil_of_le (by omega)]
  rfl
theorem seal_two {c : Nat} (hc : c < 65536) (b1 b2 : UInt8) : [b1,b2] = two c ↔ b1.toNat = c / 256 ∧ b2.toNat = c % 256:=by
  unfold two
  simp only [List.cons.injEq,and_true]
  constructor
  · rintro ⟨h1,h2⟩
    rw [h1,h2,UInt8.toNat_ofNat',UInt8.toNat_ofNat']
    refine ⟨?_,?_⟩ <;> omega
  · rintro ⟨h1,h2⟩
    constructor
    · apply UInt8.toNat.inj;simp only [UInt8.toNat_ofNat'];omega
    · apply UInt8.toNat.inj;simp only [UInt8.toNat_ofNat'];omega
set_option maxRecDepth 100000 in
set_option maxHeartbeats 1600000 in
theorem rdec_long (s : ByteArray) (h : 1200 < s.size) (hs : s.size ≤ maxLen) (w : World) : Calls Tryd.prog 12 #[.string s] w fun e w' => e = .returned (.tuple #[.agg zF,.agg #[.int .i64 4,.int .i64 1200]]) ∧ Below w.heap.size w w':=by
  unfold maxLen at hs
  have t1 : decide ((1200 : Int) < s.size) = true:=decide_eq_true (by omega)
  go_enter Tryd.func12,Tryd.ntmps12
  go_upto_region 2 with fail
  refine wp_region_lit ?_
  refine wpList_build_is 29 #[] zF rfl rfl (by kernel_rfl) ?_
  conv => arg 5;simp [Act.put]
  refine wpList_build_is 32 _ #[.int .i64 4,.int .i64 1200] rfl rfl (by kernel_rfl) ?_
  conv => arg 5;simp [Act.put]
  have kz1 : blk ((w.alloc (.cells zF 29)).alloc (.cells #[.int .i64 0,.int .i64 0] 32)) w.heap.size = some zF:=(by (apply jt;(focus repeat(first|(with_reducible first|assumption|apply jd|apply js)|((with_reducible apply jo);first|focus(dsimp only;assumption)|focus(simp;done)|focus(dsimp only;omega))|((with_reducible apply jn);first|with_reducible rfl|focus(simp;done)|focus(simp;omega))|(with_reducible apply ja)|((with_reducible apply jb);with_reducible assumption)));rfl))
  have kf1 : blk ((w.alloc (.cells zF 29)).alloc (.cells #[.int .i64 0,.int .i64 0] 32)) (w.heap.size + 1) = some #[.int .i64 0,.int .i64 0]:=(by (apply jt;(focus repeat(first|(with_reducible first|assumption|apply jd|apply js)|((with_reducible apply jo);first|focus(dsimp only;assumption)|focus(simp;done)|focus(dsimp only;omega))|((with_reducible apply jn);first|with_reducible rfl|focus(simp;done)|focus(simp;omega))|(with_reducible apply ja)|((with_reducible apply jb);with_reducible assumption)));rfl))
  have hw1 : Below w.heap.size w ((w.alloc (.cells zF 29)).alloc (.cells #[.int .i64 0,.int .i64 0] 32)):=(by (repeat(first|(with_reducible first|assumption|exact Below.refl _ _|refine je ?_|refine jl ?_)|((with_reducible refine jp ?_ ?_);first|focus(dsimp only;assumption)|focus(simp;done)|focus(dsimp only;omega))|(with_reducible refine bt ?_ (by assumption)))))
  refine wpList_store_blk 29 (.tmp 2) (.tmp 13) w.heap.size zF zF kz1 rfl rfl rfl rfl (by kernel_rfl) rfl (by kernel_rfl) ?_
  intro w5 kb5 o5 B5 s5
  conv => arg 5;simp [Act.put]
  have kf5:=o5 (w.heap.size + 1) #[.int .i64 0,.int .i64 0] (by omega) kf1
  have hw5 : Below w.heap.size w w5:=B5 _ _ (Nat.le_refl _) hw1
  clear o5 B5 s5
  refine wpList_store_blk 32 (.tmp 3) (.tmp 14) (w.heap.size + 1) #[.int .i64 0,.int .i64 0] #[.int .i64 4,.int .i64 1200] kf5 rfl rfl rfl rfl (by kernel_rfl) rfl (by kernel_rfl) ?_
  intro w6 kb6 o6 B6 s6
  conv => arg 5;simp [Act.put]
  have kf6:=o6 w.heap.size zF (by omega) kb5
  have hw6 : Below w.heap.size w w6:=B6 _ _ (by omega) hw5
  clear o6 B6 s6 kb5 kf5 hw5
  go_wp2
  refine ret_row2 2 3 29 32 _ _ kf6 kb6 rfl rfl Tryd.underlying29 rfl (by kernel_rfl) rfl Tryd.underlying32 rfl (by kernel_rfl) rfl ⟨rfl,hw6⟩
set_option maxRecDepth 100000 in
set_option maxHeartbeats 1600000 in
theorem rdec_short (s : ByteArray) (h : s.size < 3) (w : World) : Calls Tryd.prog 12 #[.string s] w fun e w' => e = .returned (.tuple #[.agg zF,.agg #[.int .i64 11,.int .i64 s.size]]) ∧ Below w.heap.size w w':=by
  have t1 : decide ((1200 : Int) < s.size) = false:=decide_eq_false (by omega)
  have t2 : decide ((s.size : Int) < 3) = true:=decide_eq_true (by omega)
  go_enter Tryd.func12,Tryd.ntmps12
  go_upto_region 4 with fail
  refine wp_region_tail0 4 ?_
  intro W0 hE hN
  have kz0 : blk W0 w.heap.size = some zF:=(by rw [hE.out];(apply jt;(focus repeat(first|(with_reducible first|assumption|apply jd|apply js)|((with_reducible apply jo);first|focus(dsimp only;assumption)|focus(simp;done)|focus(dsimp only;omega))|((with_reducible apply jn);first|with_reducible rfl|focus(simp;done)|focus(simp;omega))|(with_reducible apply ja)|((with_reducible apply jb);with_reducible assumption)));rfl))
  have kf0 : blk W0 (w.heap.size + 1) = some #[.int .i64 0,.int .i64 0]:=(by rw [hE.out];(apply jt;(focus repeat(first|(with_reducible first|assumption|apply jd|apply js)|((with_reducible apply jo);first|focus(dsimp only;assumption)|focus(simp;done)|focus(dsimp only;omega))|((with_reducible apply jn);first|with_reducible rfl|focus(simp;done)|focus(simp;omega))|(with_reducible apply ja)|((with_reducible apply jb);with_reducible assumption)));rfl))
  have hw0 : Below w.heap.size w W0:=(by rw [hE.out];(repeat(first|(with_reducible first|assumption|exact Below.refl _ _|refine je ?_|refine jl ?_)|((with_reducible refine jp ?_ ?_);first|focus(dsimp only;assumption)|focus(simp;done)|focus(dsimp only;omega))|(with_reducible refine bt ?_ (by assumption)))))
  clear hE
  simp only [List.take_succ_cons,List.take_zero,List.drop_succ_cons,List.drop_zero]
  refine wpQuiet_build_is 29 #[] zF rfl rfl (by kernel_rfl) ?_
  conv => arg 6;simp [Act.put]
  repeat (go_big_quiet_step (fail))
  refine wpQuiet_nil ?_
  rintro _ ⟨x,rfl⟩
  have kz1:=blk_below x.ok kz0
  have kf1:=blk_below x.ok kf0
  have hw1 : Below w.heap.size w x.wd:=hw0.trans (x.ok.mono hw0.size)
  clear kz0 kf0 hw0
  refine wpList_store_blk 29 (.tmp 2) (.tmp 19) w.heap.size zF zF kz1 rfl rfl rfl rfl (by kernel_rfl) rfl (by kernel_rfl) ?_
  intro w5 kb5 o5 B5 s5
  conv => arg 5;simp [Act.put]
  have kf5:=o5 (w.heap.size + 1) #[.int .i64 0,.int .i64 0] (by omega) kf1
  have hw5 : Below w.heap.size w w5:=B5 _ _ (Nat.le_refl _) hw1
  clear o5 B5 s5
  refine wpList_store_blk 32 (.tmp 3) (.tmp 22) (w.heap.size + 1) #[.int .i64 0,.int .i64 0] #[.int .i64 11,.int .i64 s.size] kf5 rfl rfl rfl rfl (by kernel_rfl) rfl (by kernel_rfl) ?_
  intro w6 kb6 o6 B6 s6
  conv => arg 5;simp [Act.put]
  have kf6:=o6 w.heap.size zF (by omega) kb5
  have hw6 : Below w.heap.size w w6:=B6 _ _ (by omega) hw5
  clear o6 B6 s6 kb5 kf5 hw5
  go_wp2
  refine ret_row2 2 3 29 32 _ _ kf6 kb6 rfl rfl Tryd.underlying29 rfl (by kernel_rfl) rfl Tryd.underlying32 rfl (by kernel_rfl) rfl ⟨rfl,hw6⟩
set_option maxRecDepth 100000 in
set_option maxHeartbeats 1600000 in
theorem rdec_sum (s : ByteArray) (n : Nat) (hn : s.size = n + 2) (h1 : 1 ≤ n) (h2 : s.size ≤ 1200) (h : sealedS s.data.toList n = false) (B : ByteArray) (hB : s.extract 0 n = B) (w : World) : Calls Tryd.prog 12 #[.string s] w fun e w' => e = .returned (.tuple #[.agg zF,.agg #[.int .i64 10,.int .i64 n]]) ∧ Below w.heap.size w w':=by
  have t1 : decide ((1200 : Int) < s.size) = false:=decide_eq_false (by omega)
  have t2 : decide ((s.size : Int) < 3) = false:=decide_eq_false (by omega)
  have hcl:=crsN_lt B.data.toList
  have hbl : B.data.toList = s.data.toList.take n:=by rw [← hB];simp
  have hBz : B.size ≤ 1000000:=by rw [← hB];simp;omega
  have gc:=fun w => refCrc16_any B hBz w
  obtain ⟨b1,hb1⟩ : ∃ b,b = s[n]:=⟨_,rfl⟩
  obtain ⟨b2,hb2⟩ : ∃ b,b = s[n + 1]:=⟨_,rfl⟩
  have hdr : s.data.toList.drop n = [b1,b2]:=by rw [hb1,hb2];exact drop_two s n hn
  have hiff:=seal_two (c:=crsN B.data.toList) hcl b1 b2
  have hS:=h
  unfold sealedS at hS
  rw [hdr,← hbl] at hS
  obtain ⟨c,hc⟩ : ∃ c,crsN B.data.toList = c:=⟨_,rfl⟩
  rw [hc] at gc hcl hiff hS
  have hc8 : IntKind.u8.wrap ((c : Int) / 256) = (c : Int) / 256:=by rw [IntKind.wrap_u8] <;> omega
  have hc1 : IntKind.u8.wrap (c : Int) = (c : Int) % 256:=by rw [IntKind.wrap_u8] <;> omega
  have hss : (s.size : Int) = (n : Int) + 2:=by omega
  have hq1 : s.size - 2 = n:=by omega
  have hq2 : s.size - 1 = n + 1:=by omega
  have hne : ¬ (b1.toNat = c / 256 ∧ b2.toNat = c % 256):=fun hh => by rw [decide_eq_true (hiff.2 hh)] at hS;exact absurd hS (by decide)
  replace gc:=Lib.hid gc
  clear hS h hiff hdr hbl hcl hc hBz
  by_cases q1 : b1.toNat = c / 256
  · have q2 : ¬ b2.toNat = c % 256:=fun hh => hne ⟨q1,hh⟩
    have x1 : (((s[n]).toNat : Int) != (c : Int) / 256) = false:=by rw [← hb1];simp only [bne_eq_false_iff_eq] <;> omega
    have x2 : (((s[n + 1]).toNat : Int) != (c : Int) % 256) = true:=by rw [← hb2];simp only [bne_iff_ne,ne_eq] <;> omega
    clear q1 q2 hne hb1 hb2
    go_enter Tryd.func12,Tryd.ntmps12
    go_upto_region 8 with (go_at_call 30;(with_reducible refine (gc.out _).mono ?_);rintro e wx ⟨rfl,rfl⟩)
    refine wp_region_tail0 5 ?_
    intro W0 hE hN
    have kz0 : blk W0 w.heap.size = some zF:=(by rw [hE.out];(apply jt;(focus repeat(first|(with_reducible first|assumption|apply jd|apply js)|((with_reducible apply jo);first|focus(dsimp only;assumption)|focus(simp;done)|focus(dsimp only;omega))|((with_reducible apply jn);first|with_reducible rfl|focus(simp;done)|focus(simp;omega))|(with_reducible apply ja)|((with_reducible apply jb);with_reducible assumption)));rfl))
    have kf0 : blk W0 (w.heap.size + 1) = some #[.int .i64 0,.int .i64 0]:=(by rw [hE.out];(apply jt;(focus repeat(first|(with_reducible first|assumption|apply jd|apply js)|((with_reducible apply jo);first|focus(dsimp only;assumption)|focus(simp;done)|focus(dsimp only;omega))|((with_reducible apply jn);first|with_reducible rfl|focus(simp;done)|focus(simp;omega))|(with_reducible apply ja)|((with_reducible apply jb);with_reducible assumption)));rfl))
    have hw0 : Below w.heap.size w W0:=(by rw [hE.out];(repeat(first|(with_reducible first|assumption|exact Below.refl _ _|refine je ?_|refine jl ?_)|((with_reducible refine jp ?_ ?_);first|focus(dsimp only;assumption)|focus(simp;done)|focus(dsimp only;omega))|(with_reducible refine bt ?_ (by assumption)))))
    clear hE
    simp only [List.take_succ_cons,List.take_zero,List.drop_succ_cons,List.drop_zero]
    refine wpQuiet_build_is 29 #[] zF rfl rfl (by kernel_rfl) ?_
    conv => arg 6;simp [Act.put]
    repeat (go_big_quiet_step (fail))
    refine wpQuiet_nil ?_
    rintro _ ⟨x,rfl⟩
    have kz1:=blk_below x.ok kz0
    have kf1:=blk_below x.ok kf0
    have hw1 : Below w.heap.size w x.wd:=hw0.trans (x.ok.mono hw0.size)
    clear kz0 kf0 hw0
    refine wpList_store_blk 29 (.tmp 2) (.tmp 49) w.heap.size zF zF kz1 rfl rfl rfl rfl (by kernel_rfl) rfl (by kernel_rfl) ?_
    intro w5 kb5 o5 B5 s5
    conv => arg 5;simp [Act.put]
    have kf5:=o5 (w.heap.size + 1) #[.int .i64 0,.int .i64 0] (by omega) kf1
    have hw5 : Below w.heap.size w w5:=B5 _ _ (Nat.le_refl _) hw1
    clear o5 B5 s5
    refine wpList_store_blk 32 (.tmp 3) (.tmp 53) (w.heap.size + 1) #[.int .i64 0,.int .i64 0] #[.int .i64 10,.int .i64 n] kf5 rfl rfl rfl rfl (by kernel_rfl) rfl (by kernel_rfl) ?_
    intro w6 kb6 o6 B6 s6
    conv => arg 5;simp [Act.put]
    have kf6:=o6 w.heap.size zF (by omega) kb5
    have hw6 : Below w.heap.size w w6:=B6 _ _ (by omega) hw5
    clear o6 B6 s6 kb5 kf5 hw5
    go_wp2
    refine ret_row2 2 3 29 32 _ _ kf6 kb6 rfl rfl Tryd.underlying29 rfl (by kernel_rfl) rfl Tryd.underlying32 rfl (by kernel_rfl) rfl ⟨rfl,hw6⟩
  · have x1 : (((s[n]).toNat : Int) != (c : Int) / 256) = true:=by rw [← hb1];simp only [bne_iff_ne,ne_eq] <;> omega
    clear q1 hne hb1 hb2
    go_enter Tryd.func12,Tryd.ntmps12
    go_upto_region 8 with (go_at_call 30;(with_reducible refine (gc.out _).mono ?_);rintro e wx ⟨rfl,rfl⟩)
    refine wp_region_tail0 5 ?_
    intro W0 hE hN
    have kz0 : blk W0 w.heap.size = some zF:=(by rw [hE.out];(apply jt;(focus repeat(first|(with_reducible first|assumption|apply jd|apply js)|((with_reducible apply jo);first|focus(dsimp only;assumption)|focus(simp;done)|focus(dsimp only;omega))|((with_reducible apply jn);first|with_reducible rfl|focus(simp;done)|focus(simp;omega))|(with_reducible apply ja)|((with_reducible apply jb);with_reducible assumption)));rfl))
    have kf0 : blk W0 (w.heap.size + 1) = some #[.int .i64 0,.int .i64 0]:=(by rw [hE.out];(apply jt;(focus repeat(first|(with_reducible first|assumption|apply jd|apply js)|((with_reducible apply jo);first|focus(dsimp only;assumption)|focus(simp;done)|focus(dsimp only;omega))|((with_reducible apply jn);first|with_reducible rfl|focus(simp;done)|focus(simp;omega))|(with_reducible apply ja)|((with_reducible apply jb);with_reducible assumption)));rfl))
    have hw0 : Below w.heap.size w W0:=(by rw [hE.out];(repeat(first|(with_reducible first|assumption|exact Below.refl _ _|refine je ?_|refine jl ?_)|((with_reducible refine jp ?_ ?_);first|focus(dsimp only;assumption)|focus(simp;done)|focus(dsimp only;omega))|(with_reducible refine bt ?_ (by assumption)))))
    clear hE
    simp only [List.take_succ_cons,List.take_zero,List.drop_succ_cons,List.drop_zero]
    refine wpQuiet_build_is 29 #[] zF rfl rfl (by kernel_rfl) ?_
    conv => arg 6;simp [Act.put]
    repeat (go_big_quiet_step (fail))
    refine wpQuiet_nil ?_
    rintro _ ⟨x,rfl⟩
    have kz1:=blk_below x.ok kz0
    have kf1:=blk_below x.ok kf0
    have hw1 : Below w.heap.size w x.wd:=hw0.trans (x.ok.mono hw0.size)
    clear kz0 kf0 hw0
    refine wpList_store_blk 29 (.tmp 2) (.tmp 49) w.heap.size zF zF kz1 rfl rfl rfl rfl (by kernel_rfl) rfl (by kernel_rfl) ?_
    intro w5 kb5 o5 B5 s5
    conv => arg 5;simp [Act.put]
    have kf5:=o5 (w.heap.size + 1) #[.int .i64 0,.int .i64 0] (by omega) kf1
    have hw5 : Below w.heap.size w w5:=B5 _ _ (Nat.le_refl _) hw1
    clear o5 B5 s5
    refine wpList_store_blk 32 (.tmp 3) (.tmp 53) (w.heap.size + 1) #[.int .i64 0,.int .i64 0] #[.int .i64 10,.int .i64 n] kf5 rfl rfl rfl rfl (by kernel_rfl) rfl (by kernel_rfl) ?_
    intro w6 kb6 o6 B6 s6
    conv => arg 5;simp [Act.put]
    have kf6:=o6 w.heap.size zF (by omega) kb5
    have hw6 : Below w.heap.size w w6:=B6 _ _ (by omega) hw5
    clear o6 B6 s6 kb5 kf5 hw5
    go_wp2
    refine ret_row2 2 3 29 32 _ _ kf6 kb6 rfl rfl Tryd.underlying29 rfl (by kernel_rfl) rfl Tryd.underlying32 rfl (by kernel_rfl) rfl ⟨rfl,hw6⟩
theorem first_byte (s : ByteArray) (n : Nat) (B : ByteArray) (hB : s.extract 0 n = B) (hBs : 0 < B.size) (hs : 0 < s.size) : s[0] = B[0]:=by
  subst hB
  simp [ByteArray.getElem_extract]
set_option maxRecDepth 100000 in
set_option maxHeartbeats 1600000 in
theorem rdec_klo (s : ByteArray) (n : Nat) (hn : s.size = n + 2) (h1 : 1 ≤ n) (h2 : s.size ≤ 1200) (h : sealedS s.data.toList n = true) (k : Nat) (w : World) (B : ByteArray) (hB : s.extract 0 n = B) (hBs : 0 < B.size) (hk0 : (B[0]).toNat = k) (hk : k < 1) : Calls Tryd.prog 12 #[.string s] w fun e w' => e = .returned (.tuple #[.agg zF,.agg #[.int .i64 7,.int .i64 0]]) ∧ Below w.heap.size w w':=by
  have tk : decide ((k : Int) < 1) = true:=decide_eq_true (by omega)
  have t1 : decide ((1200 : Int) < s.size) = false:=decide_eq_false (by omega)
  have t2 : decide ((s.size : Int) < 3) = false:=decide_eq_false (by omega)
  have hcl:=crsN_lt B.data.toList
  have hbl : B.data.toList = s.data.toList.take n:=by rw [← hB];simp
  have hBz : B.size ≤ 1000000:=by rw [← hB];simp;omega
  have gc:=fun w => refCrc16_any B hBz w
  obtain ⟨b1,hb1⟩ : ∃ b,b = s[n]:=⟨_,rfl⟩
  obtain ⟨b2,hb2⟩ : ∃ b,b = s[n + 1]:=⟨_,rfl⟩
  have hdr : s.data.toList.drop n = [b1,b2]:=by rw [hb1,hb2];exact drop_two s n hn
  have hiff:=seal_two (c:=crsN B.data.toList) hcl b1 b2
  have hS:=h
  unfold sealedS at hS
  rw [hdr,← hbl] at hS
  obtain ⟨c,hc⟩ : ∃ c,crsN B.data.toList = c:=⟨_,rfl⟩
  rw [hc] at gc hcl hiff hS
  have hc8 : IntKind.u8.wrap ((c : Int) / 256) = (c : Int) / 256:=by rw [IntKind.wrap_u8] <;> omega
  have hc1 : IntKind.u8.wrap (c : Int) = (c : Int) % 256:=by rw [IntKind.wrap_u8] <;> omega
  have hss : (s.size : Int) = (n : Int) + 2:=by omega
  have hq1 : s.size - 2 = n:=by omega
  have hq2 : s.size - 1 = n + 1:=by omega
  have hh:=hiff.1 (by simpa using hS)
  have x1 : (((s[n]).toNat : Int) != (c : Int) / 256) = false:=by rw [← hb1];simp only [bne_eq_false_iff_eq] <;> omega
  have x2 : (((s[n + 1]).toNat : Int) != (c : Int) % 256) = false:=by rw [← hb2];simp only [bne_eq_false_iff_eq] <;> omega
  have hk1 : (s[0]).toNat = k:=by rw [← hk0];congr 1;exact first_byte s n B hB hBs (by omega)
  have hk2 : k < 256:=by rw [← hk1];exact UInt8.toNat_lt _
  replace gc:=Lib.hid gc
  clear hS h hiff hdr hbl hcl hc hBz hb1 hb2 hh
  have HB0:=Lib.hid hk0;clear hk0
  go_enter Tryd.func12,Tryd.ntmps12
  go_upto_region 9 with (go_at_call 30;(with_reducible refine (gc.out _).mono ?_);rintro e wx ⟨rfl,rfl⟩)
  refine wp_region_tail0 3 ?_
  intro W0 hE hN
  have kz0 : blk W0 w.heap.size = some zF:=(by rw [hE.out];(apply jt;(focus repeat(first|(with_reducible first|assumption|apply jd|apply js)|((with_reducible apply jo);first|focus(dsimp only;assumption)|focus(simp;done)|focus(dsimp only;omega))|((with_reducible apply jn);first|with_reducible rfl|focus(simp;done)|focus(simp;omega))|(with_reducible apply ja)|((with_reducible apply jb);with_reducible assumption)));rfl))
  have kf0 : blk W0 (w.heap.size + 1) = some #[.int .i64 0,.int .i64 0]:=(by rw [hE.out];(apply jt;(focus repeat(first|(with_reducible first|assumption|apply jd|apply js)|((with_reducible apply jo);first|focus(dsimp only;assumption)|focus(simp;done)|focus(dsimp only;omega))|((with_reducible apply jn);first|with_reducible rfl|focus(simp;done)|focus(simp;omega))|(with_reducible apply ja)|((with_reducible apply jb);with_reducible assumption)));rfl))
  have hw0 : Below w.heap.size w W0:=(by rw [hE.out];(repeat(first|(with_reducible first|assumption|exact Below.refl _ _|refine je ?_|refine jl ?_)|((with_reducible refine jp ?_ ?_);first|focus(dsimp only;assumption)|focus(simp;done)|focus(dsimp only;omega))|(with_reducible refine bt ?_ (by assumption)))))
  clear hE
  simp only [List.take_succ_cons,List.take_zero,List.drop_succ_cons,List.drop_zero]
  repeat (go_big_quiet_step (fail))
  refine wpQuiet_nil ?_
  rintro _ ⟨x,rfl⟩
  have kz1:=blk_below x.ok kz0
  have kf1:=blk_below x.ok kf0
  have hw1 : Below w.heap.size w x.wd:=hw0.trans (x.ok.mono hw0.size)
  clear kz0 kf0 hw0 hN
  obtain ⟨w2,hw2⟩ : ∃ w2,w2 = x.wd:=⟨_,rfl⟩
  rw [← hw2] at kz1 kf1 hw1 ⊢
  clear hw2 x
  have hTz : w.heap.size + 2 ≤ w2.heap.size:=by have:=blk_lt kf1;omega
  refine wpList_build_is 29 _ #[.int .i64 k,.int .i64 0,.int .i64 0,.int .u64 0,.int .u64 0,.int .u64 0,.int .u64 0,.int .i64 0,.int .u64 0,.int .i64 0,.int .i64 0,.int .u64 0,.int .i64 0,.int .i64 0,.int .i64 0,.int .i64 0,.int .i64 0,.int .i64 0,.string ⟨#[]⟩] rfl rfl (by kernel_rfl) ?_
  conv => arg 5;simp [Act.put]
  refine Go.Great.wpList_allocTo rfl (some 6) rfl (.pointer (some ⟨w2.heap.size,0,none⟩)) (.cells zF 29) (by kernel_rfl) ?_
  conv => arg 5;simp [Act.put]
  refine wpList_store_blk 29 (.tmp 6) (.tmp 57) w2.heap.size zF #[.int .i64 k,.int .i64 0,.int .i64 0,.int .u64 0,.int .u64 0,.int .u64 0,.int .u64 0,.int .i64 0,.int .u64 0,.int .i64 0,.int .i64 0,.int .u64 0,.int .i64 0,.int .i64 0,.int .i64 0,.int .i64 0,.int .i64 0,.int .i64 0,.string ⟨#[]⟩] (blk_alloc_new _ _ _ rfl) rfl rfl rfl rfl (by kernel_rfl) rfl (by kernel_rfl) ?_
  intro w3 k3 o3 B3 s3
  conv => arg 5;simp [Act.put]
  have kz3:=o3 w.heap.size zF (by have:=blk_lt kz1;omega) (blk_alloc kz1 _)
  have kf3:=o3 (w.heap.size + 1) #[.int .i64 0,.int .i64 0] (by have:=blk_lt kf1;omega) (blk_alloc kf1 _)
  have hw3 : Below w.heap.size w w3:=B3 _ _ hw1.size (hw1.alloc hw1.size _)
  clear o3 B3 kz1 kf1 hw1 s3
  have nk:=kn k3
  clear hk
  go_upto_region 11 with fail
  refine wp_region_lit ?_
  refine wpList_build_is 29 #[] zF rfl rfl (by kernel_rfl) ?_
  conv => arg 5;simp [Act.put]
  refine wpList_build_is 32 _ #[.int .i64 7,.int .i64 0] rfl rfl (by kernel_rfl) ?_
  conv => arg 5;simp [Act.put]
  refine wpList_store_blk 29 (.tmp 2) (.tmp 66) w.heap.size zF zF kz3 rfl rfl rfl rfl (by kernel_rfl) rfl (by kernel_rfl) ?_
  intro w5 kb5 o5 B5 s5
  conv => arg 5;simp [Act.put]
  have kf5:=o5 (w.heap.size + 1) #[.int .i64 0,.int .i64 0] (by omega) kf3
  have hw5 : Below w.heap.size w w5:=B5 _ _ (Nat.le_refl _) hw3
  clear o5 B5 s5
  refine wpList_store_blk 32 (.tmp 3) (.tmp 67) (w.heap.size + 1) #[.int .i64 0,.int .i64 0] #[.int .i64 7,.int .i64 0] kf5 rfl rfl rfl rfl (by kernel_rfl) rfl (by kernel_rfl) ?_
  intro w6 kb6 o6 B6 s6
  conv => arg 5;simp [Act.put]
  have kf6:=o6 w.heap.size zF (by omega) kb5
  have hw6 : Below w.heap.size w w6:=B6 _ _ (by omega) hw5
  clear o6 B6 s6 kb5 kf5 hw5
  go_wp2
  refine ret_row2 2 3 29 32 _ _ kf6 kb6 rfl rfl Tryd.underlying29 rfl (by kernel_rfl) rfl Tryd.underlying32 rfl (by kernel_rfl) rfl ⟨rfl,hw6⟩
set_option maxRecDepth 100000 in
set_option maxHeartbeats 1600000 in
theorem rdec_khi (s : ByteArray) (n : Nat) (hn : s.size = n + 2) (h1 : 1 ≤ n) (h2 : s.size ≤ 1200) (h : sealedS s.data.toList n = true) (k : Nat) (w : World) (B : ByteArray) (hB : s.extract 0 n = B) (hBs : 0 < B.size) (hk0 : (B[0]).toNat = k) (hk : 7 < k) : Calls Tryd.prog 12 #[.string s] w fun e w' => e = .returned (.tuple #[.agg zF,.agg #[.int .i64 7,.int .i64 0]]) ∧ Below w.heap.size w w':=by
  have tk : decide ((k : Int) < 1) = false:=decide_eq_false (by omega)
  have tk2 : decide (7 < (k : Int)) = true:=decide_eq_true (by omega)
  have t1 : decide ((1200 : Int) < s.size) = false:=decide_eq_false (by omega)
  have t2 : decide ((s.size : Int) < 3) = false:=decide_eq_false (by omega)
  have hcl:=crsN_lt B.data.toList
  have hbl : B.data.toList = s.data.toList.take n:=by rw [← hB];simp
  have hBz : B.size ≤ 1000000:=by rw [← hB];simp;omega
  have gc:=fun w => refCrc16_any B hBz w
  obtain ⟨b1,hb1⟩ : ∃ b,b = s[n]:=⟨_,rfl⟩
  obtain ⟨b2,hb2⟩ : ∃ b,b = s[n + 1]:=⟨_,rfl⟩
  have hdr : s.data.toList.drop n = [b1,b2]:=by rw [hb1,hb2];exact drop_two s n hn
  have hiff:=seal_two (c:=crsN B.data.toList) hcl b1 b2
  have hS:=h
  unfold sealedS at hS
  rw [hdr,← hbl] at hS
  obtain ⟨c,hc⟩ : ∃ c,crsN B.data.toList = c:=⟨_,rfl⟩
  rw [hc] at gc hcl hiff hS
  have hc8 : IntKind.u8.wrap ((c : Int) / 256) = (c : Int) / 256:=by rw [IntKind.wrap_u8] <;> omega
  have hc1 : IntKind.u8.wrap (c : Int) = (c : Int) % 256:=by rw [IntKind.wrap_u8] <;> omega
  have hss : (s.size : Int) = (n : Int) + 2:=by omega
  have hq1 : s.size - 2 = n:=by omega
  have hq2 : s.size - 1 = n + 1:=by omega
  have hh:=hiff.1 (by simpa using hS)
  have x1 : (((s[n]).toNat : Int) != (c : Int) / 256) = false:=by rw [← hb1];simp only [bne_eq_false_iff_eq] <;> omega
  have x2 : (((s[n + 1]).toNat : Int) != (c : Int) % 256) = false:=by rw [← hb2];simp only [bne_eq_false_iff_eq] <;> omega
  have hk1 : (s[0]).toNat = k:=by rw [← hk0];congr 1;exact first_byte s n B hB hBs (by omega)
  have hk2 : k < 256:=by rw [← hk1];exact UInt8.toNat_lt _
  replace gc:=Lib.hid gc
  clear hS h hiff hdr hbl hcl hc hBz hb1 hb2 hh
  have HB0:=Lib.hid hk0;clear hk0
  go_enter Tryd.func12,Tryd.ntmps12
  go_upto_region 9 with (go_at_call 30;(with_reducible refine (gc.out _).mono ?_);rintro e wx ⟨rfl,rfl⟩)
  refine wp_region_tail0 3 ?_
  intro W0 hE hN
  have kz0 : blk W0 w.heap.size = some zF:=(by rw [hE.out];(apply jt;(focus repeat(first|(with_reducible first|assumption|apply jd|apply js)|((with_reducible apply jo);first|focus(dsimp only;assumption)|focus(simp;done)|focus(dsimp only;omega))|((with_reducible apply jn);first|with_reducible rfl|focus(simp;done)|focus(simp;omega))|(with_reducible apply ja)|((with_reducible apply jb);with_reducible assumption)));rfl))
  have kf0 : blk W0 (w.heap.size + 1) = some #[.int .i64 0,.int .i64 0]:=(by rw [hE.out];(apply jt;(focus repeat(first|(with_reducible first|assumption|apply jd|apply js)|((with_reducible apply jo);first|focus(dsimp only;assumption)|focus(simp;done)|focus(dsimp only;omega))|((with_reducible apply jn);first|with_reducible rfl|focus(simp;done)|focus(simp;omega))|(with_reducible apply ja)|((with_reducible apply jb);with_reducible assumption)));rfl))
  have hw0 : Below w.heap.size w W0:=(by rw [hE.out];(repeat(first|(with_reducible first|assumption|exact Below.refl _ _|refine je ?_|refine jl ?_)|((with_reducible refine jp ?_ ?_);first|focus(dsimp only;assumption)|focus(simp;done)|focus(dsimp only;omega))|(with_reducible refine bt ?_ (by assumption)))))
  clear hE
  simp only [List.take_succ_cons,List.take_zero,List.drop_succ_cons,List.drop_zero]
  repeat (go_big_quiet_step (fail))
  refine wpQuiet_nil ?_
  rintro _ ⟨x,rfl⟩
  have kz1:=blk_below x.ok kz0
  have kf1:=blk_below x.ok kf0
  have hw1 : Below w.heap.size w x.wd:=hw0.trans (x.ok.mono hw0.size)
  clear kz0 kf0 hw0 hN
  obtain ⟨w2,hw2⟩ : ∃ w2,w2 = x.wd:=⟨_,rfl⟩
  rw [← hw2] at kz1 kf1 hw1 ⊢
  clear hw2 x
  have hTz : w.heap.size + 2 ≤ w2.heap.size:=by have:=blk_lt kf1;omega
  refine wpList_build_is 29 _ #[.int .i64 k,.int .i64 0,.int .i64 0,.int .u64 0,.int .u64 0,.int .u64 0,.int .u64 0,.int .i64 0,.int .u64 0,.int .i64 0,.int .i64 0,.int .u64 0,.int .i64 0,.int .i64 0,.int .i64 0,.int .i64 0,.int .i64 0,.int .i64 0,.string ⟨#[]⟩] rfl rfl (by kernel_rfl) ?_
  conv => arg 5;simp [Act.put]
  refine Go.Great.wpList_allocTo rfl (some 6) rfl (.pointer (some ⟨w2.heap.size,0,none⟩)) (.cells zF 29) (by kernel_rfl) ?_
  conv => arg 5;simp [Act.put]
  refine wpList_store_blk 29 (.tmp 6) (.tmp 57) w2.heap.size zF #[.int .i64 k,.int .i64 0,.int .i64 0,.int .u64 0,.int .u64 0,.int .u64 0,.int .u64 0,.int .i64 0,.int .u64 0,.int .i64 0,.int .i64 0,.int .u64 0,.int .i64 0,.int .i64 0,.int .i64 0,.int .i64 0,.int .i64 0,.int .i64 0,.string ⟨#[]⟩] (blk_alloc_new _ _ _ rfl) rfl rfl rfl rfl (by kernel_rfl) rfl (by kernel_rfl) ?_
  intro w3 k3 o3 B3 s3
  conv => arg 5;simp [Act.put]
  have kz3:=o3 w.heap.size zF (by have:=blk_lt kz1;omega) (blk_alloc kz1 _)
  have kf3:=o3 (w.heap.size + 1) #[.int .i64 0,.int .i64 0] (by have:=blk_lt kf1;omega) (blk_alloc kf1 _)
  have hw3 : Below w.heap.size w w3:=B3 _ _ hw1.size (hw1.alloc hw1.size _)
  clear o3 B3 kz1 kf1 hw1 s3
  have nk:=kn k3
  clear hk
  go_upto_region 11 with fail
  refine wp_region_lit ?_
  refine wpList_build_is 29 #[] zF rfl rfl (by kernel_rfl) ?_
  conv => arg 5;simp [Act.put]
  refine wpList_build_is 32 _ #[.int .i64 7,.int .i64 0] rfl rfl (by kernel_rfl) ?_
  conv => arg 5;simp [Act.put]
  refine wpList_store_blk 29 (.tmp 2) (.tmp 66) w.heap.size zF zF kz3 rfl rfl rfl rfl (by kernel_rfl) rfl (by kernel_rfl) ?_
  intro w5 kb5 o5 B5 s5
  conv => arg 5;simp [Act.put]
  have kf5:=o5 (w.heap.size + 1) #[.int .i64 0,.int .i64 0] (by omega) kf3
  have hw5 : Below w.heap.size w w5:=B5 _ _ (Nat.le_refl _) hw3
  clear o5 B5 s5
  refine wpList_store_blk 32 (.tmp 3) (.tmp 67) (w.heap.size + 1) #[.int .i64 0,.int .i64 0] #[.int .i64 7,.int .i64 0] kf5 rfl rfl rfl rfl (by kernel_rfl) rfl (by kernel_rfl) ?_
  intro w6 kb6 o6 B6 s6
  conv => arg 5;simp [Act.put]
  have kf6:=o6 w.heap.size zF (by omega) kb5
  have hw6 : Below w.heap.size w w6:=B6 _ _ (by omega) hw5
  clear o6 B6 s6 kb5 kf5 hw5
  go_wp2
  refine ret_row2 2 3 29 32 _ _ kf6 kb6 rfl rfl Tryd.underlying29 rfl (by kernel_rfl) rfl Tryd.underlying32 rfl (by kernel_rfl) rfl ⟨rfl,hw6⟩
end Go.Proofs.YtaiofjffoboicaaDoor
namespace Go.Proofs.YtaiofjffoboicaaDoor
open Go.RowKit
theorem rjN_pos (l : List UInt8) (r : Rs) (h : (rjN l r).2.err = 0) : ∃ i : Nat,(rjN l r).2.pos = (i : Int) ∧ i ≤ l.length:=by
  have hb:=(getN_bound l r.pos).2
  unfold rjN at h ⊢
  by_cases h1 : r.err ≠ 0
  · rw [if_pos h1] at h;exact absurd h h1
  · rw [if_neg h1] at h ⊢
    by_cases h2 : (getN l r.pos).2.2 ≠ 0
    · rw [if_pos h2] at h;simp only at h;omega
    · rw [if_neg h2];exact ⟨_,rfl,hb⟩
theorem rjU_pos (u : Bool) (l : List UInt8) (r : Rs) (hr : r.err = 0 → ∃ i : Nat,r.pos = (i : Int) ∧ i ≤ l.length) (h : (rjU u l r).2.err = 0) : ∃ i : Nat,(rjU u l r).2.pos = (i : Int) ∧ i ≤ l.length:=by
  cases u
  · exact hr h
  · exact rjN_pos l r h
theorem posj {s : ByteArray} {A Bb : Bool} {r r8 r9 : Rs} {v8 v9 v10 p10 e10 f10 : Int} (h8 : rjN s.data.toList r = (v8,r8)) (h9 : rjU A s.data.toList r8 = (v9,r9)) (h10 : rjU Bb s.data.toList r9 = (v10,⟨p10,e10,f10⟩)) : e10 = 0 → 0 ≤ p10 ∧ p10 ≤ s.size:=by
  intro h
  have q8 : r8.err = 0 → ∃ i : Nat,r8.pos = (i : Int) ∧ i ≤ s.data.toList.length:=fun h' => by
    have:=rjN_pos s.data.toList r (by rw [h8];exact h')
    rwa [h8] at this
  have q9 : r9.err = 0 → ∃ i : Nat,r9.pos = (i : Int) ∧ i ≤ s.data.toList.length:=fun h' => by
    have:=rjU_pos A s.data.toList r8 q8 (by rw [h9];exact h')
    rwa [h9] at this
  have:=rjU_pos Bb s.data.toList r9 q9 (by rw [h10];exact h)
  rw [h10] at this
  obtain ⟨i,hi,hl⟩:=this
  have hs : s.data.toList.length = s.size:=by simp
  simp only at hi
  omega
theorem rjV_da (u : Bool) (l : List UInt8) (r : Rs) : (rjV u l r).1.da.length ≤ l.length:=by
  unfold rjV
  split
  · unfold rjB
    split
    · exact Nat.zero_le _
    · split
      · exact Nat.zero_le _
      · split
        · exact Nat.zero_le _
        · exact Nat.le_trans (decL_da _) (textN_le _ _ _)
  · exact Nat.zero_le _
theorem readJ_eq {k : Int} {l : List UInt8} {A Bb D I : Bool} (hA : hasA k = A) (hB : hasB k = Bb) (hD : hasD k = D) (hI : hasI k = I)
    {v5 v6 v7 v8 v9 v10 v12 v13 v14 : Int} {v11 : Dr} {r5 r6 r7 r8 r9 r10 r11 r12 r13 r14 : Rs}
    (h5 : rjN l ⟨1,0,0⟩ = (v5,r5)) (h6 : rjN l r5 = (v6,r6)) (h7 : rjN l r6 = (v7,r7)) (h8 : rjN l r7 = (v8,r8)) (h9 : rjU A l r8 = (v9,r9)) (h10 : rjU Bb l r9 = (v10,r10))
    (h11 : rjV D l r10 = (v11,r11)) (h12 : rjU I l r11 = (v12,r12)) (h13 : rjU I l r12 = (v13,r13)) (h14 : rjU I l r13 = (v14,r14)) :
    readJ clampI k l = ⟨⟨k,clampI v5,clampI v6,v7,v8,v9,v10,clampI v12,v13,clampI v14,v11.no,v11.sq,v11.of,v11.de,v11.pr,v11.bo,v11.li,v11.to,⟨v11.da.toArray⟩⟩,r14⟩:=by
  subst hA hB hD hI
  unfold readJ
  simp only [h5,h6,h7,h8,h9,h10,h11,h12,h13,h14]
theorem endJ_err (l : List UInt8) (F : Fr) (p e a : Int) (h : e ≠ 0) : endF l ⟨F,⟨p,e,a⟩⟩ = (noFr,e,a):=by unfold endF;rw [if_pos h]
theorem endJ_form (l : List UInt8) (F : Fr) (p a : Int) (h : p < l.length) : endF l ⟨F,⟨p,0,a⟩⟩ = (noFr,3,p):=by unfold endF;rw [if_neg (by simp),if_pos h]
theorem endJ_chk (l : List UInt8) (F : Fr) (p a : Int) (h : ¬ p < l.length) (hc : frC F ≠ 0) : endF l ⟨F,⟨p,0,a⟩⟩ = (noFr,frC F,0):=by unfold endF;rw [if_neg (by simp),if_neg h,if_pos hc]
theorem endJ_ok (l : List UInt8) (F : Fr) (p a : Int) (h : ¬ p < l.length) (hc : frC F = 0) : endF l ⟨F,⟨p,0,a⟩⟩ = (F,0,0):=by unfold endF;rw [if_neg (by simp),if_neg h,if_neg (by simp [hc])]
theorem rjU_no {l : List UInt8} {p e a v p' e' a' : Int} (h : rjU false l ⟨p,e,a⟩ = (v,⟨p',e',a'⟩)) : v = 0 ∧ p' = p ∧ e' = e ∧ a' = a:=by
  simp only [rjU,Bool.false_eq_true,if_false,Prod.mk.injEq,Rs.mk.injEq] at h
  exact ⟨h.1.symm,h.2.1.symm,h.2.2.1.symm,h.2.2.2.symm⟩
theorem rjV_no {l : List UInt8} {p e a p' e' a' : Int} {d : Dr} (h : rjV false l ⟨p,e,a⟩ = (d,⟨p',e',a'⟩)) : d = .bad 0 0 ∧ p' = p ∧ e' = e ∧ a' = a:=by
  simp only [rjV,Bool.false_eq_true,if_false,Prod.mk.injEq,Rs.mk.injEq] at h
  exact ⟨h.1.symm,h.2.1.symm,h.2.2.1.symm,h.2.2.2.symm⟩
end Go.Proofs.YtaiofjffoboicaaDoor
namespace Go.Proofs.YtaiofjffoboicaaDoor
open Go.RowKit
set_option maxRecDepth 100000 in
set_option maxHeartbeats 1600000 in
theorem rdec_known (s : ByteArray) (n : Nat) (hn : s.size = n + 2) (h1 : 1 ≤ n) (h2 : s.size ≤ 1200) (h : sealedS s.data.toList n = true) (k : Nat) (w : World) (B : ByteArray) (hB : s.extract 0 n = B) (hBs : 0 < B.size) (hk0 : (B[0]).toNat = k) (hk : 1 ≤ (k : Int) ∧ (k : Int) ≤ 7) : Calls Tryd.prog 12 #[.string s] w fun e w' => e = .returned (fdcV (endF B.data.toList (readJ clampI k B.data.toList))) ∧ Below w.heap.size w w':=by
  obtain ⟨V,hV⟩ : ∃ V,V = fdcV (endF B.data.toList (readJ clampI k B.data.toList)):=⟨_,rfl⟩
  rw [← hV]
  replace hV:=Lib.hid hV
  have tk : decide ((k : Int) < 1) = false:=decide_eq_false (by omega)
  have tk2 : decide (7 < (k : Int)) = false:=decide_eq_false (by omega)
  have hBb : B.size ≤ 1000000:=by rw [← hB];simp;omega
  have hBm : B.size ≤ maxLen:=by unfold maxLen;omega
  have t1 : decide ((1200 : Int) < s.size) = false:=decide_eq_false (by omega)
  have t2 : decide ((s.size : Int) < 3) = false:=decide_eq_false (by omega)
  have hcl:=crsN_lt B.data.toList
  have hbl : B.data.toList = s.data.toList.take n:=by rw [← hB];simp
  have hBz : B.size ≤ 1000000:=by rw [← hB];simp;omega
  have gc:=fun w => refCrc16_any B hBz w
  obtain ⟨b1,hb1⟩ : ∃ b,b = s[n]:=⟨_,rfl⟩
  obtain ⟨b2,hb2⟩ : ∃ b,b = s[n + 1]:=⟨_,rfl⟩
  have hdr : s.data.toList.drop n = [b1,b2]:=by rw [hb1,hb2];exact drop_two s n hn
  have hiff:=seal_two (c:=crsN B.data.toList) hcl b1 b2
  have hS:=h
  unfold sealedS at hS
  rw [hdr,← hbl] at hS
  obtain ⟨c,hc⟩ : ∃ c,crsN B.data.toList = c:=⟨_,rfl⟩
  rw [hc] at gc hcl hiff hS
  have hc8 : IntKind.u8.wrap ((c : Int) / 256) = (c : Int) / 256:=by rw [IntKind.wrap_u8] <;> omega
  have hc1 : IntKind.u8.wrap (c : Int) = (c : Int) % 256:=by rw [IntKind.wrap_u8] <;> omega
  have hss : (s.size : Int) = (n : Int) + 2:=by omega
  have hq1 : s.size - 2 = n:=by omega
  have hq2 : s.size - 1 = n + 1:=by omega
  have hh:=hiff.1 (by simpa using hS)
  have x1 : (((s[n]).toNat : Int) != (c : Int) / 256) = false:=by rw [← hb1];simp only [bne_eq_false_iff_eq] <;> omega
  have x2 : (((s[n + 1]).toNat : Int) != (c : Int) % 256) = false:=by rw [← hb2];simp only [bne_eq_false_iff_eq] <;> omega
  have hk1 : (s[0]).toNat = k:=by rw [← hk0];congr 1;exact first_byte s n B hB hBs (by omega)
  have hk2 : k < 256:=by rw [← hk1];exact UInt8.toNat_lt _
  replace gc:=Lib.hid gc
  clear hS h hiff hdr hbl hcl hc hBz hb1 hb2 hh
  have HB0:=Lib.hid hk0;clear hk0
  go_enter Tryd.func12,Tryd.ntmps12
  go_upto_region 9 with (go_at_call 30;(with_reducible refine (gc.out _).mono ?_);rintro e wx ⟨rfl,rfl⟩)
  refine wp_region_tail0 3 ?_
  intro W0 hE hN
  have kz0 : blk W0 w.heap.size = some zF:=(by rw [hE.out];(apply jt;(focus repeat(first|(with_reducible first|assumption|apply jd|apply js)|((with_reducible apply jo);first|focus(dsimp only;assumption)|focus(simp;done)|focus(dsimp only;omega))|((with_reducible apply jn);first|with_reducible rfl|focus(simp;done)|focus(simp;omega))|(with_reducible apply ja)|((with_reducible apply jb);with_reducible assumption)));rfl))
  have kf0 : blk W0 (w.heap.size + 1) = some #[.int .i64 0,.int .i64 0]:=(by rw [hE.out];(apply jt;(focus repeat(first|(with_reducible first|assumption|apply jd|apply js)|((with_reducible apply jo);first|focus(dsimp only;assumption)|focus(simp;done)|focus(dsimp only;omega))|((with_reducible apply jn);first|with_reducible rfl|focus(simp;done)|focus(simp;omega))|(with_reducible apply ja)|((with_reducible apply jb);with_reducible assumption)));rfl))
  have hw0 : Below w.heap.size w W0:=(by rw [hE.out];(repeat(first|(with_reducible first|assumption|exact Below.refl _ _|refine je ?_|refine jl ?_)|((with_reducible refine jp ?_ ?_);first|focus(dsimp only;assumption)|focus(simp;done)|focus(dsimp only;omega))|(with_reducible refine bt ?_ (by assumption)))))
  clear hE
  simp only [List.take_succ_cons,List.take_zero,List.drop_succ_cons,List.drop_zero]
  repeat (go_big_quiet_step (fail))
  refine wpQuiet_nil ?_
  rintro _ ⟨x,rfl⟩
  have kz1:=blk_below x.ok kz0
  have kf1:=blk_below x.ok kf0
  have hw1 : Below w.heap.size w x.wd:=hw0.trans (x.ok.mono hw0.size)
  clear kz0 kf0 hw0 hN
  obtain ⟨w2,hw2⟩ : ∃ w2,w2 = x.wd:=⟨_,rfl⟩
  rw [← hw2] at kz1 kf1 hw1 ⊢
  clear hw2 x
  have hTz : w.heap.size + 2 ≤ w2.heap.size:=by have:=blk_lt kf1;omega
  refine wpList_build_is 29 _ #[.int .i64 k,.int .i64 0,.int .i64 0,.int .u64 0,.int .u64 0,.int .u64 0,.int .u64 0,.int .i64 0,.int .u64 0,.int .i64 0,.int .i64 0,.int .u64 0,.int .i64 0,.int .i64 0,.int .i64 0,.int .i64 0,.int .i64 0,.int .i64 0,.string ⟨#[]⟩] rfl rfl (by kernel_rfl) ?_
  conv => arg 5;simp [Act.put]
  refine Go.Great.wpList_allocTo rfl (some 6) rfl (.pointer (some ⟨w2.heap.size,0,none⟩)) (.cells zF 29) (by kernel_rfl) ?_
  conv => arg 5;simp [Act.put]
  refine wpList_store_blk 29 (.tmp 6) (.tmp 57) w2.heap.size zF #[.int .i64 k,.int .i64 0,.int .i64 0,.int .u64 0,.int .u64 0,.int .u64 0,.int .u64 0,.int .i64 0,.int .u64 0,.int .i64 0,.int .i64 0,.int .u64 0,.int .i64 0,.int .i64 0,.int .i64 0,.int .i64 0,.int .i64 0,.int .i64 0,.string ⟨#[]⟩] (blk_alloc_new _ _ _ rfl) rfl rfl rfl rfl (by kernel_rfl) rfl (by kernel_rfl) ?_
  intro w3 k3 o3 B3 s3
  conv => arg 5;simp [Act.put]
  have kz3:=o3 w.heap.size zF (by have:=blk_lt kz1;omega) (blk_alloc kz1 _)
  have kf3:=o3 (w.heap.size + 1) #[.int .i64 0,.int .i64 0] (by have:=blk_lt kf1;omega) (blk_alloc kf1 _)
  have hw3 : Below w.heap.size w w3:=B3 _ _ hw1.size (hw1.alloc hw1.size _)
  clear o3 B3 kz1 kf1 hw1 s3
  have nk:=kn k3
  have hlT:=blk_lt k3
  have hlz:=blk_lt kz3
  have hlf:=blk_lt kf3
  have hne : w2.heap.size ≠ w3.heap.size:=by omega
  have gB : ∀ w,Calls Tryd.prog 33 #[.int .i64 k] w fun e w' => e = .returned (.bool (hasB k)) ∧ w = w':=fun w => refHasB_any k w
  have gI : ∀ w,Calls Tryd.prog 35 #[.int .i64 k] w fun e w' => e = .returned (.bool (hasI k)) ∧ w = w':=fun w => refHasID_any k w
  have eA : ((k : Int) != 1) = hasA k:=by unfold hasA;by_cases q : (k : Int) = 1 <;> simp [q]
  have eD : ((k : Int) == 3) = hasD k:=by unfold hasD;by_cases q : (k : Int) = 3 <;> simp [q]
  obtain ⟨A,hA⟩ : ∃ A,hasA k = A:=⟨_,rfl⟩
  obtain ⟨Bb,hBq⟩ : ∃ A,hasB k = A:=⟨_,rfl⟩
  obtain ⟨D,hD⟩ : ∃ A,hasD k = A:=⟨_,rfl⟩
  obtain ⟨I,hI⟩ : ∃ A,hasI k = A:=⟨_,rfl⟩
  rw [hA] at eA;rw [hD] at eD;rw [hBq] at gB;rw [hI] at gI
  replace hA:=Lib.hid hA;replace hBq:=Lib.hid hBq;replace hD:=Lib.hid hD;replace hI:=Lib.hid hI
  replace gB:=Lib.hid gB;replace gI:=Lib.hid gI
  clear hk
  obtain ⟨⟨v5,p5,e5,a5⟩,Hx5⟩ : ∃ x,Hid (rjN B.data.toList ⟨1,0,0⟩ = x):=⟨_,Lib.hid rfl⟩
  have g5:=fun W hC => rsmall_any w3.heap.size B 1 0 0 hBm W hC
  rw [show rjN B.data.toList ⟨1,0,0⟩ = _ from Hx5.out] at g5
  replace g5:=Lib.hid g5
  go_wp2_with fail
  (with_reducible refine (g5.out _ ?kc5).mono ?_)
  case kc5 => (apply jt;(focus repeat(first|(with_reducible first|assumption|apply jd|apply js)|((with_reducible apply jo);first|focus(dsimp only;assumption)|focus(simp;done)|focus(dsimp only;omega))|((with_reducible apply jn);first|with_reducible rfl|focus(simp;done)|focus(simp;omega))|(with_reducible apply ja)|((with_reducible apply jb);with_reducible assumption)));rfl)
  rintro q w5 ⟨rfl,c5,u5⟩
  have t5 : blk w5 w2.heap.size = some #[.int .i64 k,.int .i64 0,.int .i64 0,.int .u64 0,.int .u64 0,.int .u64 0,.int .u64 0,.int .i64 0,.int .u64 0,.int .i64 0,.int .i64 0,.int .u64 0,.int .i64 0,.int .i64 0,.int .i64 0,.int .i64 0,.int .i64 0,.int .i64 0,.string ⟨#[]⟩]:=u5.2.1 _ _ hne (by (apply jt;(focus repeat(first|(with_reducible first|assumption|apply jd|apply js)|((with_reducible apply jo);first|focus(dsimp only;assumption)|focus(simp;done)|focus(dsimp only;omega))|((with_reducible apply jn);first|with_reducible rfl|focus(simp;done)|focus(simp;omega))|(with_reducible apply ja)|((with_reducible apply jb);with_reducible assumption)));rfl))
  have z5 : blk w5 w.heap.size = some zF:=u5.2.1 _ _ (by omega) (by (apply jt;(focus repeat(first|(with_reducible first|assumption|apply jd|apply js)|((with_reducible apply jo);first|focus(dsimp only;assumption)|focus(simp;done)|focus(dsimp only;omega))|((with_reducible apply jn);first|with_reducible rfl|focus(simp;done)|focus(simp;omega))|(with_reducible apply ja)|((with_reducible apply jb);with_reducible assumption)));rfl))
  have f5 : blk w5 (w.heap.size + 1) = some #[.int .i64 0,.int .i64 0]:=u5.2.1 _ _ (by omega) (by (apply jt;(focus repeat(first|(with_reducible first|assumption|apply jd|apply js)|((with_reducible apply jo);first|focus(dsimp only;assumption)|focus(simp;done)|focus(dsimp only;omega))|((with_reducible apply jn);first|with_reducible rfl|focus(simp;done)|focus(simp;omega))|(with_reducible apply ja)|((with_reducible apply jb);with_reducible assumption)));rfl))
  have hw5 : Below w.heap.size w w5:=Below.trans (by (repeat(first|(with_reducible first|assumption|exact Below.refl _ _|refine je ?_|refine jl ?_)|((with_reducible refine jp ?_ ?_);first|focus(dsimp only;assumption)|focus(simp;done)|focus(dsimp only;omega))|(with_reducible refine bt ?_ (by assumption))))) (u5.1.mono (by omega))
  clear u5 g5 k3 kz3 kf3 hw3 nk
  have n5:=kn t5
  obtain ⟨⟨v6,p6,e6,a6⟩,Hx6⟩ : ∃ x,Hid (rjN B.data.toList ⟨p5,e5,a5⟩ = x):=⟨_,Lib.hid rfl⟩
  have g6:=fun W hC => rsmall_any w3.heap.size B p5 e5 a5 hBm W hC
  rw [show rjN B.data.toList ⟨p5,e5,a5⟩ = _ from Hx6.out] at g6
  replace g6:=Lib.hid g6
  go_wp2_with fail
  (with_reducible refine (g6.out _ ?kc6).mono ?_)
  case kc6 => (apply jt;(focus repeat(first|(with_reducible first|assumption|apply jd|apply js)|((with_reducible apply jo);first|focus(dsimp only;assumption)|focus(simp;done)|focus(dsimp only;omega))|((with_reducible apply jn);first|with_reducible rfl|focus(simp;done)|focus(simp;omega))|(with_reducible apply ja)|((with_reducible apply jb);with_reducible assumption)));rfl)
  rintro q w6 ⟨rfl,c6,u6⟩
  have t6 : blk w6 w2.heap.size = some #[.int .i64 k,.int .i64 (clampI v5),.int .i64 0,.int .u64 0,.int .u64 0,.int .u64 0,.int .u64 0,.int .i64 0,.int .u64 0,.int .i64 0,.int .i64 0,.int .u64 0,.int .i64 0,.int .i64 0,.int .i64 0,.int .i64 0,.int .i64 0,.int .i64 0,.string ⟨#[]⟩]:=u6.2.1 _ _ hne (by (apply jt;(focus repeat(first|(with_reducible first|assumption|apply jd|apply js)|((with_reducible apply jo);first|focus(dsimp only;assumption)|focus(simp;done)|focus(dsimp only;omega))|((with_reducible apply jn);first|with_reducible rfl|focus(simp;done)|focus(simp;omega))|(with_reducible apply ja)|((with_reducible apply jb);with_reducible assumption)));rfl))
  have z6 : blk w6 w.heap.size = some zF:=u6.2.1 _ _ (by omega) (by (apply jt;(focus repeat(first|(with_reducible first|assumption|apply jd|apply js)|((with_reducible apply jo);first|focus(dsimp only;assumption)|focus(simp;done)|focus(dsimp only;omega))|((with_reducible apply jn);first|with_reducible rfl|focus(simp;done)|focus(simp;omega))|(with_reducible apply ja)|((with_reducible apply jb);with_reducible assumption)));rfl))
  have f6 : blk w6 (w.heap.size + 1) = some #[.int .i64 0,.int .i64 0]:=u6.2.1 _ _ (by omega) (by (apply jt;(focus repeat(first|(with_reducible first|assumption|apply jd|apply js)|((with_reducible apply jo);first|focus(dsimp only;assumption)|focus(simp;done)|focus(dsimp only;omega))|((with_reducible apply jn);first|with_reducible rfl|focus(simp;done)|focus(simp;omega))|(with_reducible apply ja)|((with_reducible apply jb);with_reducible assumption)));rfl))
  have hw6 : Below w.heap.size w w6:=Below.trans (by (repeat(first|(with_reducible first|assumption|exact Below.refl _ _|refine je ?_|refine jl ?_)|((with_reducible refine jp ?_ ?_);first|focus(dsimp only;assumption)|focus(simp;done)|focus(dsimp only;omega))|(with_reducible refine bt ?_ (by assumption))))) (u6.1.mono (by omega))
  clear u6 g6 c5 t5 z5 f5 hw5 n5
  have n6:=kn t6
  obtain ⟨⟨v7,p7,e7,a7⟩,Hx7⟩ : ∃ x,Hid (rjN B.data.toList ⟨p6,e6,a6⟩ = x):=⟨_,Lib.hid rfl⟩
  have g7:=fun W hC => rnum_any w3.heap.size B p6 e6 a6 hBm W hC
  rw [show rjN B.data.toList ⟨p6,e6,a6⟩ = _ from Hx7.out] at g7
  replace g7:=Lib.hid g7
  go_wp2_with fail
  (with_reducible refine (g7.out _ ?kc7).mono ?_)
  case kc7 => (apply jt;(focus repeat(first|(with_reducible first|assumption|apply jd|apply js)|((with_reducible apply jo);first|focus(dsimp only;assumption)|focus(simp;done)|focus(dsimp only;omega))|((with_reducible apply jn);first|with_reducible rfl|focus(simp;done)|focus(simp;omega))|(with_reducible apply ja)|((with_reducible apply jb);with_reducible assumption)));rfl)
  rintro q w7 ⟨rfl,c7,u7⟩
  have t7 : blk w7 w2.heap.size = some #[.int .i64 k,.int .i64 (clampI v5),.int .i64 (clampI v6),.int .u64 0,.int .u64 0,.int .u64 0,.int .u64 0,.int .i64 0,.int .u64 0,.int .i64 0,.int .i64 0,.int .u64 0,.int .i64 0,.int .i64 0,.int .i64 0,.int .i64 0,.int .i64 0,.int .i64 0,.string ⟨#[]⟩]:=u7.2.1 _ _ hne (by (apply jt;(focus repeat(first|(with_reducible first|assumption|apply jd|apply js)|((with_reducible apply jo);first|focus(dsimp only;assumption)|focus(simp;done)|focus(dsimp only;omega))|((with_reducible apply jn);first|with_reducible rfl|focus(simp;done)|focus(simp;omega))|(with_reducible apply ja)|((with_reducible apply jb);with_reducible assumption)));rfl))
  have z7 : blk w7 w.heap.size = some zF:=u7.2.1 _ _ (by omega) (by (apply jt;(focus repeat(first|(with_reducible first|assumption|apply jd|apply js)|((with_reducible apply jo);first|focus(dsimp only;assumption)|focus(simp;done)|focus(dsimp only;omega))|((with_reducible apply jn);first|with_reducible rfl|focus(simp;done)|focus(simp;omega))|(with_reducible apply ja)|((with_reducible apply jb);with_reducible assumption)));rfl))
  have f7 : blk w7 (w.heap.size + 1) = some #[.int .i64 0,.int .i64 0]:=u7.2.1 _ _ (by omega) (by (apply jt;(focus repeat(first|(with_reducible first|assumption|apply jd|apply js)|((with_reducible apply jo);first|focus(dsimp only;assumption)|focus(simp;done)|focus(dsimp only;omega))|((with_reducible apply jn);first|with_reducible rfl|focus(simp;done)|focus(simp;omega))|(with_reducible apply ja)|((with_reducible apply jb);with_reducible assumption)));rfl))
  have hw7 : Below w.heap.size w w7:=Below.trans (by (repeat(first|(with_reducible first|assumption|exact Below.refl _ _|refine je ?_|refine jl ?_)|((with_reducible refine jp ?_ ?_);first|focus(dsimp only;assumption)|focus(simp;done)|focus(dsimp only;omega))|(with_reducible refine bt ?_ (by assumption))))) (u7.1.mono (by omega))
  clear u7 g7 c6 t6 z6 f6 hw6 n6
  have n7:=kn t7
  obtain ⟨⟨v8,p8,e8,a8⟩,Hx8⟩ : ∃ x,Hid (rjN B.data.toList ⟨p7,e7,a7⟩ = x):=⟨_,Lib.hid rfl⟩
  have g8:=fun W hC => rnum_any w3.heap.size B p7 e7 a7 hBm W hC
  rw [show rjN B.data.toList ⟨p7,e7,a7⟩ = _ from Hx8.out] at g8
  replace g8:=Lib.hid g8
  go_wp2_with fail
  (with_reducible refine (g8.out _ ?kc8).mono ?_)
  case kc8 => (apply jt;(focus repeat(first|(with_reducible first|assumption|apply jd|apply js)|((with_reducible apply jo);first|focus(dsimp only;assumption)|focus(simp;done)|focus(dsimp only;omega))|((with_reducible apply jn);first|with_reducible rfl|focus(simp;done)|focus(simp;omega))|(with_reducible apply ja)|((with_reducible apply jb);with_reducible assumption)));rfl)
  rintro q w8 ⟨rfl,c8,u8⟩
  have t8 : blk w8 w2.heap.size = some #[.int .i64 k,.int .i64 (clampI v5),.int .i64 (clampI v6),.int .u64 v7,.int .u64 0,.int .u64 0,.int .u64 0,.int .i64 0,.int .u64 0,.int .i64 0,.int .i64 0,.int .u64 0,.int .i64 0,.int .i64 0,.int .i64 0,.int .i64 0,.int .i64 0,.int .i64 0,.string ⟨#[]⟩]:=u8.2.1 _ _ hne (by (apply jt;(focus repeat(first|(with_reducible first|assumption|apply jd|apply js)|((with_reducible apply jo);first|focus(dsimp only;assumption)|focus(simp;done)|focus(dsimp only;omega))|((with_reducible apply jn);first|with_reducible rfl|focus(simp;done)|focus(simp;omega))|(with_reducible apply ja)|((with_reducible apply jb);with_reducible assumption)));rfl))
  have z8 : blk w8 w.heap.size = some zF:=u8.2.1 _ _ (by omega) (by (apply jt;(focus repeat(first|(with_reducible first|assumption|apply jd|apply js)|((with_reducible apply jo);first|focus(dsimp only;assumption)|focus(simp;done)|focus(dsimp only;omega))|((with_reducible apply jn);first|with_reducible rfl|focus(simp;done)|focus(simp;omega))|(with_reducible apply ja)|((with_reducible apply jb);with_reducible assumption)));rfl))
  have f8 : blk w8 (w.heap.size + 1) = some #[.int .i64 0,.int .i64 0]:=u8.2.1 _ _ (by omega) (by (apply jt;(focus repeat(first|(with_reducible first|assumption|apply jd|apply js)|((with_reducible apply jo);first|focus(dsimp only;assumption)|focus(simp;done)|focus(dsimp only;omega))|((with_reducible apply jn);first|with_reducible rfl|focus(simp;done)|focus(simp;omega))|(with_reducible apply ja)|((with_reducible apply jb);with_reducible assumption)));rfl))
  have hw8 : Below w.heap.size w w8:=Below.trans (by (repeat(first|(with_reducible first|assumption|exact Below.refl _ _|refine je ?_|refine jl ?_)|((with_reducible refine jp ?_ ?_);first|focus(dsimp only;assumption)|focus(simp;done)|focus(dsimp only;omega))|(with_reducible refine bt ?_ (by assumption))))) (u8.1.mono (by omega))
  clear u8 g8 c7 t7 z7 f7 hw7 n7
  have n8:=kn t8
  go_upto_if 85 with fail
  obtain ⟨⟨v9,p9,e9,a9⟩,Hx9⟩ : ∃ x,Hid (rjU A B.data.toList ⟨p8,e8,a8⟩ = x):=⟨_,Lib.hid rfl⟩
  go_cut [] from 9 (fun wq => blk wq w3.heap.size = some (rdC B p9 e9 a9) ∧ blk wq w2.heap.size = some #[.int .i64 k,.int .i64 (clampI v5),.int .i64 (clampI v6),.int .u64 v7,.int .u64 v8,.int .u64 v9,.int .u64 0,.int .i64 0,.int .u64 0,.int .i64 0,.int .i64 0,.int .u64 0,.int .i64 0,.int .i64 0,.int .i64 0,.int .i64 0,.int .i64 0,.int .i64 0,.string ⟨#[]⟩] ∧ blk wq w.heap.size = some zF ∧ blk wq (w.heap.size + 1) = some #[.int .i64 0,.int .i64 0] ∧ Below w.heap.size w wq)
  case first =>
    cases A
    · obtain ⟨rfl,rfl,rfl,rfl⟩:=rjU_no Hx9.out
      go_wp2
      go_meet
      case rel => exact ⟨by (apply jt;(focus repeat(first|(with_reducible first|assumption|apply jd|apply js)|((with_reducible apply jo);first|focus(dsimp only;assumption)|focus(simp;done)|focus(dsimp only;omega))|((with_reducible apply jn);first|with_reducible rfl|focus(simp;done)|focus(simp;omega))|(with_reducible apply ja)|((with_reducible apply jb);with_reducible assumption)));rfl),by (apply jt;(focus repeat(first|(with_reducible first|assumption|apply jd|apply js)|((with_reducible apply jo);first|focus(dsimp only;assumption)|focus(simp;done)|focus(dsimp only;omega))|((with_reducible apply jn);first|with_reducible rfl|focus(simp;done)|focus(simp;omega))|(with_reducible apply ja)|((with_reducible apply jb);with_reducible assumption)));kernel_rfl),by (apply jt;(focus repeat(first|(with_reducible first|assumption|apply jd|apply js)|((with_reducible apply jo);first|focus(dsimp only;assumption)|focus(simp;done)|focus(dsimp only;omega))|((with_reducible apply jn);first|with_reducible rfl|focus(simp;done)|focus(simp;omega))|(with_reducible apply ja)|((with_reducible apply jb);with_reducible assumption)));rfl),by (apply jt;(focus repeat(first|(with_reducible first|assumption|apply jd|apply js)|((with_reducible apply jo);first|focus(dsimp only;assumption)|focus(simp;done)|focus(dsimp only;omega))|((with_reducible apply jn);first|with_reducible rfl|focus(simp;done)|focus(simp;omega))|(with_reducible apply ja)|((with_reducible apply jb);with_reducible assumption)));rfl),by (repeat(first|(with_reducible first|assumption|exact Below.refl _ _|refine je ?_|refine jl ?_)|((with_reducible refine jp ?_ ?_);first|focus(dsimp only;assumption)|focus(simp;done)|focus(dsimp only;omega))|(with_reducible refine bt ?_ (by assumption))))⟩
    · have g9:=fun W hC => rnum_any w3.heap.size B p8 e8 a8 hBm W hC
      rw [show rjN B.data.toList ⟨p8,e8,a8⟩ = _ from Hx9.out] at g9
      replace g9:=Lib.hid g9
      go_wp2_with fail
      (with_reducible refine (g9.out _ ?kc9).mono ?_)
      case kc9 => (apply jt;(focus repeat(first|(with_reducible first|assumption|apply jd|apply js)|((with_reducible apply jo);first|focus(dsimp only;assumption)|focus(simp;done)|focus(dsimp only;omega))|((with_reducible apply jn);first|with_reducible rfl|focus(simp;done)|focus(simp;omega))|(with_reducible apply ja)|((with_reducible apply jb);with_reducible assumption)));rfl)
      rintro q w9 ⟨rfl,c9,u9⟩
      have t9 : blk w9 w2.heap.size = some #[.int .i64 k,.int .i64 (clampI v5),.int .i64 (clampI v6),.int .u64 v7,.int .u64 v8,.int .u64 0,.int .u64 0,.int .i64 0,.int .u64 0,.int .i64 0,.int .i64 0,.int .u64 0,.int .i64 0,.int .i64 0,.int .i64 0,.int .i64 0,.int .i64 0,.int .i64 0,.string ⟨#[]⟩]:=u9.2.1 _ _ hne (by (apply jt;(focus repeat(first|(with_reducible first|assumption|apply jd|apply js)|((with_reducible apply jo);first|focus(dsimp only;assumption)|focus(simp;done)|focus(dsimp only;omega))|((with_reducible apply jn);first|with_reducible rfl|focus(simp;done)|focus(simp;omega))|(with_reducible apply ja)|((with_reducible apply jb);with_reducible assumption)));rfl))
      have z9 : blk w9 w.heap.size = some zF:=u9.2.1 _ _ (by omega) (by (apply jt;(focus repeat(first|(with_reducible first|assumption|apply jd|apply js)|((with_reducible apply jo);first|focus(dsimp only;assumption)|focus(simp;done)|focus(dsimp only;omega))|((with_reducible apply jn);first|with_reducible rfl|focus(simp;done)|focus(simp;omega))|(with_reducible apply ja)|((with_reducible apply jb);with_reducible assumption)));rfl))
      have f9 : blk w9 (w.heap.size + 1) = some #[.int .i64 0,.int .i64 0]:=u9.2.1 _ _ (by omega) (by (apply jt;(focus repeat(first|(with_reducible first|assumption|apply jd|apply js)|((with_reducible apply jo);first|focus(dsimp only;assumption)|focus(simp;done)|focus(dsimp only;omega))|((with_reducible apply jn);first|with_reducible rfl|focus(simp;done)|focus(simp;omega))|(with_reducible apply ja)|((with_reducible apply jb);with_reducible assumption)));rfl))
      have hw9 : Below w.heap.size w w9:=Below.trans (by (repeat(first|(with_reducible first|assumption|exact Below.refl _ _|refine je ?_|refine jl ?_)|((with_reducible refine jp ?_ ?_);first|focus(dsimp only;assumption)|focus(simp;done)|focus(dsimp only;omega))|(with_reducible refine bt ?_ (by assumption))))) (u9.1.mono (by omega))
      clear u9 g9
      have n9:=kn t9
      go_wp2
      go_meet
      case rel => exact ⟨by (apply jt;(focus repeat(first|(with_reducible first|assumption|apply jd|apply js)|((with_reducible apply jo);first|focus(dsimp only;assumption)|focus(simp;done)|focus(dsimp only;omega))|((with_reducible apply jn);first|with_reducible rfl|focus(simp;done)|focus(simp;omega))|(with_reducible apply ja)|((with_reducible apply jb);with_reducible assumption)));rfl),by (apply jt;(focus repeat(first|(with_reducible first|assumption|apply jd|apply js)|((with_reducible apply jo);first|focus(dsimp only;assumption)|focus(simp;done)|focus(dsimp only;omega))|((with_reducible apply jn);first|with_reducible rfl|focus(simp;done)|focus(simp;omega))|(with_reducible apply ja)|((with_reducible apply jb);with_reducible assumption)));kernel_rfl),by (apply jt;(focus repeat(first|(with_reducible first|assumption|apply jd|apply js)|((with_reducible apply jo);first|focus(dsimp only;assumption)|focus(simp;done)|focus(dsimp only;omega))|((with_reducible apply jn);first|with_reducible rfl|focus(simp;done)|focus(simp;omega))|(with_reducible apply ja)|((with_reducible apply jb);with_reducible assumption)));rfl),by (apply jt;(focus repeat(first|(with_reducible first|assumption|apply jd|apply js)|((with_reducible apply jo);first|focus(dsimp only;assumption)|focus(simp;done)|focus(dsimp only;omega))|((with_reducible apply jn);first|with_reducible rfl|focus(simp;done)|focus(simp;omega))|(with_reducible apply ja)|((with_reducible apply jb);with_reducible assumption)));rfl),by (repeat(first|(with_reducible first|assumption|exact Below.refl _ _|refine je ?_|refine jl ?_)|((with_reducible refine jp ?_ ?_);first|focus(dsimp only;assumption)|focus(simp;done)|focus(dsimp only;omega))|(with_reducible refine bt ?_ (by assumption))))⟩
  case rest =>
  obtain ⟨c9,t9,z9,f9,hw9⟩:=hcut
  clear c8 t8 z8 f8 hw8 n8 eA
  have n9:=kn t9
  go_upto_if 91 with (go_at_call 33;(with_reducible refine (gB.out _).mono ?_);rintro q wx ⟨rfl,rfl⟩)
  obtain ⟨⟨v10,p10,e10,a10⟩,Hx10⟩ : ∃ x,Hid (rjU Bb B.data.toList ⟨p9,e9,a9⟩ = x):=⟨_,Lib.hid rfl⟩
  go_cut [] from 9 (fun wq => blk wq w3.heap.size = some (rdC B p10 e10 a10) ∧ blk wq w2.heap.size = some #[.int .i64 k,.int .i64 (clampI v5),.int .i64 (clampI v6),.int .u64 v7,.int .u64 v8,.int .u64 v9,.int .u64 v10,.int .i64 0,.int .u64 0,.int .i64 0,.int .i64 0,.int .u64 0,.int .i64 0,.int .i64 0,.int .i64 0,.int .i64 0,.int .i64 0,.int .i64 0,.string ⟨#[]⟩] ∧ blk wq w.heap.size = some zF ∧ blk wq (w.heap.size + 1) = some #[.int .i64 0,.int .i64 0] ∧ Below w.heap.size w wq)
  case first =>
    cases Bb
    · obtain ⟨rfl,rfl,rfl,rfl⟩:=rjU_no Hx10.out
      go_wp2
      go_meet
      case rel => exact ⟨by (apply jt;(focus repeat(first|(with_reducible first|assumption|apply jd|apply js)|((with_reducible apply jo);first|focus(dsimp only;assumption)|focus(simp;done)|focus(dsimp only;omega))|((with_reducible apply jn);first|with_reducible rfl|focus(simp;done)|focus(simp;omega))|(with_reducible apply ja)|((with_reducible apply jb);with_reducible assumption)));rfl),by (apply jt;(focus repeat(first|(with_reducible first|assumption|apply jd|apply js)|((with_reducible apply jo);first|focus(dsimp only;assumption)|focus(simp;done)|focus(dsimp only;omega))|((with_reducible apply jn);first|with_reducible rfl|focus(simp;done)|focus(simp;omega))|(with_reducible apply ja)|((with_reducible apply jb);with_reducible assumption)));kernel_rfl),by (apply jt;(focus repeat(first|(with_reducible first|assumption|apply jd|apply js)|((with_reducible apply jo);first|focus(dsimp only;assumption)|focus(simp;done)|focus(dsimp only;omega))|((with_reducible apply jn);first|with_reducible rfl|focus(simp;done)|focus(simp;omega))|(with_reducible apply ja)|((with_reducible apply jb);with_reducible assumption)));rfl),by (apply jt;(focus repeat(first|(with_reducible first|assumption|apply jd|apply js)|((with_reducible apply jo);first|focus(dsimp only;assumption)|focus(simp;done)|focus(dsimp only;omega))|((with_reducible apply jn);first|with_reducible rfl|focus(simp;done)|focus(simp;omega))|(with_reducible apply ja)|((with_reducible apply jb);with_reducible assumption)));rfl),by (repeat(first|(with_reducible first|assumption|exact Below.refl _ _|refine je ?_|refine jl ?_)|((with_reducible refine jp ?_ ?_);first|focus(dsimp only;assumption)|focus(simp;done)|focus(dsimp only;omega))|(with_reducible refine bt ?_ (by assumption))))⟩
    · have g10:=fun W hC => rnum_any w3.heap.size B p9 e9 a9 hBm W hC
      rw [show rjN B.data.toList ⟨p9,e9,a9⟩ = _ from Hx10.out] at g10
      replace g10:=Lib.hid g10
      go_wp2_with fail
      (with_reducible refine (g10.out _ ?kc10).mono ?_)
      case kc10 => (apply jt;(focus repeat(first|(with_reducible first|assumption|apply jd|apply js)|((with_reducible apply jo);first|focus(dsimp only;assumption)|focus(simp;done)|focus(dsimp only;omega))|((with_reducible apply jn);first|with_reducible rfl|focus(simp;done)|focus(simp;omega))|(with_reducible apply ja)|((with_reducible apply jb);with_reducible assumption)));rfl)
      rintro q w10 ⟨rfl,c10,u10⟩
      have t10 : blk w10 w2.heap.size = some #[.int .i64 k,.int .i64 (clampI v5),.int .i64 (clampI v6),.int .u64 v7,.int .u64 v8,.int .u64 v9,.int .u64 0,.int .i64 0,.int .u64 0,.int .i64 0,.int .i64 0,.int .u64 0,.int .i64 0,.int .i64 0,.int .i64 0,.int .i64 0,.int .i64 0,.int .i64 0,.string ⟨#[]⟩]:=u10.2.1 _ _ hne (by (apply jt;(focus repeat(first|(with_reducible first|assumption|apply jd|apply js)|((with_reducible apply jo);first|focus(dsimp only;assumption)|focus(simp;done)|focus(dsimp only;omega))|((with_reducible apply jn);first|with_reducible rfl|focus(simp;done)|focus(simp;omega))|(with_reducible apply ja)|((with_reducible apply jb);with_reducible assumption)));rfl))
      have z10 : blk w10 w.heap.size = some zF:=u10.2.1 _ _ (by omega) (by (apply jt;(focus repeat(first|(with_reducible first|assumption|apply jd|apply js)|((with_reducible apply jo);first|focus(dsimp only;assumption)|focus(simp;done)|focus(dsimp only;omega))|((with_reducible apply jn);first|with_reducible rfl|focus(simp;done)|focus(simp;omega))|(with_reducible apply ja)|((with_reducible apply jb);with_reducible assumption)));rfl))
      have f10 : blk w10 (w.heap.size + 1) = some #[.int .i64 0,.int .i64 0]:=u10.2.1 _ _ (by omega) (by (apply jt;(focus repeat(first|(with_reducible first|assumption|apply jd|apply js)|((with_reducible apply jo);first|focus(dsimp only;assumption)|focus(simp;done)|focus(dsimp only;omega))|((with_reducible apply jn);first|with_reducible rfl|focus(simp;done)|focus(simp;omega))|(with_reducible apply ja)|((with_reducible apply jb);with_reducible assumption)));rfl))
      have hw10 : Below w.heap.size w w10:=Below.trans (by (repeat(first|(with_reducible first|assumption|exact Below.refl _ _|refine je ?_|refine jl ?_)|((with_reducible refine jp ?_ ?_);first|focus(dsimp only;assumption)|focus(simp;done)|focus(dsimp only;omega))|(with_reducible refine bt ?_ (by assumption))))) (u10.1.mono (by omega))
      clear u10 g10
      have n10:=kn t10
      go_wp2
      go_meet
      case rel => exact ⟨by (apply jt;(focus repeat(first|(with_reducible first|assumption|apply jd|apply js)|((with_reducible apply jo);first|focus(dsimp only;assumption)|focus(simp;done)|focus(dsimp only;omega))|((with_reducible apply jn);first|with_reducible rfl|focus(simp;done)|focus(simp;omega))|(with_reducible apply ja)|((with_reducible apply jb);with_reducible assumption)));rfl),by (apply jt;(focus repeat(first|(with_reducible first|assumption|apply jd|apply js)|((with_reducible apply jo);first|focus(dsimp only;assumption)|focus(simp;done)|focus(dsimp only;omega))|((with_reducible apply jn);first|with_reducible rfl|focus(simp;done)|focus(simp;omega))|(with_reducible apply ja)|((with_reducible apply jb);with_reducible assumption)));kernel_rfl),by (apply jt;(focus repeat(first|(with_reducible first|assumption|apply jd|apply js)|((with_reducible apply jo);first|focus(dsimp only;assumption)|focus(simp;done)|focus(dsimp only;omega))|((with_reducible apply jn);first|with_reducible rfl|focus(simp;done)|focus(simp;omega))|(with_reducible apply ja)|((with_reducible apply jb);with_reducible assumption)));rfl),by (apply jt;(focus repeat(first|(with_reducible first|assumption|apply jd|apply js)|((with_reducible apply jo);first|focus(dsimp only;assumption)|focus(simp;done)|focus(dsimp only;omega))|((with_reducible apply jn);first|with_reducible rfl|focus(simp;done)|focus(simp;omega))|(with_reducible apply ja)|((with_reducible apply jb);with_reducible assumption)));rfl),by (repeat(first|(with_reducible first|assumption|exact Below.refl _ _|refine je ?_|refine jl ?_)|((with_reducible refine jp ?_ ?_);first|focus(dsimp only;assumption)|focus(simp;done)|focus(dsimp only;omega))|(with_reducible refine bt ?_ (by assumption))))⟩
  case rest =>
  obtain ⟨c10,t10,z10,f10,hw10⟩:=hcut
  clear c9 t9 z9 f9 hw9 n9 gB
  have n10:=kn t10
  go_upto_if 97 with fail
  obtain ⟨⟨v11,p11,e11,a11⟩,Hx11⟩ : ∃ x,Hid (rjV D B.data.toList ⟨p10,e10,a10⟩ = x):=⟨_,Lib.hid rfl⟩
  go_cut [] from 9 (fun wq => blk wq w3.heap.size = some (rdC B p11 e11 a11) ∧ blk wq w2.heap.size = some #[.int .i64 k,.int .i64 (clampI v5),.int .i64 (clampI v6),.int .u64 v7,.int .u64 v8,.int .u64 v9,.int .u64 v10,.int .i64 0,.int .u64 0,.int .i64 0,.int .i64 v11.no,.int .u64 v11.sq,.int .i64 v11.of,.int .i64 v11.de,.int .i64 v11.pr,.int .i64 v11.bo,.int .i64 v11.li,.int .i64 v11.to,.string ⟨v11.da.toArray⟩] ∧ blk wq w.heap.size = some zF ∧ blk wq (w.heap.size + 1) = some #[.int .i64 0,.int .i64 0] ∧ Below w.heap.size w wq)
  case first =>
    cases D
    · obtain ⟨rfl,rfl,rfl,rfl⟩:=rjV_no Hx11.out
      go_wp2
      go_meet
      case rel => exact ⟨by (apply jt;(focus repeat(first|(with_reducible first|assumption|apply jd|apply js)|((with_reducible apply jo);first|focus(dsimp only;assumption)|focus(simp;done)|focus(dsimp only;omega))|((with_reducible apply jn);first|with_reducible rfl|focus(simp;done)|focus(simp;omega))|(with_reducible apply ja)|((with_reducible apply jb);with_reducible assumption)));rfl),by (apply jt;(focus repeat(first|(with_reducible first|assumption|apply jd|apply js)|((with_reducible apply jo);first|focus(dsimp only;assumption)|focus(simp;done)|focus(dsimp only;omega))|((with_reducible apply jn);first|with_reducible rfl|focus(simp;done)|focus(simp;omega))|(with_reducible apply ja)|((with_reducible apply jb);with_reducible assumption)));kernel_rfl),by (apply jt;(focus repeat(first|(with_reducible first|assumption|apply jd|apply js)|((with_reducible apply jo);first|focus(dsimp only;assumption)|focus(simp;done)|focus(dsimp only;omega))|((with_reducible apply jn);first|with_reducible rfl|focus(simp;done)|focus(simp;omega))|(with_reducible apply ja)|((with_reducible apply jb);with_reducible assumption)));rfl),by (apply jt;(focus repeat(first|(with_reducible first|assumption|apply jd|apply js)|((with_reducible apply jo);first|focus(dsimp only;assumption)|focus(simp;done)|focus(dsimp only;omega))|((with_reducible apply jn);first|with_reducible rfl|focus(simp;done)|focus(simp;omega))|(with_reducible apply ja)|((with_reducible apply jb);with_reducible assumption)));rfl),by (repeat(first|(with_reducible first|assumption|exact Below.refl _ _|refine je ?_|refine jl ?_)|((with_reducible refine jp ?_ ?_);first|focus(dsimp only;assumption)|focus(simp;done)|focus(dsimp only;omega))|(with_reducible refine bt ?_ (by assumption))))⟩
    · have g11:=fun W hC => rbun_any w3.heap.size B p10 e10 a10 hBb (posj Hx8.out Hx9.out Hx10.out) W hC
      rw [show rjB B.data.toList ⟨p10,e10,a10⟩ = _ from Hx11.out] at g11
      unfold bunV at g11
      replace g11:=Lib.hid g11
      go_wp2_with fail
      (with_reducible refine (g11.out _ ?kc11).mono ?_)
      case kc11 => (apply jt;(focus repeat(first|(with_reducible first|assumption|apply jd|apply js)|((with_reducible apply jo);first|focus(dsimp only;assumption)|focus(simp;done)|focus(dsimp only;omega))|((with_reducible apply jn);first|with_reducible rfl|focus(simp;done)|focus(simp;omega))|(with_reducible apply ja)|((with_reducible apply jb);with_reducible assumption)));rfl)
      rintro q w11 ⟨rfl,c11,u11⟩
      have t11 : blk w11 w2.heap.size = some #[.int .i64 k,.int .i64 (clampI v5),.int .i64 (clampI v6),.int .u64 v7,.int .u64 v8,.int .u64 v9,.int .u64 v10,.int .i64 0,.int .u64 0,.int .i64 0,.int .i64 0,.int .u64 0,.int .i64 0,.int .i64 0,.int .i64 0,.int .i64 0,.int .i64 0,.int .i64 0,.string ⟨#[]⟩]:=u11.2.1 _ _ hne (by (apply jt;(focus repeat(first|(with_reducible first|assumption|apply jd|apply js)|((with_reducible apply jo);first|focus(dsimp only;assumption)|focus(simp;done)|focus(dsimp only;omega))|((with_reducible apply jn);first|with_reducible rfl|focus(simp;done)|focus(simp;omega))|(with_reducible apply ja)|((with_reducible apply jb);with_reducible assumption)));rfl))
      have z11 : blk w11 w.heap.size = some zF:=u11.2.1 _ _ (by omega) (by (apply jt;(focus repeat(first|(with_reducible first|assumption|apply jd|apply js)|((with_reducible apply jo);first|focus(dsimp only;assumption)|focus(simp;done)|focus(dsimp only;omega))|((with_reducible apply jn);first|with_reducible rfl|focus(simp;done)|focus(simp;omega))|(with_reducible apply ja)|((with_reducible apply jb);with_reducible assumption)));rfl))
      have f11 : blk w11 (w.heap.size + 1) = some #[.int .i64 0,.int .i64 0]:=u11.2.1 _ _ (by omega) (by (apply jt;(focus repeat(first|(with_reducible first|assumption|apply jd|apply js)|((with_reducible apply jo);first|focus(dsimp only;assumption)|focus(simp;done)|focus(dsimp only;omega))|((with_reducible apply jn);first|with_reducible rfl|focus(simp;done)|focus(simp;omega))|(with_reducible apply ja)|((with_reducible apply jb);with_reducible assumption)));rfl))
      have hw11 : Below w.heap.size w w11:=Below.trans (by (repeat(first|(with_reducible first|assumption|exact Below.refl _ _|refine je ?_|refine jl ?_)|((with_reducible refine jp ?_ ?_);first|focus(dsimp only;assumption)|focus(simp;done)|focus(dsimp only;omega))|(with_reducible refine bt ?_ (by assumption))))) (u11.1.mono (by omega))
      clear u11 g11
      have n11:=kn t11
      go_wp2
      go_meet
      case rel => exact ⟨by (apply jt;(focus repeat(first|(with_reducible first|assumption|apply jd|apply js)|((with_reducible apply jo);first|focus(dsimp only;assumption)|focus(simp;done)|focus(dsimp only;omega))|((with_reducible apply jn);first|with_reducible rfl|focus(simp;done)|focus(simp;omega))|(with_reducible apply ja)|((with_reducible apply jb);with_reducible assumption)));rfl),by (apply jt;(focus repeat(first|(with_reducible first|assumption|apply jd|apply js)|((with_reducible apply jo);first|focus(dsimp only;assumption)|focus(simp;done)|focus(dsimp only;omega))|((with_reducible apply jn);first|with_reducible rfl|focus(simp;done)|focus(simp;omega))|(with_reducible apply ja)|((with_reducible apply jb);with_reducible assumption)));kernel_rfl),by (apply jt;(focus repeat(first|(with_reducible first|assumption|apply jd|apply js)|((with_reducible apply jo);first|focus(dsimp only;assumption)|focus(simp;done)|focus(dsimp only;omega))|((with_reducible apply jn);first|with_reducible rfl|focus(simp;done)|focus(simp;omega))|(with_reducible apply ja)|((with_reducible apply jb);with_reducible assumption)));rfl),by (apply jt;(focus repeat(first|(with_reducible first|assumption|apply jd|apply js)|((with_reducible apply jo);first|focus(dsimp only;assumption)|focus(simp;done)|focus(dsimp only;omega))|((with_reducible apply jn);first|with_reducible rfl|focus(simp;done)|focus(simp;omega))|(with_reducible apply ja)|((with_reducible apply jb);with_reducible assumption)));rfl),by (repeat(first|(with_reducible first|assumption|exact Below.refl _ _|refine je ?_|refine jl ?_)|((with_reducible refine jp ?_ ?_);first|focus(dsimp only;assumption)|focus(simp;done)|focus(dsimp only;omega))|(with_reducible refine bt ?_ (by assumption))))⟩
  case rest =>
  obtain ⟨c11,t11,z11,f11,hw11⟩:=hcut
  clear c10 t10 z10 f10 hw10 n10 eD
  have n11:=kn t11
  go_upto_if 103 with (go_at_call 35;(with_reducible refine (gI.out _).mono ?_);rintro q wx ⟨rfl,rfl⟩)
  obtain ⟨⟨v12,p12,e12,a12⟩,Hx12⟩ : ∃ x,Hid (rjU I B.data.toList ⟨p11,e11,a11⟩ = x):=⟨_,Lib.hid rfl⟩
  obtain ⟨⟨v13,p13,e13,a13⟩,Hx13⟩ : ∃ x,Hid (rjU I B.data.toList ⟨p12,e12,a12⟩ = x):=⟨_,Lib.hid rfl⟩
  obtain ⟨⟨v14,p14,e14,a14⟩,Hx14⟩ : ∃ x,Hid (rjU I B.data.toList ⟨p13,e13,a13⟩ = x):=⟨_,Lib.hid rfl⟩
  go_cut [] from 9 (fun wq => blk wq w3.heap.size = some (rdC B p14 e14 a14) ∧ blk wq w2.heap.size = some #[.int .i64 k,.int .i64 (clampI v5),.int .i64 (clampI v6),.int .u64 v7,.int .u64 v8,.int .u64 v9,.int .u64 v10,.int .i64 (clampI v12),.int .u64 v13,.int .i64 (clampI v14),.int .i64 v11.no,.int .u64 v11.sq,.int .i64 v11.of,.int .i64 v11.de,.int .i64 v11.pr,.int .i64 v11.bo,.int .i64 v11.li,.int .i64 v11.to,.string ⟨v11.da.toArray⟩] ∧ blk wq w.heap.size = some zF ∧ blk wq (w.heap.size + 1) = some #[.int .i64 0,.int .i64 0] ∧ Below w.heap.size w wq)
  case first =>
    cases I
    · obtain ⟨rfl,rfl,rfl,rfl⟩:=rjU_no Hx12.out
      obtain ⟨rfl,rfl,rfl,rfl⟩:=rjU_no Hx13.out
      obtain ⟨rfl,rfl,rfl,rfl⟩:=rjU_no Hx14.out
      go_wp2
      go_meet
      case rel => exact ⟨by (apply jt;(focus repeat(first|(with_reducible first|assumption|apply jd|apply js)|((with_reducible apply jo);first|focus(dsimp only;assumption)|focus(simp;done)|focus(dsimp only;omega))|((with_reducible apply jn);first|with_reducible rfl|focus(simp;done)|focus(simp;omega))|(with_reducible apply ja)|((with_reducible apply jb);with_reducible assumption)));rfl),by (apply jt;(focus repeat(first|(with_reducible first|assumption|apply jd|apply js)|((with_reducible apply jo);first|focus(dsimp only;assumption)|focus(simp;done)|focus(dsimp only;omega))|((with_reducible apply jn);first|with_reducible rfl|focus(simp;done)|focus(simp;omega))|(with_reducible apply ja)|((with_reducible apply jb);with_reducible assumption)));kernel_rfl),by (apply jt;(focus repeat(first|(with_reducible first|assumption|apply jd|apply js)|((with_reducible apply jo);first|focus(dsimp only;assumption)|focus(simp;done)|focus(dsimp only;omega))|((with_reducible apply jn);first|with_reducible rfl|focus(simp;done)|focus(simp;omega))|(with_reducible apply ja)|((with_reducible apply jb);with_reducible assumption)));rfl),by (apply jt;(focus repeat(first|(with_reducible first|assumption|apply jd|apply js)|((with_reducible apply jo);first|focus(dsimp only;assumption)|focus(simp;done)|focus(dsimp only;omega))|((with_reducible apply jn);first|with_reducible rfl|focus(simp;done)|focus(simp;omega))|(with_reducible apply ja)|((with_reducible apply jb);with_reducible assumption)));rfl),by (repeat(first|(with_reducible first|assumption|exact Below.refl _ _|refine je ?_|refine jl ?_)|((with_reducible refine jp ?_ ?_);first|focus(dsimp only;assumption)|focus(simp;done)|focus(dsimp only;omega))|(with_reducible refine bt ?_ (by assumption))))⟩
    · have g12:=fun W hC => rsmall_any w3.heap.size B p11 e11 a11 hBm W hC
      rw [show rjN B.data.toList ⟨p11,e11,a11⟩ = _ from Hx12.out] at g12
      replace g12:=Lib.hid g12
      go_wp2_with fail
      (with_reducible refine (g12.out _ ?kc12).mono ?_)
      case kc12 => (apply jt;(focus repeat(first|(with_reducible first|assumption|apply jd|apply js)|((with_reducible apply jo);first|focus(dsimp only;assumption)|focus(simp;done)|focus(dsimp only;omega))|((with_reducible apply jn);first|with_reducible rfl|focus(simp;done)|focus(simp;omega))|(with_reducible apply ja)|((with_reducible apply jb);with_reducible assumption)));rfl)
      rintro q w12 ⟨rfl,c12,u12⟩
      have t12 : blk w12 w2.heap.size = some #[.int .i64 k,.int .i64 (clampI v5),.int .i64 (clampI v6),.int .u64 v7,.int .u64 v8,.int .u64 v9,.int .u64 v10,.int .i64 0,.int .u64 0,.int .i64 0,.int .i64 v11.no,.int .u64 v11.sq,.int .i64 v11.of,.int .i64 v11.de,.int .i64 v11.pr,.int .i64 v11.bo,.int .i64 v11.li,.int .i64 v11.to,.string ⟨v11.da.toArray⟩]:=u12.2.1 _ _ hne (by (apply jt;(focus repeat(first|(with_reducible first|assumption|apply jd|apply js)|((with_reducible apply jo);first|focus(dsimp only;assumption)|focus(simp;done)|focus(dsimp only;omega))|((with_reducible apply jn);first|with_reducible rfl|focus(simp;done)|focus(simp;omega))|(with_reducible apply ja)|((with_reducible apply jb);with_reducible assumption)));rfl))
      have z12 : blk w12 w.heap.size = some zF:=u12.2.1 _ _ (by omega) (by (apply jt;(focus repeat(first|(with_reducible first|assumption|apply jd|apply js)|((with_reducible apply jo);first|focus(dsimp only;assumption)|focus(simp;done)|focus(dsimp only;omega))|((with_reducible apply jn);first|with_reducible rfl|focus(simp;done)|focus(simp;omega))|(with_reducible apply ja)|((with_reducible apply jb);with_reducible assumption)));rfl))
      have f12 : blk w12 (w.heap.size + 1) = some #[.int .i64 0,.int .i64 0]:=u12.2.1 _ _ (by omega) (by (apply jt;(focus repeat(first|(with_reducible first|assumption|apply jd|apply js)|((with_reducible apply jo);first|focus(dsimp only;assumption)|focus(simp;done)|focus(dsimp only;omega))|((with_reducible apply jn);first|with_reducible rfl|focus(simp;done)|focus(simp;omega))|(with_reducible apply ja)|((with_reducible apply jb);with_reducible assumption)));rfl))
      have hw12 : Below w.heap.size w w12:=Below.trans (by (repeat(first|(with_reducible first|assumption|exact Below.refl _ _|refine je ?_|refine jl ?_)|((with_reducible refine jp ?_ ?_);first|focus(dsimp only;assumption)|focus(simp;done)|focus(dsimp only;omega))|(with_reducible refine bt ?_ (by assumption))))) (u12.1.mono (by omega))
      clear u12 g12
      have n12:=kn t12
      have g13:=fun W hC => rnum_any w3.heap.size B p12 e12 a12 hBm W hC
      rw [show rjN B.data.toList ⟨p12,e12,a12⟩ = _ from Hx13.out] at g13
      replace g13:=Lib.hid g13
      go_wp2_with fail
      (with_reducible refine (g13.out _ ?kc13).mono ?_)
      case kc13 => (apply jt;(focus repeat(first|(with_reducible first|assumption|apply jd|apply js)|((with_reducible apply jo);first|focus(dsimp only;assumption)|focus(simp;done)|focus(dsimp only;omega))|((with_reducible apply jn);first|with_reducible rfl|focus(simp;done)|focus(simp;omega))|(with_reducible apply ja)|((with_reducible apply jb);with_reducible assumption)));rfl)
      rintro q w13 ⟨rfl,c13,u13⟩
      have t13 : blk w13 w2.heap.size = some #[.int .i64 k,.int .i64 (clampI v5),.int .i64 (clampI v6),.int .u64 v7,.int .u64 v8,.int .u64 v9,.int .u64 v10,.int .i64 (clampI v12),.int .u64 0,.int .i64 0,.int .i64 v11.no,.int .u64 v11.sq,.int .i64 v11.of,.int .i64 v11.de,.int .i64 v11.pr,.int .i64 v11.bo,.int .i64 v11.li,.int .i64 v11.to,.string ⟨v11.da.toArray⟩]:=u13.2.1 _ _ hne (by (apply jt;(focus repeat(first|(with_reducible first|assumption|apply jd|apply js)|((with_reducible apply jo);first|focus(dsimp only;assumption)|focus(simp;done)|focus(dsimp only;omega))|((with_reducible apply jn);first|with_reducible rfl|focus(simp;done)|focus(simp;omega))|(with_reducible apply ja)|((with_reducible apply jb);with_reducible assumption)));rfl))
      have z13 : blk w13 w.heap.size = some zF:=u13.2.1 _ _ (by omega) (by (apply jt;(focus repeat(first|(with_reducible first|assumption|apply jd|apply js)|((with_reducible apply jo);first|focus(dsimp only;assumption)|focus(simp;done)|focus(dsimp only;omega))|((with_reducible apply jn);first|with_reducible rfl|focus(simp;done)|focus(simp;omega))|(with_reducible apply ja)|((with_reducible apply jb);with_reducible assumption)));rfl))
      have f13 : blk w13 (w.heap.size + 1) = some #[.int .i64 0,.int .i64 0]:=u13.2.1 _ _ (by omega) (by (apply jt;(focus repeat(first|(with_reducible first|assumption|apply jd|apply js)|((with_reducible apply jo);first|focus(dsimp only;assumption)|focus(simp;done)|focus(dsimp only;omega))|((with_reducible apply jn);first|with_reducible rfl|focus(simp;done)|focus(simp;omega))|(with_reducible apply ja)|((with_reducible apply jb);with_reducible assumption)));rfl))
      have hw13 : Below w.heap.size w w13:=Below.trans (by (repeat(first|(with_reducible first|assumption|exact Below.refl _ _|refine je ?_|refine jl ?_)|((with_reducible refine jp ?_ ?_);first|focus(dsimp only;assumption)|focus(simp;done)|focus(dsimp only;omega))|(with_reducible refine bt ?_ (by assumption))))) (u13.1.mono (by omega))
      clear u13 g13 c12 t12 z12 f12 hw12 n12
      have n13:=kn t13
      have g14:=fun W hC => rsmall_any w3.heap.size B p13 e13 a13 hBm W hC
      rw [show rjN B.data.toList ⟨p13,e13,a13⟩ = _ from Hx14.out] at g14
      replace g14:=Lib.hid g14
      go_wp2_with fail
      (with_reducible refine (g14.out _ ?kc14).mono ?_)
      case kc14 => (apply jt;(focus repeat(first|(with_reducible first|assumption|apply jd|apply js)|((with_reducible apply jo);first|focus(dsimp only;assumption)|focus(simp;done)|focus(dsimp only;omega))|((with_reducible apply jn);first|with_reducible rfl|focus(simp;done)|focus(simp;omega))|(with_reducible apply ja)|((with_reducible apply jb);with_reducible assumption)));rfl)
      rintro q w14 ⟨rfl,c14,u14⟩
      have t14 : blk w14 w2.heap.size = some #[.int .i64 k,.int .i64 (clampI v5),.int .i64 (clampI v6),.int .u64 v7,.int .u64 v8,.int .u64 v9,.int .u64 v10,.int .i64 (clampI v12),.int .u64 v13,.int .i64 0,.int .i64 v11.no,.int .u64 v11.sq,.int .i64 v11.of,.int .i64 v11.de,.int .i64 v11.pr,.int .i64 v11.bo,.int .i64 v11.li,.int .i64 v11.to,.string ⟨v11.da.toArray⟩]:=u14.2.1 _ _ hne (by (apply jt;(focus repeat(first|(with_reducible first|assumption|apply jd|apply js)|((with_reducible apply jo);first|focus(dsimp only;assumption)|focus(simp;done)|focus(dsimp only;omega))|((with_reducible apply jn);first|with_reducible rfl|focus(simp;done)|focus(simp;omega))|(with_reducible apply ja)|((with_reducible apply jb);with_reducible assumption)));rfl))
      have z14 : blk w14 w.heap.size = some zF:=u14.2.1 _ _ (by omega) (by (apply jt;(focus repeat(first|(with_reducible first|assumption|apply jd|apply js)|((with_reducible apply jo);first|focus(dsimp only;assumption)|focus(simp;done)|focus(dsimp only;omega))|((with_reducible apply jn);first|with_reducible rfl|focus(simp;done)|focus(simp;omega))|(with_reducible apply ja)|((with_reducible apply jb);with_reducible assumption)));rfl))
      have f14 : blk w14 (w.heap.size + 1) = some #[.int .i64 0,.int .i64 0]:=u14.2.1 _ _ (by omega) (by (apply jt;(focus repeat(first|(with_reducible first|assumption|apply jd|apply js)|((with_reducible apply jo);first|focus(dsimp only;assumption)|focus(simp;done)|focus(dsimp only;omega))|((with_reducible apply jn);first|with_reducible rfl|focus(simp;done)|focus(simp;omega))|(with_reducible apply ja)|((with_reducible apply jb);with_reducible assumption)));rfl))
      have hw14 : Below w.heap.size w w14:=Below.trans (by (repeat(first|(with_reducible first|assumption|exact Below.refl _ _|refine je ?_|refine jl ?_)|((with_reducible refine jp ?_ ?_);first|focus(dsimp only;assumption)|focus(simp;done)|focus(dsimp only;omega))|(with_reducible refine bt ?_ (by assumption))))) (u14.1.mono (by omega))
      clear u14 g14 c13 t13 z13 f13 hw13 n13
      have n14:=kn t14
      go_wp2
      go_meet
      case rel => exact ⟨by (apply jt;(focus repeat(first|(with_reducible first|assumption|apply jd|apply js)|((with_reducible apply jo);first|focus(dsimp only;assumption)|focus(simp;done)|focus(dsimp only;omega))|((with_reducible apply jn);first|with_reducible rfl|focus(simp;done)|focus(simp;omega))|(with_reducible apply ja)|((with_reducible apply jb);with_reducible assumption)));rfl),by (apply jt;(focus repeat(first|(with_reducible first|assumption|apply jd|apply js)|((with_reducible apply jo);first|focus(dsimp only;assumption)|focus(simp;done)|focus(dsimp only;omega))|((with_reducible apply jn);first|with_reducible rfl|focus(simp;done)|focus(simp;omega))|(with_reducible apply ja)|((with_reducible apply jb);with_reducible assumption)));kernel_rfl),by (apply jt;(focus repeat(first|(with_reducible first|assumption|apply jd|apply js)|((with_reducible apply jo);first|focus(dsimp only;assumption)|focus(simp;done)|focus(dsimp only;omega))|((with_reducible apply jn);first|with_reducible rfl|focus(simp;done)|focus(simp;omega))|(with_reducible apply ja)|((with_reducible apply jb);with_reducible assumption)));rfl),by (apply jt;(focus repeat(first|(with_reducible first|assumption|apply jd|apply js)|((with_reducible apply jo);first|focus(dsimp only;assumption)|focus(simp;done)|focus(dsimp only;omega))|((with_reducible apply jn);first|with_reducible rfl|focus(simp;done)|focus(simp;omega))|(with_reducible apply ja)|((with_reducible apply jb);with_reducible assumption)));rfl),by (repeat(first|(with_reducible first|assumption|exact Below.refl _ _|refine je ?_|refine jl ?_)|((with_reducible refine jp ?_ ?_);first|focus(dsimp only;assumption)|focus(simp;done)|focus(dsimp only;omega))|(with_reducible refine bt ?_ (by assumption))))⟩
  case rest =>
  obtain ⟨c14,t14,z14,f14,hw14⟩:=hcut
  clear c11 t11 z11 f11 hw11 n11 gI
  have n14:=kn t14
  obtain ⟨F,hF⟩ : ∃ F : Fr,F = ⟨k,clampI v5,clampI v6,v7,v8,v9,v10,clampI v12,v13,clampI v14,v11.no,v11.sq,v11.of,v11.de,v11.pr,v11.bo,v11.li,v11.to,⟨v11.da.toArray⟩⟩:=⟨_,rfl⟩
  replace t14 : blk wc w2.heap.size = some #[.int .i64 F.k,.int .i64 F.fr,.int .i64 F.to_,.int .u64 F.mi,.int .u64 F.yo,.int .u64 F.a,.int .u64 F.b,.int .i64 F.ino,.int .u64 F.isq,.int .i64 F.iof,.int .i64 F.bno,.int .u64 F.bsq,.int .i64 F.bof,.int .i64 F.bde,.int .i64 F.bpr,.int .i64 F.bbo,.int .i64 F.bli,.int .i64 F.bto,.string F.da]:=(by rw [hF];exact t14)
  have hR:=readJ_eq hA.out hBq.out hD.out hI.out Hx5.out Hx6.out Hx7.out Hx8.out Hx9.out Hx10.out Hx11.out Hx12.out Hx13.out Hx14.out
  rw [← hF] at hR
  have hFd : F.da.size ≤ maxLen:=(by
    rw [hF]
    have:=rjV_da D B.data.toList ⟨p10,e10,a10⟩
    rw [Hx11.out] at this
    have h9 : (⟨v11.da.toArray⟩ : ByteArray).size = v11.da.length:=bsize _
    have h8 : B.data.toList.length = B.size:=by simp
    show (⟨v11.da.toArray⟩ : ByteArray).size ≤ maxLen
    rw [h9]
    simp only at this
    omega)
  clear hF n14 Hx5 Hx6 Hx7 Hx8 Hx9 Hx10 Hx11 Hx12 Hx13 Hx14
  replace hR:=Lib.hid hR
  have gc:=Lib.hid (fun w => rcheck_any F hFd w)
  clear hFd
  obtain ⟨c0,hc0⟩ : ∃ c,frC F = c:=⟨_,rfl⟩
  rw [hc0] at gc
  replace hc0:=Lib.hid hc0
  have hl : (B.data.toList.length : Int) = B.size:=by simp
  replace hl:=Lib.hid hl
  have m14:=kn c14
  by_cases he : e14 = 0
  · subst he
    by_cases hp : p14 < (B.size : Int)
    · have tp : decide (p14 < (B.size : Int)) = true:=decide_eq_true hp
      have hp':=Lib.hid hp;clear hp
      go_upto_region 29 with fail
      refine wp_region_lit ?_
      refine wpList_load_blk 29 (.tmp 6) w2.heap.size #[.int .i64 F.k,.int .i64 F.fr,.int .i64 F.to_,.int .u64 F.mi,.int .u64 F.yo,.int .u64 F.a,.int .u64 F.b,.int .i64 F.ino,.int .u64 F.isq,.int .i64 F.iof,.int .i64 F.bno,.int .u64 F.bsq,.int .i64 F.bof,.int .i64 F.bde,.int .i64 F.bpr,.int .i64 F.bbo,.int .i64 F.bli,.int .i64 F.bto,.string F.da] (by (apply jt;(focus repeat(first|(with_reducible first|assumption|apply jd|apply js)|((with_reducible apply jo);first|focus(dsimp only;assumption)|focus(simp;done)|focus(dsimp only;omega))|((with_reducible apply jn);first|with_reducible rfl|focus(simp;done)|focus(simp;omega))|(with_reducible apply ja)|((with_reducible apply jb);with_reducible assumption)));rfl)) _ rfl rfl rfl Tryd.underlying29 rfl (by kernel_rfl) ?_
      conv => arg 5;simp [Act.put]
      go_wp2_with fail
      (with_reducible refine (gc.out _).mono ?_)
      rintro e w16 ⟨rfl,h16⟩
      have c16 : blk w16 w3.heap.size = some (rdC B p14 3 p14):=blk_below h16 (by (apply jt;(focus repeat(first|(with_reducible first|assumption|apply jd|apply js)|((with_reducible apply jo);first|focus(dsimp only;assumption)|focus(simp;done)|focus(dsimp only;omega))|((with_reducible apply jn);first|with_reducible rfl|focus(simp;done)|focus(simp;omega))|(with_reducible apply ja)|((with_reducible apply jb);with_reducible assumption)));rfl))
      have t16 : blk w16 w2.heap.size = some #[.int .i64 F.k,.int .i64 F.fr,.int .i64 F.to_,.int .u64 F.mi,.int .u64 F.yo,.int .u64 F.a,.int .u64 F.b,.int .i64 F.ino,.int .u64 F.isq,.int .i64 F.iof,.int .i64 F.bno,.int .u64 F.bsq,.int .i64 F.bof,.int .i64 F.bde,.int .i64 F.bpr,.int .i64 F.bbo,.int .i64 F.bli,.int .i64 F.bto,.string F.da]:=blk_below h16 (by (apply jt;(focus repeat(first|(with_reducible first|assumption|apply jd|apply js)|((with_reducible apply jo);first|focus(dsimp only;assumption)|focus(simp;done)|focus(dsimp only;omega))|((with_reducible apply jn);first|with_reducible rfl|focus(simp;done)|focus(simp;omega))|(with_reducible apply ja)|((with_reducible apply jb);with_reducible assumption)));rfl))
      have z16 : blk w16 w.heap.size = some zF:=blk_below h16 (by (apply jt;(focus repeat(first|(with_reducible first|assumption|apply jd|apply js)|((with_reducible apply jo);first|focus(dsimp only;assumption)|focus(simp;done)|focus(dsimp only;omega))|((with_reducible apply jn);first|with_reducible rfl|focus(simp;done)|focus(simp;omega))|(with_reducible apply ja)|((with_reducible apply jb);with_reducible assumption)));rfl))
      have f16 : blk w16 (w.heap.size + 1) = some #[.int .i64 0,.int .i64 0]:=blk_below h16 (by (apply jt;(focus repeat(first|(with_reducible first|assumption|apply jd|apply js)|((with_reducible apply jo);first|focus(dsimp only;assumption)|focus(simp;done)|focus(dsimp only;omega))|((with_reducible apply jn);first|with_reducible rfl|focus(simp;done)|focus(simp;omega))|(with_reducible apply ja)|((with_reducible apply jb);with_reducible assumption)));rfl))
      have hw16 : Below w.heap.size w w16:=bt (by (repeat(first|(with_reducible first|assumption|exact Below.refl _ _|refine je ?_|refine jl ?_)|((with_reducible refine jp ?_ ?_);first|focus(dsimp only;assumption)|focus(simp;done)|focus(dsimp only;omega))|(with_reducible refine bt ?_ (by assumption))))) h16
      clear h16 gc m14 c14 t14 z14 f14 hw14
      have n16:=kn c16
      go_upto_region 33 with fail
      refine wp_region_tail 6 (by kernel_rfl) (by kernel_rfl) ?_
      intro W1 hE hN
      have c18 : blk W1 w3.heap.size = some (rdC B p14 3 p14):=(by rw [hE.out];(apply jt;(focus repeat(first|(with_reducible first|assumption|apply jd|apply js)|((with_reducible apply jo);first|focus(dsimp only;assumption)|focus(simp;done)|focus(dsimp only;omega))|((with_reducible apply jn);first|with_reducible rfl|focus(simp;done)|focus(simp;omega))|(with_reducible apply ja)|((with_reducible apply jb);with_reducible assumption)));rfl))
      have z18 : blk W1 w.heap.size = some zF:=(by rw [hE.out];(apply jt;(focus repeat(first|(with_reducible first|assumption|apply jd|apply js)|((with_reducible apply jo);first|focus(dsimp only;assumption)|focus(simp;done)|focus(dsimp only;omega))|((with_reducible apply jn);first|with_reducible rfl|focus(simp;done)|focus(simp;omega))|(with_reducible apply ja)|((with_reducible apply jb);with_reducible assumption)));rfl))
      have f18 : blk W1 (w.heap.size + 1) = some #[.int .i64 0,.int .i64 0]:=(by rw [hE.out];(apply jt;(focus repeat(first|(with_reducible first|assumption|apply jd|apply js)|((with_reducible apply jo);first|focus(dsimp only;assumption)|focus(simp;done)|focus(dsimp only;omega))|((with_reducible apply jn);first|with_reducible rfl|focus(simp;done)|focus(simp;omega))|(with_reducible apply ja)|((with_reducible apply jb);with_reducible assumption)));rfl))
      have hw18 : Below w.heap.size w W1:=(by rw [hE.out];(repeat(first|(with_reducible first|assumption|exact Below.refl _ _|refine je ?_|refine jl ?_)|((with_reducible refine jp ?_ ?_);first|focus(dsimp only;assumption)|focus(simp;done)|focus(dsimp only;omega))|(with_reducible refine bt ?_ (by assumption)))))
      have knc:=calm_kn c18
      clear hE n16 c16 t16 z16 f16 hw16
      simp only [List.take_succ_cons,List.take_zero,List.drop_succ_cons,List.drop_zero]
      refine wpQuiet_build_is 29 #[] zF rfl rfl (by kernel_rfl) ?_
      conv => arg 6;simp [Act.put]
      iterate 4 (go_big_quiet_step (fail))
      refine wpQuiet_store_same 29 (.tmp 2) (.tmp 162) w.heap.size zF (by rintro _ ⟨x,rfl⟩;exact blk_below x.ok z18) rfl rfl rfl rfl (by kernel_rfl) (by kernel_rfl) ?_
      conv => arg 6;simp [Act.put]
      refine wpQuiet_nil ?_
      rintro _ ⟨x,rfl⟩
      have z1:=blk_below x.ok z18
      have f1:=blk_below x.ok f18
      have hw1 : Below w.heap.size w x.wd:=hw18.trans (x.ok.mono hw18.size)
      clear z18 f18 hw18 knc
      refine wpList_store_blk 32 (.tmp 3) (.tmp 166) (w.heap.size + 1) #[.int .i64 0,.int .i64 0] #[.int .i64 3,.int .i64 p14] f1 rfl rfl rfl rfl (by kernel_rfl) rfl (by kernel_rfl) ?_
      intro w20 k20 o20 B20 s20
      conv => arg 5;simp [Act.put]
      have z20:=o20 w.heap.size zF (by omega) z1
      have hw20 : Below w.heap.size w w20:=B20 _ _ (by omega) hw1
      clear o20 B20 s20 z1 f1 hw1
      go_wp2
      refine ret_row2 2 3 29 32 _ _ z20 k20 rfl rfl Tryd.underlying29 rfl (by kernel_rfl) rfl Tryd.underlying32 rfl (by kernel_rfl) rfl ⟨?_,hw20⟩
      rw [hV.out,hR.out,endJ_form B.data.toList F p14 a14 (by rw [hl.out];exact hp'.out)]
      rfl
    · have tp : decide (p14 < (B.size : Int)) = false:=decide_eq_false hp
      have hp':=Lib.hid (Int.not_lt.1 hp);clear hp
      by_cases h0 : c0 = 0
      · subst h0
        go_upto_region 29 with fail
        refine wp_region_lit ?_
        refine wpList_load_blk 29 (.tmp 6) w2.heap.size #[.int .i64 F.k,.int .i64 F.fr,.int .i64 F.to_,.int .u64 F.mi,.int .u64 F.yo,.int .u64 F.a,.int .u64 F.b,.int .i64 F.ino,.int .u64 F.isq,.int .i64 F.iof,.int .i64 F.bno,.int .u64 F.bsq,.int .i64 F.bof,.int .i64 F.bde,.int .i64 F.bpr,.int .i64 F.bbo,.int .i64 F.bli,.int .i64 F.bto,.string F.da] (by (apply jt;(focus repeat(first|(with_reducible first|assumption|apply jd|apply js)|((with_reducible apply jo);first|focus(dsimp only;assumption)|focus(simp;done)|focus(dsimp only;omega))|((with_reducible apply jn);first|with_reducible rfl|focus(simp;done)|focus(simp;omega))|(with_reducible apply ja)|((with_reducible apply jb);with_reducible assumption)));rfl)) _ rfl rfl rfl Tryd.underlying29 rfl (by kernel_rfl) ?_
        conv => arg 5;simp [Act.put]
        go_wp2_with fail
        (with_reducible refine (gc.out _).mono ?_)
        rintro e w16 ⟨rfl,h16⟩
        have c16 : blk w16 w3.heap.size = some (rdC B p14 0 a14):=blk_below h16 (by (apply jt;(focus repeat(first|(with_reducible first|assumption|apply jd|apply js)|((with_reducible apply jo);first|focus(dsimp only;assumption)|focus(simp;done)|focus(dsimp only;omega))|((with_reducible apply jn);first|with_reducible rfl|focus(simp;done)|focus(simp;omega))|(with_reducible apply ja)|((with_reducible apply jb);with_reducible assumption)));rfl))
        have t16 : blk w16 w2.heap.size = some #[.int .i64 F.k,.int .i64 F.fr,.int .i64 F.to_,.int .u64 F.mi,.int .u64 F.yo,.int .u64 F.a,.int .u64 F.b,.int .i64 F.ino,.int .u64 F.isq,.int .i64 F.iof,.int .i64 F.bno,.int .u64 F.bsq,.int .i64 F.bof,.int .i64 F.bde,.int .i64 F.bpr,.int .i64 F.bbo,.int .i64 F.bli,.int .i64 F.bto,.string F.da]:=blk_below h16 (by (apply jt;(focus repeat(first|(with_reducible first|assumption|apply jd|apply js)|((with_reducible apply jo);first|focus(dsimp only;assumption)|focus(simp;done)|focus(dsimp only;omega))|((with_reducible apply jn);first|with_reducible rfl|focus(simp;done)|focus(simp;omega))|(with_reducible apply ja)|((with_reducible apply jb);with_reducible assumption)));rfl))
        have z16 : blk w16 w.heap.size = some zF:=blk_below h16 (by (apply jt;(focus repeat(first|(with_reducible first|assumption|apply jd|apply js)|((with_reducible apply jo);first|focus(dsimp only;assumption)|focus(simp;done)|focus(dsimp only;omega))|((with_reducible apply jn);first|with_reducible rfl|focus(simp;done)|focus(simp;omega))|(with_reducible apply ja)|((with_reducible apply jb);with_reducible assumption)));rfl))
        have f16 : blk w16 (w.heap.size + 1) = some #[.int .i64 0,.int .i64 0]:=blk_below h16 (by (apply jt;(focus repeat(first|(with_reducible first|assumption|apply jd|apply js)|((with_reducible apply jo);first|focus(dsimp only;assumption)|focus(simp;done)|focus(dsimp only;omega))|((with_reducible apply jn);first|with_reducible rfl|focus(simp;done)|focus(simp;omega))|(with_reducible apply ja)|((with_reducible apply jb);with_reducible assumption)));rfl))
        have hw16 : Below w.heap.size w w16:=bt (by (repeat(first|(with_reducible first|assumption|exact Below.refl _ _|refine je ?_|refine jl ?_)|((with_reducible refine jp ?_ ?_);first|focus(dsimp only;assumption)|focus(simp;done)|focus(dsimp only;omega))|(with_reducible refine bt ?_ (by assumption))))) h16
        clear h16 gc m14 c14 t14 z14 f14 hw14
        have n16:=kn c16
        go_upto_region 34 with fail
        refine wp_region_lit ?_
        refine wpList_load_blk 29 (.tmp 6) w2.heap.size #[.int .i64 F.k,.int .i64 F.fr,.int .i64 F.to_,.int .u64 F.mi,.int .u64 F.yo,.int .u64 F.a,.int .u64 F.b,.int .i64 F.ino,.int .u64 F.isq,.int .i64 F.iof,.int .i64 F.bno,.int .u64 F.bsq,.int .i64 F.bof,.int .i64 F.bde,.int .i64 F.bpr,.int .i64 F.bbo,.int .i64 F.bli,.int .i64 F.bto,.string F.da] t16 _ rfl rfl rfl Tryd.underlying29 rfl (by kernel_rfl) ?_
        conv => arg 5;simp [Act.put]
        refine wpList_build_is 32 #[] #[.int .i64 0,.int .i64 0] rfl rfl (by kernel_rfl) ?_
        conv => arg 5;simp [Act.put]
        refine wpList_store_blk 29 (.tmp 2) (.tmp 167) w.heap.size zF #[.int .i64 F.k,.int .i64 F.fr,.int .i64 F.to_,.int .u64 F.mi,.int .u64 F.yo,.int .u64 F.a,.int .u64 F.b,.int .i64 F.ino,.int .u64 F.isq,.int .i64 F.iof,.int .i64 F.bno,.int .u64 F.bsq,.int .i64 F.bof,.int .i64 F.bde,.int .i64 F.bpr,.int .i64 F.bbo,.int .i64 F.bli,.int .i64 F.bto,.string F.da] z16 rfl rfl rfl rfl (by kernel_rfl) rfl (by kernel_rfl) ?_
        intro w18 k18 o18 B18 s18
        conv => arg 5;simp [Act.put]
        have f18:=o18 (w.heap.size + 1) #[.int .i64 0,.int .i64 0] (by omega) f16
        have hw18 : Below w.heap.size w w18:=B18 _ _ (Nat.le_refl _) hw16
        clear o18 B18 s18
        refine wpList_store_blk 32 (.tmp 3) (.tmp 168) (w.heap.size + 1) #[.int .i64 0,.int .i64 0] #[.int .i64 0,.int .i64 0] f18 rfl rfl rfl rfl (by kernel_rfl) rfl (by kernel_rfl) ?_
        intro w19 k19 o19 B19 s19
        conv => arg 5;simp [Act.put]
        have z19:=o19 w.heap.size #[.int .i64 F.k,.int .i64 F.fr,.int .i64 F.to_,.int .u64 F.mi,.int .u64 F.yo,.int .u64 F.a,.int .u64 F.b,.int .i64 F.ino,.int .u64 F.isq,.int .i64 F.iof,.int .i64 F.bno,.int .u64 F.bsq,.int .i64 F.bof,.int .i64 F.bde,.int .i64 F.bpr,.int .i64 F.bbo,.int .i64 F.bli,.int .i64 F.bto,.string F.da] (by omega) k18
        have hw19 : Below w.heap.size w w19:=B19 _ _ (by omega) hw18
        clear o19 B19 s19 k18 f18 hw18
        go_wp2
        refine ret_row2 2 3 29 32 _ _ z19 k19 rfl rfl Tryd.underlying29 rfl (by kernel_rfl) rfl Tryd.underlying32 rfl (by kernel_rfl) rfl ⟨?_,hw19⟩
        rw [hV.out,hR.out,endJ_ok B.data.toList F p14 a14 (by rw [hl.out];exact Int.not_lt.2 hp'.out) hc0.out]
        rfl
      · have h0' : (c0 != 0) = true:=(by simp [h0])
        have h0'' : (c0 == 0) = false:=(by simp [h0])
        replace h0:=Lib.hid h0
        go_upto_region 29 with fail
        refine wp_region_lit ?_
        refine wpList_load_blk 29 (.tmp 6) w2.heap.size #[.int .i64 F.k,.int .i64 F.fr,.int .i64 F.to_,.int .u64 F.mi,.int .u64 F.yo,.int .u64 F.a,.int .u64 F.b,.int .i64 F.ino,.int .u64 F.isq,.int .i64 F.iof,.int .i64 F.bno,.int .u64 F.bsq,.int .i64 F.bof,.int .i64 F.bde,.int .i64 F.bpr,.int .i64 F.bbo,.int .i64 F.bli,.int .i64 F.bto,.string F.da] (by (apply jt;(focus repeat(first|(with_reducible first|assumption|apply jd|apply js)|((with_reducible apply jo);first|focus(dsimp only;assumption)|focus(simp;done)|focus(dsimp only;omega))|((with_reducible apply jn);first|with_reducible rfl|focus(simp;done)|focus(simp;omega))|(with_reducible apply ja)|((with_reducible apply jb);with_reducible assumption)));rfl)) _ rfl rfl rfl Tryd.underlying29 rfl (by kernel_rfl) ?_
        conv => arg 5;simp [Act.put]
        go_wp2_with fail
        (with_reducible refine (gc.out _).mono ?_)
        rintro e w16 ⟨rfl,h16⟩
        have c16 : blk w16 w3.heap.size = some (rdC B p14 0 a14):=blk_below h16 (by (apply jt;(focus repeat(first|(with_reducible first|assumption|apply jd|apply js)|((with_reducible apply jo);first|focus(dsimp only;assumption)|focus(simp;done)|focus(dsimp only;omega))|((with_reducible apply jn);first|with_reducible rfl|focus(simp;done)|focus(simp;omega))|(with_reducible apply ja)|((with_reducible apply jb);with_reducible assumption)));rfl))
        have t16 : blk w16 w2.heap.size = some #[.int .i64 F.k,.int .i64 F.fr,.int .i64 F.to_,.int .u64 F.mi,.int .u64 F.yo,.int .u64 F.a,.int .u64 F.b,.int .i64 F.ino,.int .u64 F.isq,.int .i64 F.iof,.int .i64 F.bno,.int .u64 F.bsq,.int .i64 F.bof,.int .i64 F.bde,.int .i64 F.bpr,.int .i64 F.bbo,.int .i64 F.bli,.int .i64 F.bto,.string F.da]:=blk_below h16 (by (apply jt;(focus repeat(first|(with_reducible first|assumption|apply jd|apply js)|((with_reducible apply jo);first|focus(dsimp only;assumption)|focus(simp;done)|focus(dsimp only;omega))|((with_reducible apply jn);first|with_reducible rfl|focus(simp;done)|focus(simp;omega))|(with_reducible apply ja)|((with_reducible apply jb);with_reducible assumption)));rfl))
        have z16 : blk w16 w.heap.size = some zF:=blk_below h16 (by (apply jt;(focus repeat(first|(with_reducible first|assumption|apply jd|apply js)|((with_reducible apply jo);first|focus(dsimp only;assumption)|focus(simp;done)|focus(dsimp only;omega))|((with_reducible apply jn);first|with_reducible rfl|focus(simp;done)|focus(simp;omega))|(with_reducible apply ja)|((with_reducible apply jb);with_reducible assumption)));rfl))
        have f16 : blk w16 (w.heap.size + 1) = some #[.int .i64 0,.int .i64 0]:=blk_below h16 (by (apply jt;(focus repeat(first|(with_reducible first|assumption|apply jd|apply js)|((with_reducible apply jo);first|focus(dsimp only;assumption)|focus(simp;done)|focus(dsimp only;omega))|((with_reducible apply jn);first|with_reducible rfl|focus(simp;done)|focus(simp;omega))|(with_reducible apply ja)|((with_reducible apply jb);with_reducible assumption)));rfl))
        have hw16 : Below w.heap.size w w16:=bt (by (repeat(first|(with_reducible first|assumption|exact Below.refl _ _|refine je ?_|refine jl ?_)|((with_reducible refine jp ?_ ?_);first|focus(dsimp only;assumption)|focus(simp;done)|focus(dsimp only;omega))|(with_reducible refine bt ?_ (by assumption))))) h16
        clear h16 gc m14 c14 t14 z14 f14 hw14
        have n16:=kn c16
        go_upto_region 33 with fail
        refine wp_region_tail 6 (by kernel_rfl) (by kernel_rfl) ?_
        intro W1 hE hN
        have c18 : blk W1 w3.heap.size = some (rdC B p14 c0 0):=(by rw [hE.out];(apply jt;(focus repeat(first|(with_reducible first|assumption|apply jd|apply js)|((with_reducible apply jo);first|focus(dsimp only;assumption)|focus(simp;done)|focus(dsimp only;omega))|((with_reducible apply jn);first|with_reducible rfl|focus(simp;done)|focus(simp;omega))|(with_reducible apply ja)|((with_reducible apply jb);with_reducible assumption)));rfl))
        have z18 : blk W1 w.heap.size = some zF:=(by rw [hE.out];(apply jt;(focus repeat(first|(with_reducible first|assumption|apply jd|apply js)|((with_reducible apply jo);first|focus(dsimp only;assumption)|focus(simp;done)|focus(dsimp only;omega))|((with_reducible apply jn);first|with_reducible rfl|focus(simp;done)|focus(simp;omega))|(with_reducible apply ja)|((with_reducible apply jb);with_reducible assumption)));rfl))
        have f18 : blk W1 (w.heap.size + 1) = some #[.int .i64 0,.int .i64 0]:=(by rw [hE.out];(apply jt;(focus repeat(first|(with_reducible first|assumption|apply jd|apply js)|((with_reducible apply jo);first|focus(dsimp only;assumption)|focus(simp;done)|focus(dsimp only;omega))|((with_reducible apply jn);first|with_reducible rfl|focus(simp;done)|focus(simp;omega))|(with_reducible apply ja)|((with_reducible apply jb);with_reducible assumption)));rfl))
        have hw18 : Below w.heap.size w W1:=(by rw [hE.out];(repeat(first|(with_reducible first|assumption|exact Below.refl _ _|refine je ?_|refine jl ?_)|((with_reducible refine jp ?_ ?_);first|focus(dsimp only;assumption)|focus(simp;done)|focus(dsimp only;omega))|(with_reducible refine bt ?_ (by assumption)))))
        have knc:=calm_kn c18
        clear hE n16 c16 t16 z16 f16 hw16
        simp only [List.take_succ_cons,List.take_zero,List.drop_succ_cons,List.drop_zero]
        refine wpQuiet_build_is 29 #[] zF rfl rfl (by kernel_rfl) ?_
        conv => arg 6;simp [Act.put]
        iterate 4 (go_big_quiet_step (fail))
        refine wpQuiet_store_same 29 (.tmp 2) (.tmp 162) w.heap.size zF (by rintro _ ⟨x,rfl⟩;exact blk_below x.ok z18) rfl rfl rfl rfl (by kernel_rfl) (by kernel_rfl) ?_
        conv => arg 6;simp [Act.put]
        refine wpQuiet_nil ?_
        rintro _ ⟨x,rfl⟩
        have z1:=blk_below x.ok z18
        have f1:=blk_below x.ok f18
        have hw1 : Below w.heap.size w x.wd:=hw18.trans (x.ok.mono hw18.size)
        clear z18 f18 hw18 knc
        refine wpList_store_blk 32 (.tmp 3) (.tmp 166) (w.heap.size + 1) #[.int .i64 0,.int .i64 0] #[.int .i64 c0,.int .i64 0] f1 rfl rfl rfl rfl (by kernel_rfl) rfl (by kernel_rfl) ?_
        intro w20 k20 o20 B20 s20
        conv => arg 5;simp [Act.put]
        have z20:=o20 w.heap.size zF (by omega) z1
        have hw20 : Below w.heap.size w w20:=B20 _ _ (by omega) hw1
        clear o20 B20 s20 z1 f1 hw1
        go_wp2
        refine ret_row2 2 3 29 32 _ _ z20 k20 rfl rfl Tryd.underlying29 rfl (by kernel_rfl) rfl Tryd.underlying32 rfl (by kernel_rfl) rfl ⟨?_,hw20⟩
        rw [hV.out,hR.out,endJ_chk B.data.toList F p14 a14 (by rw [hl.out];exact Int.not_lt.2 hp'.out) (by rw [hc0.out];exact h0.out),hc0.out]
        rfl
  · have he1 : (e14 != 0) = true:=(by simp [he])
    have he2 : (e14 == 0) = false:=(by simp [he])
    replace he:=Lib.hid he
    go_upto_region 29 with fail
    refine wp_region_lit ?_
    refine wpList_load_blk 29 (.tmp 6) w2.heap.size #[.int .i64 F.k,.int .i64 F.fr,.int .i64 F.to_,.int .u64 F.mi,.int .u64 F.yo,.int .u64 F.a,.int .u64 F.b,.int .i64 F.ino,.int .u64 F.isq,.int .i64 F.iof,.int .i64 F.bno,.int .u64 F.bsq,.int .i64 F.bof,.int .i64 F.bde,.int .i64 F.bpr,.int .i64 F.bbo,.int .i64 F.bli,.int .i64 F.bto,.string F.da] (by (apply jt;(focus repeat(first|(with_reducible first|assumption|apply jd|apply js)|((with_reducible apply jo);first|focus(dsimp only;assumption)|focus(simp;done)|focus(dsimp only;omega))|((with_reducible apply jn);first|with_reducible rfl|focus(simp;done)|focus(simp;omega))|(with_reducible apply ja)|((with_reducible apply jb);with_reducible assumption)));rfl)) _ rfl rfl rfl Tryd.underlying29 rfl (by kernel_rfl) ?_
    conv => arg 5;simp [Act.put]
    go_wp2_with fail
    (with_reducible refine (gc.out _).mono ?_)
    rintro e w16 ⟨rfl,h16⟩
    have c16 : blk w16 w3.heap.size = some (rdC B p14 e14 a14):=blk_below h16 (by (apply jt;(focus repeat(first|(with_reducible first|assumption|apply jd|apply js)|((with_reducible apply jo);first|focus(dsimp only;assumption)|focus(simp;done)|focus(dsimp only;omega))|((with_reducible apply jn);first|with_reducible rfl|focus(simp;done)|focus(simp;omega))|(with_reducible apply ja)|((with_reducible apply jb);with_reducible assumption)));rfl))
    have t16 : blk w16 w2.heap.size = some #[.int .i64 F.k,.int .i64 F.fr,.int .i64 F.to_,.int .u64 F.mi,.int .u64 F.yo,.int .u64 F.a,.int .u64 F.b,.int .i64 F.ino,.int .u64 F.isq,.int .i64 F.iof,.int .i64 F.bno,.int .u64 F.bsq,.int .i64 F.bof,.int .i64 F.bde,.int .i64 F.bpr,.int .i64 F.bbo,.int .i64 F.bli,.int .i64 F.bto,.string F.da]:=blk_below h16 (by (apply jt;(focus repeat(first|(with_reducible first|assumption|apply jd|apply js)|((with_reducible apply jo);first|focus(dsimp only;assumption)|focus(simp;done)|focus(dsimp only;omega))|((with_reducible apply jn);first|with_reducible rfl|focus(simp;done)|focus(simp;omega))|(with_reducible apply ja)|((with_reducible apply jb);with_reducible assumption)));rfl))
    have z16 : blk w16 w.heap.size = some zF:=blk_below h16 (by (apply jt;(focus repeat(first|(with_reducible first|assumption|apply jd|apply js)|((with_reducible apply jo);first|focus(dsimp only;assumption)|focus(simp;done)|focus(dsimp only;omega))|((with_reducible apply jn);first|with_reducible rfl|focus(simp;done)|focus(simp;omega))|(with_reducible apply ja)|((with_reducible apply jb);with_reducible assumption)));rfl))
    have f16 : blk w16 (w.heap.size + 1) = some #[.int .i64 0,.int .i64 0]:=blk_below h16 (by (apply jt;(focus repeat(first|(with_reducible first|assumption|apply jd|apply js)|((with_reducible apply jo);first|focus(dsimp only;assumption)|focus(simp;done)|focus(dsimp only;omega))|((with_reducible apply jn);first|with_reducible rfl|focus(simp;done)|focus(simp;omega))|(with_reducible apply ja)|((with_reducible apply jb);with_reducible assumption)));rfl))
    have hw16 : Below w.heap.size w w16:=bt (by (repeat(first|(with_reducible first|assumption|exact Below.refl _ _|refine je ?_|refine jl ?_)|((with_reducible refine jp ?_ ?_);first|focus(dsimp only;assumption)|focus(simp;done)|focus(dsimp only;omega))|(with_reducible refine bt ?_ (by assumption))))) h16
    clear h16 gc m14 c14 t14 z14 f14 hw14
    have n16:=kn c16
    go_upto_region 33 with fail
    refine wp_region_tail 6 (by kernel_rfl) (by kernel_rfl) ?_
    intro W1 hE hN
    have c18 : blk W1 w3.heap.size = some (rdC B p14 e14 a14):=(by rw [hE.out];(apply jt;(focus repeat(first|(with_reducible first|assumption|apply jd|apply js)|((with_reducible apply jo);first|focus(dsimp only;assumption)|focus(simp;done)|focus(dsimp only;omega))|((with_reducible apply jn);first|with_reducible rfl|focus(simp;done)|focus(simp;omega))|(with_reducible apply ja)|((with_reducible apply jb);with_reducible assumption)));rfl))
    have z18 : blk W1 w.heap.size = some zF:=(by rw [hE.out];(apply jt;(focus repeat(first|(with_reducible first|assumption|apply jd|apply js)|((with_reducible apply jo);first|focus(dsimp only;assumption)|focus(simp;done)|focus(dsimp only;omega))|((with_reducible apply jn);first|with_reducible rfl|focus(simp;done)|focus(simp;omega))|(with_reducible apply ja)|((with_reducible apply jb);with_reducible assumption)));rfl))
    have f18 : blk W1 (w.heap.size + 1) = some #[.int .i64 0,.int .i64 0]:=(by rw [hE.out];(apply jt;(focus repeat(first|(with_reducible first|assumption|apply jd|apply js)|((with_reducible apply jo);first|focus(dsimp only;assumption)|focus(simp;done)|focus(dsimp only;omega))|((with_reducible apply jn);first|with_reducible rfl|focus(simp;done)|focus(simp;omega))|(with_reducible apply ja)|((with_reducible apply jb);with_reducible assumption)));rfl))
    have hw18 : Below w.heap.size w W1:=(by rw [hE.out];(repeat(first|(with_reducible first|assumption|exact Below.refl _ _|refine je ?_|refine jl ?_)|((with_reducible refine jp ?_ ?_);first|focus(dsimp only;assumption)|focus(simp;done)|focus(dsimp only;omega))|(with_reducible refine bt ?_ (by assumption)))))
    have knc:=calm_kn c18
    clear hE n16 c16 t16 z16 f16 hw16
    simp only [List.take_succ_cons,List.take_zero,List.drop_succ_cons,List.drop_zero]
    refine wpQuiet_build_is 29 #[] zF rfl rfl (by kernel_rfl) ?_
    conv => arg 6;simp [Act.put]
    iterate 4 (go_big_quiet_step (fail))
    refine wpQuiet_store_same 29 (.tmp 2) (.tmp 162) w.heap.size zF (by rintro _ ⟨x,rfl⟩;exact blk_below x.ok z18) rfl rfl rfl rfl (by kernel_rfl) (by kernel_rfl) ?_
    conv => arg 6;simp [Act.put]
    refine wpQuiet_nil ?_
    rintro _ ⟨x,rfl⟩
    have z1:=blk_below x.ok z18
    have f1:=blk_below x.ok f18
    have hw1 : Below w.heap.size w x.wd:=hw18.trans (x.ok.mono hw18.size)
    clear z18 f18 hw18 knc
    refine wpList_store_blk 32 (.tmp 3) (.tmp 166) (w.heap.size + 1) #[.int .i64 0,.int .i64 0] #[.int .i64 e14,.int .i64 a14] f1 rfl rfl rfl rfl (by kernel_rfl) rfl (by kernel_rfl) ?_
    intro w20 k20 o20 B20 s20
    conv => arg 5;simp [Act.put]
    have z20:=o20 w.heap.size zF (by omega) z1
    have hw20 : Below w.heap.size w w20:=B20 _ _ (by omega) hw1
    clear o20 B20 s20 z1 f1 hw1
    go_wp2
    refine ret_row2 2 3 29 32 _ _ z20 k20 rfl rfl Tryd.underlying29 rfl (by kernel_rfl) rfl Tryd.underlying32 rfl (by kernel_rfl) rfl ⟨?_,hw20⟩
    rw [hV.out,hR.out,endJ_err B.data.toList F p14 e14 a14 he.out]
    rfl
end Go.Proofs.YtaiofjffoboicaaDoor
namespace Go.Proofs.YtaiofjffoboicaaDoor
open Go.RowKit
theorem rdec_any (s : ByteArray) (hs : s.size ≤ maxLen) (w : World) :
    Calls Tryd.prog 12 #[.string s] w fun e w' => e = .returned (fdcV (decFr clampI s.data.toList)) ∧ Below w.heap.size w w':=by
  have hl : s.data.toList.length = s.size:=by simp
  unfold decFr
  rw [hl]
  by_cases h1 : 1200 < s.size
  · rw [if_pos h1]
    exact rdec_long s h1 hs w
  · rw [if_neg h1]
    by_cases h2 : s.size < 3
    · rw [if_pos h2]
      exact rdec_short s h2 w
    · rw [if_neg h2]
      obtain ⟨n,hn⟩ : ∃ n,s.size = n + 2:=⟨s.size - 2,by omega⟩
      rw [hn,show n + 2 - 2 = n by omega]
      by_cases h : s.data.toList.drop n = two (crsN (s.data.toList.take n))
      · rw [if_neg (by simp [h])]
        have hS : sealedS s.data.toList n = true:=by simp [sealedS,h]
        obtain ⟨B,hB⟩ : ∃ B,s.extract 0 n = B:=⟨_,rfl⟩
        have hBl : s.data.toList.take n = B.data.toList:=by rw [← hB];simp
        have hBz : B.size = n:=by have:=congrArg List.length hBl;simp at this;omega
        rw [hBl]
        have hBs : 0 < B.size:=by omega
        obtain ⟨b,l,hbl⟩ : ∃ b l,B.data.toList = b :: l:=by
          match hq : B.data.toList with
          | [] => have h0:=congrArg List.length hq;rw [show B.data.toList.length = B.size by simp] at h0;have h00 : B.size = 0:=h0;omega
          | b :: l => exact ⟨b,l,rfl⟩
        have hb0 : B[0] = b:=by
          have : B.data.toList[0]? = some b:=by rw [hbl];rfl
          have h9 : B.data[0]? = some b:=by simpa using this
          have h8:=Array.getElem?_eq_some_iff.1 h9
          obtain ⟨_,h7⟩:=h8
          exact h7
        have hbt:=b.toNat_lt
        rw [hbl,decB_cons]
        by_cases hk : 1 ≤ b.toNat ∧ b.toNat ≤ 7
        · rw [if_neg (not_not_intro hk)]
          have:=rdec_known s n hn (by omega) (by omega) hS b.toNat w B hB hBs (by rw [hb0]) (by omega)
          rw [hbl] at this
          obtain ⟨j1,j2⟩:=readJ_same clampI (b.toNat : Int) (b :: l)
          rw [endF_same j1 j2]
          exact this
        · rw [if_pos hk]
          by_cases hk2 : b.toNat < 1
          · exact rdec_klo s n hn (by omega) (by omega) hS b.toNat w B hB hBs (by rw [hb0]) hk2
          · exact rdec_khi s n hn (by omega) (by omega) hS b.toNat w B hB hBs (by rw [hb0]) (by omega)
      · rw [if_pos h]
        have hS : sealedS s.data.toList n = false:=by simp [sealedS,h]
        have:=rdec_sum s n hn (by omega) (by omega) hS _ rfl w
        rw [show ((n + 2 : Nat) : Int) - 2 = n by omega]
        exact this
end Go.Proofs.YtaiofjffoboicaaDoor
