/- Parts of a proof, printed by a program of mine out of my texts: FrAwake. -/
import Derived.Great.Walk
import Derived.Deep.Cut
import Derived.Test.YtaiofjffoboicaaDoorCByt
import Derived.Test.YtaiofjffoboicaaDoorCDec
import Derived.Test.YtaiofjffoboicaaDoorCUsed
set_option linter.unusedSimpArgs false
set_option linter.unusedVariables false
namespace Go.Proofs.YtaiofjffoboicaaDoor
open Go.RowKit
theorem grant_ok : frC grantF = 0:=by decide
theorem grant_nn : NN grantF:=by constructor <;> decide
theorem grant_body : bodyF grantF = [2,1,2,3,4,130,44]:=by kernel_rfl
theorem grant_enc : encF grantF = (sealS [2,1,2,3,4,130,44],0):=by unfold encF;rw [if_pos grant_ok,grant_body]
theorem grant_dec : decFr wrapI (sealS [2,1,2,3,4,130,44]) = (grantF,0,0):=by
  rw [← grant_body,decFr_sm good_wrap]
  exact decFr_enc grantF grant_ok grant_nn
set_option maxRecDepth 100000 in
set_option maxHeartbeats 1600000 in
theorem awake_any (w : World) (hH : HTab w) (hT : STab w) : Calls Tryd.prog 10 #[] w fun e w' => e = .returned (.bool true) ∧ Below w.heap.size w w':=by
  have HH:=Lib.hid hH;have HT:=Lib.hid hT;clear hH hT
  obtain ⟨S,hS⟩ : ∃ S : ByteArray,(⟨(sealS [2,1,2,3,4,130,44]).toArray⟩ : ByteArray) = S:=⟨_,rfl⟩
  have hSl : S.data.toList = sealS [2,1,2,3,4,130,44]:=by rw [← hS]
  have hSz : S.size = 9:=by rw [← hS];exact bsize _
  have hSx : S.extract 0 7 = ⟨#[2,1,2,3,4,130,44]⟩:=by
    apply ByteArray.ext
    apply Array.ext'
    have : (S.extract 0 7).data.toList = S.data.toList.take 7:=by simp
    rw [this,hSl]
    rfl
  have ge : ∀ w,HTab w → STab w → Calls Tryd.prog 13 #[.agg #[.int .i64 2,.int .i64 1,.int .i64 2,.int .u64 3,.int .u64 4,.int .u64 300,.int .u64 0,.int .i64 0,.int .u64 0,.int .i64 0,.int .i64 0,.int .u64 0,.int .i64 0,.int .i64 0,.int .i64 0,.int .i64 0,.int .i64 0,.int .i64 0,.string ⟨#[]⟩]] w fun e w' => e = .returned (.tuple #[.string S,.int .i64 0]) ∧ Below w.heap.size w w':=fun w h1 h2 => by
    have:=fencode_any grantF (by decide) grant_nn w h1 h2
    unfold encV at this
    rw [grant_enc] at this
    unfold bstr at this
    simp only [hS] at this
    exact this
  have gd : ∀ w,HTab w → STab w → Calls Tryd.prog 11 #[.string S] w fun e w' => e = .returned (.tuple #[.agg #[.int .i64 2,.int .i64 1,.int .i64 2,.int .u64 3,.int .u64 4,.int .u64 300,.int .u64 0,.int .i64 0,.int .u64 0,.int .i64 0,.int .i64 0,.int .u64 0,.int .i64 0,.int .i64 0,.int .i64 0,.int .i64 0,.int .i64 0,.int .i64 0,.string ⟨#[]⟩],.agg #[.int .i64 0,.int .i64 0]]) ∧ Below w.heap.size w w':=fun w h1 h2 => by
    have:=fdec_any S (by rw [hSz];decide) w h1 h2
    rw [hSl,grant_dec] at this
    exact this
  have E : ∀ w,Sem.run Tryd.prog (binOp BinOp.eql 29 (.agg #[.int .i64 2,.int .i64 1,.int .i64 2,.int .u64 3,.int .u64 4,.int .u64 300,.int .u64 0,.int .i64 0,.int .u64 0,.int .i64 0,.int .i64 0,.int .u64 0,.int .i64 0,.int .i64 0,.int .i64 0,.int .i64 0,.int .i64 0,.int .i64 0,.string ⟨#[]⟩]) (.agg #[.int .i64 2,.int .i64 1,.int .i64 2,.int .u64 3,.int .u64 4,.int .u64 300,.int .u64 0,.int .i64 0,.int .u64 0,.int .i64 0,.int .i64 0,.int .u64 0,.int .i64 0,.int .i64 0,.int .i64 0,.int .i64 0,.int .i64 0,.int .i64 0,.string ⟨#[]⟩])) w = .ok (.bool true) w:=fun w => by
    have:=run_frEq grantF grantF w
    rw [frEq_self] at this
    exact this
  have gg:=Lib.hid grant_any
  replace ge:=Lib.hid ge;replace gd:=Lib.hid gd
  clear hS hSl
  go_enter Tryd.func10,Tryd.ntmps10
  go_upto_region 2 with (first|(go_at_call 23;(with_reducible refine (gg.out _).mono ?_);rintro e w1 ⟨rfl,h1⟩)|(go_at_call 13;(with_reducible refine (ge.out _ (HH.out.on (by (repeat(first|(with_reducible first|assumption|exact Below.refl _ _|refine je ?_|refine jl ?_)|((with_reducible refine jp ?_ ?_);first|focus(dsimp only;assumption)|focus(simp;done)|focus(dsimp only;omega))|(with_reducible refine bt ?_ (by assumption)))))) (HT.out.on (by (repeat(first|(with_reducible first|assumption|exact Below.refl _ _|refine je ?_|refine jl ?_)|((with_reducible refine jp ?_ ?_);first|focus(dsimp only;assumption)|focus(simp;done)|focus(dsimp only;omega))|(with_reducible refine bt ?_ (by assumption))))))).mono ?_);rintro e w2 ⟨rfl,h2⟩))
  have hw2 : Below w.heap.size w w2:=by (repeat(first|(with_reducible first|assumption|exact Below.refl _ _|refine je ?_|refine jl ?_)|((with_reducible refine jp ?_ ?_);first|focus(dsimp only;assumption)|focus(simp;done)|focus(dsimp only;omega))|(with_reducible refine bt ?_ (by assumption))))
  clear h1 h2
  refine wp_region_tail0 5 ?_
  intro W0 hE hN
  have bW0 : Below w.heap.size w W0:=(by rw [hE.out];exact hw2)
  clear hE hw2
  simp only [List.take_succ_cons,List.take_zero,List.drop_succ_cons,List.drop_zero]
  repeat (go_big_quiet_step ((go_at_call 11;(with_reducible refine Class.go _ (gd.out _ ?_ ?_));exact HH.out.on (bt bW0 (Class.ok _));exact HT.out.on (bt bW0 (Class.ok _)))))
  refine wpQuiet_nil ?_
  rintro _ ⟨x,rfl⟩
  have b3:=bt bW0 x.ok
  clear hN bW0
  obtain ⟨w3,hw3⟩ : ∃ w3,w3 = x.wd:=⟨_,rfl⟩
  rw [← hw3] at b3 ⊢
  clear hw3 x
  refine Go.Great.wpList_allocTo rfl (some 3) rfl (.pointer (some ⟨w3.heap.size,0,none⟩)) (.cells zF 29) (by kernel_rfl) ?_
  conv => arg 5;simp [Act.put]
  obtain ⟨w4,hw4⟩ : ∃ w4,w4 = w3.alloc (.cells zF 29):=⟨_,rfl⟩
  have k4 : blk w4 w3.heap.size = some zF:=(by rw [hw4];exact blk_alloc_new _ _ _ rfl)
  have b4 : Below w.heap.size w w4:=(by rw [hw4];exact b3.alloc b3.size _)
  have hz3:=b3.size
  rw [← hw4]
  clear hw4 b3
  have hlt4:=blk_lt k4
  refine Go.Great.wpList_allocTo rfl (some 4) rfl (.pointer (some ⟨w4.heap.size,0,none⟩)) (.cells #[.int .i64 0,.int .i64 0] 32) (by kernel_rfl) ?_
  conv => arg 5;simp [Act.put]
  refine wpList_store_blk 29 (.tmp 3) (.tmp 13) w3.heap.size zF #[.int .i64 2,.int .i64 1,.int .i64 2,.int .u64 3,.int .u64 4,.int .u64 300,.int .u64 0,.int .i64 0,.int .u64 0,.int .i64 0,.int .i64 0,.int .u64 0,.int .i64 0,.int .i64 0,.int .i64 0,.int .i64 0,.int .i64 0,.int .i64 0,.string ⟨#[]⟩] (blk_alloc k4 _) rfl rfl rfl rfl (by kernel_rfl) rfl (by kernel_rfl) ?_
  intro w5 k5 o5 B5 s5
  conv => arg 5;simp [Act.put]
  have f5:=o5 w4.heap.size #[.int .i64 0,.int .i64 0] (by omega) (blk_alloc_new _ _ _ rfl)
  have b5 : Below w.heap.size w w5:=B5 _ _ hz3 (b4.alloc b4.size _)
  clear o5 B5 s5 b4 k4
  refine wpList_store_blk 32 (.tmp 4) (.tmp 14) w4.heap.size #[.int .i64 0,.int .i64 0] #[.int .i64 0,.int .i64 0] f5 rfl rfl rfl rfl (by kernel_rfl) rfl (by kernel_rfl) ?_
  intro w6 f6 o6 B6 s6
  conv => arg 5;simp [Act.put]
  have k6:=o6 w3.heap.size #[.int .i64 2,.int .i64 1,.int .i64 2,.int .u64 3,.int .u64 4,.int .u64 300,.int .u64 0,.int .i64 0,.int .u64 0,.int .i64 0,.int .i64 0,.int .u64 0,.int .i64 0,.int .i64 0,.int .i64 0,.int .i64 0,.int .i64 0,.int .i64 0,.string ⟨#[]⟩] (by omega) k5
  have b6 : Below w.heap.size w w6:=B6 _ _ (by omega) b5
  clear o6 B6 s6 k5 f5 b5
  go_upto_region 3 with fail
  refine wp_region_in (by kernel_rfl) (by kernel_rfl) ?_
  intro W1 hE hN
  have kF : blk W1 w3.heap.size = some #[.int .i64 2,.int .i64 1,.int .i64 2,.int .u64 3,.int .u64 4,.int .u64 300,.int .u64 0,.int .i64 0,.int .u64 0,.int .i64 0,.int .i64 0,.int .u64 0,.int .i64 0,.int .i64 0,.int .i64 0,.int .i64 0,.int .i64 0,.int .i64 0,.string ⟨#[]⟩]:=(by rw [hE.out];exact k6)
  have kf : blk W1 w4.heap.size = some #[.int .i64 0,.int .i64 0]:=(by rw [hE.out];exact f6)
  have bW1 : Below w.heap.size w W1:=(by rw [hE.out];exact b6)
  have nf:=calm_kn kf
  clear hE k6 f6 b6
  refine wpQuiet_split 8 ?_
  simp only [List.take_succ_cons,List.take_zero,List.drop_succ_cons,List.drop_zero]
  repeat (go_big_quiet_step (fail))
  refine wpQuiet_nil ?_
  refine wpQuiet_load_blkG 29 (.tmp 3) w3.heap.size #[.int .i64 2,.int .i64 1,.int .i64 2,.int .u64 3,.int .u64 4,.int .u64 300,.int .u64 0,.int .i64 0,.int .u64 0,.int .i64 0,.int .i64 0,.int .u64 0,.int .i64 0,.int .i64 0,.int .i64 0,.int .i64 0,.int .i64 0,.int .i64 0,.string ⟨#[]⟩] (fun W hW => by obtain ⟨x,rfl⟩:=hW;exact blk_below x.ok kF) _ (by kernel_rfl) rfl rfl Tryd.underlying29 rfl (by kernel_rfl) ?_
  conv => arg 6;simp [Act.put]
  repeat (go_big_quiet_step ((go_at_call 23;(with_reducible refine Class.go _ (gg.out _)))))
  refine wpQuiet_nil ?_
  rintro _ ⟨x,rfl⟩
  have b7:=bt bW1 x.ok
  go_wp2
  go_ret
  exact ⟨rfl,b7⟩
end Go.Proofs.YtaiofjffoboicaaDoor
