/- Parts of a proof, printed by a program of mine out of my texts: FrBytes1, FrBytes2, FrBytes3, FrBytes4, FrBytes5, FrBytes6, FrBytes7, FrEnc. -/
import Derived.Deep.Cut
import Derived.Test.YtaiofjffoboicaaDoorCBui
import Derived.Test.YtaiofjffoboicaaDoorCFrChkAll
set_option linter.unusedSimpArgs false
set_option linter.unusedVariables false
namespace Go.Proofs.YtaiofjffoboicaaDoor
open Go.RowKit
set_option maxRecDepth 100000 in
set_option maxHeartbeats 3200000 in
theorem bytes_k1 (f : Fr) (hk : f.k = 1) (hC : frC f = 0) (hn : NN f) (w : World) (hH : HTab w) (hT : STab w) : Calls Tryd.prog 37 #[frv f] w fun e w' => e = .returned (bstr (sealS (bodyF f))) ∧ Below w.heap.size w w':=by
  have gu : ∀ w,Calls Tryd.prog 25 #[.int .i64 f.k] w fun e w' => e = .returned (.tuple #[.agg #[.bool false,.bool false,.bool false,.bool false],.bool true]) ∧ Below w.heap.size w w':=fun w => by have:=uses_any f.k w;rwa [show usesV f.k = .tuple #[.agg #[.bool false,.bool false,.bool false,.bool false],.bool true] by rw [hk];rfl] at this
  replace gu:=Lib.hid gu
  have hL:=(bodyF_len f hC).2
  obtain ⟨hkb,hr,hbc,-⟩:=frC_ok hC
  obtain ⟨r1,r2,r3,r4,-,r6,r7,r8,-,-,-,-⟩:=hr
  have Hk:=Lib.hid hk
  have HH:=Lib.hid hH;have HT:=Lib.hid hT
  clear hk hC hbc hH hT
  have Hn:=Lib.hid hn;clear hn
  go_enter Tryd.func37,Tryd.ntmps37
  go_wp2_with (go_at_call 25;(with_reducible refine (gu.out _).mono ?_);rintro e w1 ⟨rfl,h1⟩;have k1 : blk w1 w.heap.size = some #[.int .i64 f.k,.int .i64 f.fr,.int .i64 f.to_,.int .u64 f.mi,.int .u64 f.yo,.int .u64 f.a,.int .u64 f.b,.int .i64 f.ino,.int .u64 f.isq,.int .i64 f.iof,.int .i64 f.bno,.int .u64 f.bsq,.int .i64 f.bof,.int .i64 f.bde,.int .i64 f.bpr,.int .i64 f.bbo,.int .i64 f.bli,.int .i64 f.bto,.string f.da]:=(by (apply jt;(focus repeat(first|(with_reducible first|assumption|apply jd|apply js)|((with_reducible apply jo);first|focus(dsimp only;assumption)|focus(simp;done)|focus(dsimp only;omega))|((with_reducible apply jn);first|with_reducible rfl|focus(simp;done)|focus(simp;omega))|(with_reducible apply ja)|((with_reducible apply jb);with_reducible assumption)));rfl));have n1:=kn k1)
  have hB0:=Lib.IsBuilderF.of (Lib.fresh_isBuilder 105 5 (w1.alloc (.cells #[.bool false,.bool false,.bool false,.bool false] 57)))
  have hsz : (w1.alloc (.cells #[.bool false,.bool false,.bool false,.bool false] 57)).heap.size = w1.heap.size + 1:=by simp
  rw [hsz] at hB0
  refine (wbyte_any _ _ [] f.k _ hB0 (by simp) (by simp)).mono ?_
  rintro e w3 ⟨rfl,hB3,hb3,-⟩
  have hlt:=n1.2.2.1
  have kf3 : blk w3 w.heap.size = some #[.int .i64 f.k,.int .i64 f.fr,.int .i64 f.to_,.int .u64 f.mi,.int .u64 f.yo,.int .u64 f.a,.int .u64 f.b,.int .i64 f.ino,.int .u64 f.isq,.int .i64 f.iof,.int .i64 f.bno,.int .u64 f.bsq,.int .i64 f.bof,.int .i64 f.bde,.int .i64 f.bpr,.int .i64 f.bbo,.int .i64 f.bli,.int .i64 f.bto,.string f.da]:=blk_belowB hb3 (by omega) (by (apply jt;(focus repeat(first|(with_reducible first|assumption|apply jd|apply js)|((with_reducible apply jo);first|focus(dsimp only;assumption)|focus(simp;done)|focus(dsimp only;omega))|((with_reducible apply jn);first|with_reducible rfl|focus(simp;done)|focus(simp;omega))|(with_reducible apply ja)|((with_reducible apply jb);with_reducible assumption)));rfl))
  have ku3 : blk w3 w1.heap.size = some #[.bool false,.bool false,.bool false,.bool false]:=blk_belowB hb3 (by omega) (by (apply jt;(focus repeat(first|(with_reducible first|assumption|apply jd|apply js)|((with_reducible apply jo);first|focus(dsimp only;assumption)|focus(simp;done)|focus(dsimp only;omega))|((with_reducible apply jn);first|with_reducible rfl|focus(simp;done)|focus(simp;omega))|(with_reducible apply ja)|((with_reducible apply jb);with_reducible assumption)));rfl))
  have hw3 : Below w.heap.size w w3:=Below.trans (by (repeat(first|(with_reducible first|assumption|exact Below.refl _ _|refine je ?_|refine jl ?_)|((with_reducible refine jp ?_ ?_);first|focus(dsimp only;assumption)|focus(simp;done)|focus(dsimp only;omega))|(with_reducible refine bt ?_ (by assumption))))) (hb3.mono (by omega))
  have hs3 : w1.heap.size + 2 ≤ w3.heap.size:=by have:=hb3.size;simpa using this
  have nf:=kn kf3;have nu:=kn ku3
  clear hB0 hsz hb3 k1 n1 h1
  rw [List.nil_append] at hB3
  have HB3:=Lib.hid hB3;clear hB3
  go_wp2_with fail
  (with_reducible refine (puti4 (w1.heap.size + 1) (w1.heap.size + 1) w3.heap.size ([Value.int .u8 f.k]) f.fr f.to_ f.mi f.yo (0,0) _ (HB3.out.alloc _) (by simp only [List.length_append,Lib.byteCells_length,List.length_cons,List.length_nil];omega) (by omega) (by omega) (by have:=Hn.out.mi;omega) (by have:=Hn.out.yo;omega) (by omega) (heap_alloc_new _ _)).mono ?_)
  rintro e w4 ⟨rfl,hB4,hb4⟩
  have kf4 : blk w4 w.heap.size = some #[.int .i64 f.k,.int .i64 f.fr,.int .i64 f.to_,.int .u64 f.mi,.int .u64 f.yo,.int .u64 f.a,.int .u64 f.b,.int .i64 f.ino,.int .u64 f.isq,.int .i64 f.iof,.int .i64 f.bno,.int .u64 f.bsq,.int .i64 f.bof,.int .i64 f.bde,.int .i64 f.bpr,.int .i64 f.bbo,.int .i64 f.bli,.int .i64 f.bto,.string f.da]:=blk_belowB hb4 (by omega) (blk_alloc kf3 _)
  have ku4 : blk w4 w1.heap.size = some #[.bool false,.bool false,.bool false,.bool false]:=blk_belowB hb4 (by omega) (blk_alloc ku3 _)
  have hw4 : Below w.heap.size w w4:=(hw3.alloc hw3.size _).trans (hb4.mono (by omega))
  have hs4 : w1.heap.size + 2 ≤ w4.heap.size:=by have:=hb4.size;simp at this;omega
  clear nf nu kf3 ku3 hw3 hs3 hb4 HB3
  have nf:=kn kf4;have nu:=kn ku4
  have HB4:=Lib.hid hB4;clear hB4
  have hl4:=putsI_le [f.fr,f.to_,f.mi,f.yo]
  simp only [List.length_cons,List.length_nil] at hl4
  go_wp2_with fail
  (with_reducible refine (Tryd.Builder_String_any_k (w1.heap.size + 1) (w1.heap.size + 1) (bodyF f) w4 (by have:=HB4.out;rwa [kcell f.k hkb,← Lib.byteCells_append,show ([UInt8.ofNat f.k.toNat]) ++ putsI [f.fr,f.to_,f.mi,f.yo] = bodyF f by simp [bodyF,putsI,putsN,Hk.out]] at this) (by omega)).mono ?_)
  rintro e wy ⟨rfl,-,hby,-⟩
  have hwy : Below w.heap.size w wy:=hw4.trans (hby.mono (by omega))
  clear nf nu kf4 ku4 hby HB4
  have gs:=Lib.hid (seal16_any ⟨(bodyF f).toArray⟩ (by rw [bsize];omega) wy)
  go_wp2_with fail
  (with_reducible refine gs.out.mono ?_)
  rintro e wz ⟨rfl,hbz⟩
  unfold bstr
  go_wp2
  go_ret
  exact ⟨rfl,hwy.trans (hbz.mono hwy.size)⟩
end Go.Proofs.YtaiofjffoboicaaDoor
namespace Go.Proofs.YtaiofjffoboicaaDoor
open Go.RowKit
set_option maxRecDepth 100000 in
set_option maxHeartbeats 3200000 in
theorem bytes_k2 (f : Fr) (hk : f.k = 2) (hC : frC f = 0) (hn : NN f) (w : World) (hH : HTab w) (hT : STab w) : Calls Tryd.prog 37 #[frv f] w fun e w' => e = .returned (bstr (sealS (bodyF f))) ∧ Below w.heap.size w w':=by
  have gu : ∀ w,Calls Tryd.prog 25 #[.int .i64 f.k] w fun e w' => e = .returned (.tuple #[.agg #[.bool true,.bool false,.bool false,.bool false],.bool true]) ∧ Below w.heap.size w w':=fun w => by have:=uses_any f.k w;rwa [show usesV f.k = .tuple #[.agg #[.bool true,.bool false,.bool false,.bool false],.bool true] by rw [hk];rfl] at this
  replace gu:=Lib.hid gu
  have hL:=(bodyF_len f hC).2
  obtain ⟨hkb,hr,hbc,-⟩:=frC_ok hC
  obtain ⟨r1,r2,r3,r4,-,r6,r7,r8,-,-,-,-⟩:=hr
  have Hk:=Lib.hid hk
  have HH:=Lib.hid hH;have HT:=Lib.hid hT
  clear hk hC hbc hH hT
  have Hn:=Lib.hid hn;clear hn
  go_enter Tryd.func37,Tryd.ntmps37
  go_wp2_with (go_at_call 25;(with_reducible refine (gu.out _).mono ?_);rintro e w1 ⟨rfl,h1⟩;have k1 : blk w1 w.heap.size = some #[.int .i64 f.k,.int .i64 f.fr,.int .i64 f.to_,.int .u64 f.mi,.int .u64 f.yo,.int .u64 f.a,.int .u64 f.b,.int .i64 f.ino,.int .u64 f.isq,.int .i64 f.iof,.int .i64 f.bno,.int .u64 f.bsq,.int .i64 f.bof,.int .i64 f.bde,.int .i64 f.bpr,.int .i64 f.bbo,.int .i64 f.bli,.int .i64 f.bto,.string f.da]:=(by (apply jt;(focus repeat(first|(with_reducible first|assumption|apply jd|apply js)|((with_reducible apply jo);first|focus(dsimp only;assumption)|focus(simp;done)|focus(dsimp only;omega))|((with_reducible apply jn);first|with_reducible rfl|focus(simp;done)|focus(simp;omega))|(with_reducible apply ja)|((with_reducible apply jb);with_reducible assumption)));rfl));have n1:=kn k1)
  have hB0:=Lib.IsBuilderF.of (Lib.fresh_isBuilder 105 5 (w1.alloc (.cells #[.bool true,.bool false,.bool false,.bool false] 57)))
  have hsz : (w1.alloc (.cells #[.bool true,.bool false,.bool false,.bool false] 57)).heap.size = w1.heap.size + 1:=by simp
  rw [hsz] at hB0
  refine (wbyte_any _ _ [] f.k _ hB0 (by simp) (by simp)).mono ?_
  rintro e w3 ⟨rfl,hB3,hb3,-⟩
  have hlt:=n1.2.2.1
  have kf3 : blk w3 w.heap.size = some #[.int .i64 f.k,.int .i64 f.fr,.int .i64 f.to_,.int .u64 f.mi,.int .u64 f.yo,.int .u64 f.a,.int .u64 f.b,.int .i64 f.ino,.int .u64 f.isq,.int .i64 f.iof,.int .i64 f.bno,.int .u64 f.bsq,.int .i64 f.bof,.int .i64 f.bde,.int .i64 f.bpr,.int .i64 f.bbo,.int .i64 f.bli,.int .i64 f.bto,.string f.da]:=blk_belowB hb3 (by omega) (by (apply jt;(focus repeat(first|(with_reducible first|assumption|apply jd|apply js)|((with_reducible apply jo);first|focus(dsimp only;assumption)|focus(simp;done)|focus(dsimp only;omega))|((with_reducible apply jn);first|with_reducible rfl|focus(simp;done)|focus(simp;omega))|(with_reducible apply ja)|((with_reducible apply jb);with_reducible assumption)));rfl))
  have ku3 : blk w3 w1.heap.size = some #[.bool true,.bool false,.bool false,.bool false]:=blk_belowB hb3 (by omega) (by (apply jt;(focus repeat(first|(with_reducible first|assumption|apply jd|apply js)|((with_reducible apply jo);first|focus(dsimp only;assumption)|focus(simp;done)|focus(dsimp only;omega))|((with_reducible apply jn);first|with_reducible rfl|focus(simp;done)|focus(simp;omega))|(with_reducible apply ja)|((with_reducible apply jb);with_reducible assumption)));rfl))
  have hw3 : Below w.heap.size w w3:=Below.trans (by (repeat(first|(with_reducible first|assumption|exact Below.refl _ _|refine je ?_|refine jl ?_)|((with_reducible refine jp ?_ ?_);first|focus(dsimp only;assumption)|focus(simp;done)|focus(dsimp only;omega))|(with_reducible refine bt ?_ (by assumption))))) (hb3.mono (by omega))
  have hs3 : w1.heap.size + 2 ≤ w3.heap.size:=by have:=hb3.size;simpa using this
  have nf:=kn kf3;have nu:=kn ku3
  clear hB0 hsz hb3 k1 n1 h1
  rw [List.nil_append] at hB3
  have HB3:=Lib.hid hB3;clear hB3
  go_wp2_with fail
  (with_reducible refine (puti4 (w1.heap.size + 1) (w1.heap.size + 1) w3.heap.size ([Value.int .u8 f.k]) f.fr f.to_ f.mi f.yo (0,0) _ (HB3.out.alloc _) (by simp only [List.length_append,Lib.byteCells_length,List.length_cons,List.length_nil];omega) (by omega) (by omega) (by have:=Hn.out.mi;omega) (by have:=Hn.out.yo;omega) (by omega) (heap_alloc_new _ _)).mono ?_)
  rintro e w4 ⟨rfl,hB4,hb4⟩
  have kf4 : blk w4 w.heap.size = some #[.int .i64 f.k,.int .i64 f.fr,.int .i64 f.to_,.int .u64 f.mi,.int .u64 f.yo,.int .u64 f.a,.int .u64 f.b,.int .i64 f.ino,.int .u64 f.isq,.int .i64 f.iof,.int .i64 f.bno,.int .u64 f.bsq,.int .i64 f.bof,.int .i64 f.bde,.int .i64 f.bpr,.int .i64 f.bbo,.int .i64 f.bli,.int .i64 f.bto,.string f.da]:=blk_belowB hb4 (by omega) (blk_alloc kf3 _)
  have ku4 : blk w4 w1.heap.size = some #[.bool true,.bool false,.bool false,.bool false]:=blk_belowB hb4 (by omega) (blk_alloc ku3 _)
  have hw4 : Below w.heap.size w w4:=(hw3.alloc hw3.size _).trans (hb4.mono (by omega))
  have hs4 : w1.heap.size + 2 ≤ w4.heap.size:=by have:=hb4.size;simp at this;omega
  clear nf nu kf3 ku3 hw3 hs3 hb4 HB3
  have nf:=kn kf4;have nu:=kn ku4
  have HB4:=Lib.hid hB4;clear hB4
  have hl4:=putsI_le [f.fr,f.to_,f.mi,f.yo]
  simp only [List.length_cons,List.length_nil] at hl4
  go_wp2_with fail
  (with_reducible refine (puti1 (w1.heap.size + 1) (w1.heap.size + 1) w4.heap.size (([Value.int .u8 f.k]) ++ Lib.byteCells (putsI [f.fr,f.to_,f.mi,f.yo])) f.a (0,0) _ (HB4.out.alloc _) (by simp only [List.length_append,Lib.byteCells_length,List.length_cons,List.length_nil];omega) (by have:=Hn.out.a;omega) (by omega) (heap_alloc_new _ _)).mono ?_)
  rintro e w5 ⟨rfl,hB5,hb5⟩
  have kf5 : blk w5 w.heap.size = some #[.int .i64 f.k,.int .i64 f.fr,.int .i64 f.to_,.int .u64 f.mi,.int .u64 f.yo,.int .u64 f.a,.int .u64 f.b,.int .i64 f.ino,.int .u64 f.isq,.int .i64 f.iof,.int .i64 f.bno,.int .u64 f.bsq,.int .i64 f.bof,.int .i64 f.bde,.int .i64 f.bpr,.int .i64 f.bbo,.int .i64 f.bli,.int .i64 f.bto,.string f.da]:=blk_belowB hb5 (by omega) (blk_alloc kf4 _)
  have ku5 : blk w5 w1.heap.size = some #[.bool true,.bool false,.bool false,.bool false]:=blk_belowB hb5 (by omega) (blk_alloc ku4 _)
  have hw5 : Below w.heap.size w w5:=(hw4.alloc hw4.size _).trans (hb5.mono (by omega))
  have hs5 : w1.heap.size + 2 ≤ w5.heap.size:=by have:=hb5.size;simp at this;omega
  clear nf nu kf4 ku4 hw4 hs4 hb5 HB4
  have nf:=kn kf5;have nu:=kn ku5
  have HB5:=Lib.hid hB5;clear hB5
  have hl5:=putsI_le [f.a]
  simp only [List.length_cons,List.length_nil] at hl5
  go_wp2_with fail
  (with_reducible refine (Tryd.Builder_String_any_k (w1.heap.size + 1) (w1.heap.size + 1) (bodyF f) w5 (by have:=HB5.out;rwa [kcell f.k hkb,← Lib.byteCells_append,← Lib.byteCells_append,show (([UInt8.ofNat f.k.toNat]) ++ putsI [f.fr,f.to_,f.mi,f.yo]) ++ putsI [f.a] = bodyF f by simp [bodyF,putsI,putsN,Hk.out]] at this) (by omega)).mono ?_)
  rintro e wy ⟨rfl,-,hby,-⟩
  have hwy : Below w.heap.size w wy:=hw5.trans (hby.mono (by omega))
  clear nf nu kf5 ku5 hby HB5
  have gs:=Lib.hid (seal16_any ⟨(bodyF f).toArray⟩ (by rw [bsize];omega) wy)
  go_wp2_with fail
  (with_reducible refine gs.out.mono ?_)
  rintro e wz ⟨rfl,hbz⟩
  unfold bstr
  go_wp2
  go_ret
  exact ⟨rfl,hwy.trans (hbz.mono hwy.size)⟩
end Go.Proofs.YtaiofjffoboicaaDoor
namespace Go.Proofs.YtaiofjffoboicaaDoor
open Go.RowKit
set_option maxRecDepth 100000 in
set_option maxHeartbeats 3200000 in
theorem bytes_k3 (f : Fr) (hk : f.k = 3) (hC : frC f = 0) (hn : NN f) (w : World) (hH : HTab w) (hT : STab w) : Calls Tryd.prog 37 #[frv f] w fun e w' => e = .returned (bstr (sealS (bodyF f))) ∧ Below w.heap.size w w':=by
  have gu : ∀ w,Calls Tryd.prog 25 #[.int .i64 f.k] w fun e w' => e = .returned (.tuple #[.agg #[.bool true,.bool true,.bool true,.bool false],.bool true]) ∧ Below w.heap.size w w':=fun w => by have:=uses_any f.k w;rwa [show usesV f.k = .tuple #[.agg #[.bool true,.bool true,.bool true,.bool false],.bool true] by rw [hk];rfl] at this
  replace gu:=Lib.hid gu
  have hL:=(bodyF_len f hC).2
  obtain ⟨hkb,hr,hbc,-⟩:=frC_ok hC
  obtain ⟨r1,r2,r3,r4,-,r6,r7,r8,-,-,-,-⟩:=hr
  have ge:=fun w h1 h2 => encode_fr f hk hC hn w h1 h2
  simp only [buv] at ge
  have hbl:=bnL_le f hk hC
  replace ge:=Lib.hid ge
  have Hk:=Lib.hid hk
  have HH:=Lib.hid hH;have HT:=Lib.hid hT
  clear hk hC hbc hH hT
  have Hn:=Lib.hid hn;clear hn
  go_enter Tryd.func37,Tryd.ntmps37
  go_wp2_with (go_at_call 25;(with_reducible refine (gu.out _).mono ?_);rintro e w1 ⟨rfl,h1⟩;have k1 : blk w1 w.heap.size = some #[.int .i64 f.k,.int .i64 f.fr,.int .i64 f.to_,.int .u64 f.mi,.int .u64 f.yo,.int .u64 f.a,.int .u64 f.b,.int .i64 f.ino,.int .u64 f.isq,.int .i64 f.iof,.int .i64 f.bno,.int .u64 f.bsq,.int .i64 f.bof,.int .i64 f.bde,.int .i64 f.bpr,.int .i64 f.bbo,.int .i64 f.bli,.int .i64 f.bto,.string f.da]:=(by (apply jt;(focus repeat(first|(with_reducible first|assumption|apply jd|apply js)|((with_reducible apply jo);first|focus(dsimp only;assumption)|focus(simp;done)|focus(dsimp only;omega))|((with_reducible apply jn);first|with_reducible rfl|focus(simp;done)|focus(simp;omega))|(with_reducible apply ja)|((with_reducible apply jb);with_reducible assumption)));rfl));have n1:=kn k1)
  have hB0:=Lib.IsBuilderF.of (Lib.fresh_isBuilder 105 5 (w1.alloc (.cells #[.bool true,.bool true,.bool true,.bool false] 57)))
  have hsz : (w1.alloc (.cells #[.bool true,.bool true,.bool true,.bool false] 57)).heap.size = w1.heap.size + 1:=by simp
  rw [hsz] at hB0
  refine (wbyte_any _ _ [] f.k _ hB0 (by simp) (by simp)).mono ?_
  rintro e w3 ⟨rfl,hB3,hb3,-⟩
  have hlt:=n1.2.2.1
  have kf3 : blk w3 w.heap.size = some #[.int .i64 f.k,.int .i64 f.fr,.int .i64 f.to_,.int .u64 f.mi,.int .u64 f.yo,.int .u64 f.a,.int .u64 f.b,.int .i64 f.ino,.int .u64 f.isq,.int .i64 f.iof,.int .i64 f.bno,.int .u64 f.bsq,.int .i64 f.bof,.int .i64 f.bde,.int .i64 f.bpr,.int .i64 f.bbo,.int .i64 f.bli,.int .i64 f.bto,.string f.da]:=blk_belowB hb3 (by omega) (by (apply jt;(focus repeat(first|(with_reducible first|assumption|apply jd|apply js)|((with_reducible apply jo);first|focus(dsimp only;assumption)|focus(simp;done)|focus(dsimp only;omega))|((with_reducible apply jn);first|with_reducible rfl|focus(simp;done)|focus(simp;omega))|(with_reducible apply ja)|((with_reducible apply jb);with_reducible assumption)));rfl))
  have ku3 : blk w3 w1.heap.size = some #[.bool true,.bool true,.bool true,.bool false]:=blk_belowB hb3 (by omega) (by (apply jt;(focus repeat(first|(with_reducible first|assumption|apply jd|apply js)|((with_reducible apply jo);first|focus(dsimp only;assumption)|focus(simp;done)|focus(dsimp only;omega))|((with_reducible apply jn);first|with_reducible rfl|focus(simp;done)|focus(simp;omega))|(with_reducible apply ja)|((with_reducible apply jb);with_reducible assumption)));rfl))
  have hw3 : Below w.heap.size w w3:=Below.trans (by (repeat(first|(with_reducible first|assumption|exact Below.refl _ _|refine je ?_|refine jl ?_)|((with_reducible refine jp ?_ ?_);first|focus(dsimp only;assumption)|focus(simp;done)|focus(dsimp only;omega))|(with_reducible refine bt ?_ (by assumption))))) (hb3.mono (by omega))
  have hs3 : w1.heap.size + 2 ≤ w3.heap.size:=by have:=hb3.size;simpa using this
  have nf:=kn kf3;have nu:=kn ku3
  clear hB0 hsz hb3 k1 n1 h1
  rw [List.nil_append] at hB3
  have HB3:=Lib.hid hB3;clear hB3
  go_wp2_with fail
  (with_reducible refine (puti4 (w1.heap.size + 1) (w1.heap.size + 1) w3.heap.size ([Value.int .u8 f.k]) f.fr f.to_ f.mi f.yo (0,0) _ (HB3.out.alloc _) (by simp only [List.length_append,Lib.byteCells_length,List.length_cons,List.length_nil];omega) (by omega) (by omega) (by have:=Hn.out.mi;omega) (by have:=Hn.out.yo;omega) (by omega) (heap_alloc_new _ _)).mono ?_)
  rintro e w4 ⟨rfl,hB4,hb4⟩
  have kf4 : blk w4 w.heap.size = some #[.int .i64 f.k,.int .i64 f.fr,.int .i64 f.to_,.int .u64 f.mi,.int .u64 f.yo,.int .u64 f.a,.int .u64 f.b,.int .i64 f.ino,.int .u64 f.isq,.int .i64 f.iof,.int .i64 f.bno,.int .u64 f.bsq,.int .i64 f.bof,.int .i64 f.bde,.int .i64 f.bpr,.int .i64 f.bbo,.int .i64 f.bli,.int .i64 f.bto,.string f.da]:=blk_belowB hb4 (by omega) (blk_alloc kf3 _)
  have ku4 : blk w4 w1.heap.size = some #[.bool true,.bool true,.bool true,.bool false]:=blk_belowB hb4 (by omega) (blk_alloc ku3 _)
  have hw4 : Below w.heap.size w w4:=(hw3.alloc hw3.size _).trans (hb4.mono (by omega))
  have hs4 : w1.heap.size + 2 ≤ w4.heap.size:=by have:=hb4.size;simp at this;omega
  clear nf nu kf3 ku3 hw3 hs3 hb4 HB3
  have nf:=kn kf4;have nu:=kn ku4
  have HB4:=Lib.hid hB4;clear hB4
  have hl4:=putsI_le [f.fr,f.to_,f.mi,f.yo]
  simp only [List.length_cons,List.length_nil] at hl4
  go_wp2_with fail
  (with_reducible refine (puti1 (w1.heap.size + 1) (w1.heap.size + 1) w4.heap.size (([Value.int .u8 f.k]) ++ Lib.byteCells (putsI [f.fr,f.to_,f.mi,f.yo])) f.a (0,0) _ (HB4.out.alloc _) (by simp only [List.length_append,Lib.byteCells_length,List.length_cons,List.length_nil];omega) (by have:=Hn.out.a;omega) (by omega) (heap_alloc_new _ _)).mono ?_)
  rintro e w5 ⟨rfl,hB5,hb5⟩
  have kf5 : blk w5 w.heap.size = some #[.int .i64 f.k,.int .i64 f.fr,.int .i64 f.to_,.int .u64 f.mi,.int .u64 f.yo,.int .u64 f.a,.int .u64 f.b,.int .i64 f.ino,.int .u64 f.isq,.int .i64 f.iof,.int .i64 f.bno,.int .u64 f.bsq,.int .i64 f.bof,.int .i64 f.bde,.int .i64 f.bpr,.int .i64 f.bbo,.int .i64 f.bli,.int .i64 f.bto,.string f.da]:=blk_belowB hb5 (by omega) (blk_alloc kf4 _)
  have ku5 : blk w5 w1.heap.size = some #[.bool true,.bool true,.bool true,.bool false]:=blk_belowB hb5 (by omega) (blk_alloc ku4 _)
  have hw5 : Below w.heap.size w w5:=(hw4.alloc hw4.size _).trans (hb5.mono (by omega))
  have hs5 : w1.heap.size + 2 ≤ w5.heap.size:=by have:=hb5.size;simp at this;omega
  clear nf nu kf4 ku4 hw4 hs4 hb5 HB4
  have nf:=kn kf5;have nu:=kn ku5
  have HB5:=Lib.hid hB5;clear hB5
  have hl5:=putsI_le [f.a]
  simp only [List.length_cons,List.length_nil] at hl5
  go_wp2_with fail
  (with_reducible refine (puti1 (w1.heap.size + 1) (w1.heap.size + 1) w5.heap.size ((([Value.int .u8 f.k]) ++ Lib.byteCells (putsI [f.fr,f.to_,f.mi,f.yo])) ++ Lib.byteCells (putsI [f.a])) f.b (0,0) _ (HB5.out.alloc _) (by simp only [List.length_append,Lib.byteCells_length,List.length_cons,List.length_nil];omega) (by have:=Hn.out.b;omega) (by omega) (heap_alloc_new _ _)).mono ?_)
  rintro e w6 ⟨rfl,hB6,hb6⟩
  have kf6 : blk w6 w.heap.size = some #[.int .i64 f.k,.int .i64 f.fr,.int .i64 f.to_,.int .u64 f.mi,.int .u64 f.yo,.int .u64 f.a,.int .u64 f.b,.int .i64 f.ino,.int .u64 f.isq,.int .i64 f.iof,.int .i64 f.bno,.int .u64 f.bsq,.int .i64 f.bof,.int .i64 f.bde,.int .i64 f.bpr,.int .i64 f.bbo,.int .i64 f.bli,.int .i64 f.bto,.string f.da]:=blk_belowB hb6 (by omega) (blk_alloc kf5 _)
  have ku6 : blk w6 w1.heap.size = some #[.bool true,.bool true,.bool true,.bool false]:=blk_belowB hb6 (by omega) (blk_alloc ku5 _)
  have hw6 : Below w.heap.size w w6:=(hw5.alloc hw5.size _).trans (hb6.mono (by omega))
  have hs6 : w1.heap.size + 2 ≤ w6.heap.size:=by have:=hb6.size;simp at this;omega
  clear nf nu kf5 ku5 hw5 hs5 hb6 HB5
  have nf:=kn kf6;have nu:=kn ku6
  have HB6:=Lib.hid hB6;clear hB6
  have hl6:=putsI_le [f.b]
  simp only [List.length_cons,List.length_nil] at hl6
  go_wp2_with fail
  (with_reducible refine (ge.out w6 (HH.out.on hw6) (HT.out.on hw6)).mono ?_)
  rintro e w7 ⟨rfl,hb7⟩
  have kf7 : blk w7 w.heap.size = some #[.int .i64 f.k,.int .i64 f.fr,.int .i64 f.to_,.int .u64 f.mi,.int .u64 f.yo,.int .u64 f.a,.int .u64 f.b,.int .i64 f.ino,.int .u64 f.isq,.int .i64 f.iof,.int .i64 f.bno,.int .u64 f.bsq,.int .i64 f.bof,.int .i64 f.bde,.int .i64 f.bpr,.int .i64 f.bbo,.int .i64 f.bli,.int .i64 f.bto,.string f.da]:=blk_below hb7 kf6
  have ku7 : blk w7 w1.heap.size = some #[.bool true,.bool true,.bool true,.bool false]:=blk_below hb7 ku6
  have hw7 : Below w.heap.size w w7:=hw6.trans (hb7.mono hw6.size)
  have hs7 : w1.heap.size + 2 ≤ w7.heap.size:=by have:=hb7.size;omega
  have HB7:=Lib.hid (HB6.out.below hb7)
  clear nf nu kf6 ku6 hw6 hs6 hb7 HB6
  have nf:=kn kf7;have nu:=kn ku7
  unfold bstr
  go_wp2_with fail
  (with_reducible refine (numPutText_any ⟨(bnL f).toArray⟩ w7 (by rw [bsize];omega)).mono ?_)
  rintro e w8 ⟨rfl,hb8⟩
  have kf8 : blk w8 w.heap.size = some #[.int .i64 f.k,.int .i64 f.fr,.int .i64 f.to_,.int .u64 f.mi,.int .u64 f.yo,.int .u64 f.a,.int .u64 f.b,.int .i64 f.ino,.int .u64 f.isq,.int .i64 f.iof,.int .i64 f.bno,.int .u64 f.bsq,.int .i64 f.bof,.int .i64 f.bde,.int .i64 f.bpr,.int .i64 f.bbo,.int .i64 f.bli,.int .i64 f.bto,.string f.da]:=blk_below hb8 kf7
  have ku8 : blk w8 w1.heap.size = some #[.bool true,.bool true,.bool true,.bool false]:=blk_below hb8 ku7
  have hw8 : Below w.heap.size w w8:=hw7.trans (hb8.mono hw7.size)
  have hs8 : w1.heap.size + 2 ≤ w8.heap.size:=by have:=hb8.size;omega
  have HB8:=Lib.hid (HB7.out.below hb8)
  clear nf nu kf7 ku7 hw7 hs7 hb8 HB7
  have nf:=kn kf8;have nu:=kn ku8
  unfold bstr
  go_wp2_with fail
  (with_reducible refine (wstring_any (w1.heap.size + 1) (w1.heap.size + 1) (((([Value.int .u8 f.k]) ++ Lib.byteCells (putsI [f.fr,f.to_,f.mi,f.yo])) ++ Lib.byteCells (putsI [f.a])) ++ Lib.byteCells (putsI [f.b])) ⟨(putTextN (bnL f)).toArray⟩ w8 HB8.out (by rw [bsize];simp only [List.length_append,Lib.byteCells_length,List.length_cons,List.length_nil];omega) (by omega)).mono ?_)
  rintro e w9 ⟨rfl,hB9,hb9,-⟩
  have kf9 : blk w9 w.heap.size = some #[.int .i64 f.k,.int .i64 f.fr,.int .i64 f.to_,.int .u64 f.mi,.int .u64 f.yo,.int .u64 f.a,.int .u64 f.b,.int .i64 f.ino,.int .u64 f.isq,.int .i64 f.iof,.int .i64 f.bno,.int .u64 f.bsq,.int .i64 f.bof,.int .i64 f.bde,.int .i64 f.bpr,.int .i64 f.bbo,.int .i64 f.bli,.int .i64 f.bto,.string f.da]:=blk_belowB hb9 (by omega) kf8
  have ku9 : blk w9 w1.heap.size = some #[.bool true,.bool true,.bool true,.bool false]:=blk_belowB hb9 (by omega) ku8
  have hw9 : Below w.heap.size w w9:=hw8.trans (hb9.mono (by omega))
  have hs9 : w1.heap.size + 2 ≤ w9.heap.size:=by have:=hb9.size;omega
  clear nf nu kf8 ku8 hw8 hs8 hb9 HB8
  have nf:=kn kf9;have nu:=kn ku9
  rw [Lib.strCells_toArray] at hB9
  have HB9:=Lib.hid hB9;clear hB9
  go_wp2_with fail
  (with_reducible refine (Tryd.Builder_String_any_k (w1.heap.size + 1) (w1.heap.size + 1) (bodyF f) w9 (by have:=HB9.out;rwa [kcell f.k hkb,← Lib.byteCells_append,← Lib.byteCells_append,← Lib.byteCells_append,← Lib.byteCells_append,show (((([UInt8.ofNat f.k.toNat]) ++ putsI [f.fr,f.to_,f.mi,f.yo]) ++ putsI [f.a]) ++ putsI [f.b]) ++ putTextN (bnL f) = bodyF f by simp [bodyF,putsI,putsN,Hk.out]] at this) (by omega)).mono ?_)
  rintro e wy ⟨rfl,-,hby,-⟩
  have hwy : Below w.heap.size w wy:=hw9.trans (hby.mono (by omega))
  clear nf nu kf9 ku9 hby HB9
  have gs:=Lib.hid (seal16_any ⟨(bodyF f).toArray⟩ (by rw [bsize];omega) wy)
  go_wp2_with fail
  (with_reducible refine gs.out.mono ?_)
  rintro e wz ⟨rfl,hbz⟩
  unfold bstr
  go_wp2
  go_ret
  exact ⟨rfl,hwy.trans (hbz.mono hwy.size)⟩
end Go.Proofs.YtaiofjffoboicaaDoor
namespace Go.Proofs.YtaiofjffoboicaaDoor
open Go.RowKit
set_option maxRecDepth 100000 in
set_option maxHeartbeats 3200000 in
theorem bytes_k4 (f : Fr) (hk : f.k = 4) (hC : frC f = 0) (hn : NN f) (w : World) (hH : HTab w) (hT : STab w) : Calls Tryd.prog 37 #[frv f] w fun e w' => e = .returned (bstr (sealS (bodyF f))) ∧ Below w.heap.size w w':=by
  have gu : ∀ w,Calls Tryd.prog 25 #[.int .i64 f.k] w fun e w' => e = .returned (.tuple #[.agg #[.bool true,.bool true,.bool false,.bool false],.bool true]) ∧ Below w.heap.size w w':=fun w => by have:=uses_any f.k w;rwa [show usesV f.k = .tuple #[.agg #[.bool true,.bool true,.bool false,.bool false],.bool true] by rw [hk];rfl] at this
  replace gu:=Lib.hid gu
  have hL:=(bodyF_len f hC).2
  obtain ⟨hkb,hr,hbc,-⟩:=frC_ok hC
  obtain ⟨r1,r2,r3,r4,-,r6,r7,r8,-,-,-,-⟩:=hr
  have Hk:=Lib.hid hk
  have HH:=Lib.hid hH;have HT:=Lib.hid hT
  clear hk hC hbc hH hT
  have Hn:=Lib.hid hn;clear hn
  go_enter Tryd.func37,Tryd.ntmps37
  go_wp2_with (go_at_call 25;(with_reducible refine (gu.out _).mono ?_);rintro e w1 ⟨rfl,h1⟩;have k1 : blk w1 w.heap.size = some #[.int .i64 f.k,.int .i64 f.fr,.int .i64 f.to_,.int .u64 f.mi,.int .u64 f.yo,.int .u64 f.a,.int .u64 f.b,.int .i64 f.ino,.int .u64 f.isq,.int .i64 f.iof,.int .i64 f.bno,.int .u64 f.bsq,.int .i64 f.bof,.int .i64 f.bde,.int .i64 f.bpr,.int .i64 f.bbo,.int .i64 f.bli,.int .i64 f.bto,.string f.da]:=(by (apply jt;(focus repeat(first|(with_reducible first|assumption|apply jd|apply js)|((with_reducible apply jo);first|focus(dsimp only;assumption)|focus(simp;done)|focus(dsimp only;omega))|((with_reducible apply jn);first|with_reducible rfl|focus(simp;done)|focus(simp;omega))|(with_reducible apply ja)|((with_reducible apply jb);with_reducible assumption)));rfl));have n1:=kn k1)
  have hB0:=Lib.IsBuilderF.of (Lib.fresh_isBuilder 105 5 (w1.alloc (.cells #[.bool true,.bool true,.bool false,.bool false] 57)))
  have hsz : (w1.alloc (.cells #[.bool true,.bool true,.bool false,.bool false] 57)).heap.size = w1.heap.size + 1:=by simp
  rw [hsz] at hB0
  refine (wbyte_any _ _ [] f.k _ hB0 (by simp) (by simp)).mono ?_
  rintro e w3 ⟨rfl,hB3,hb3,-⟩
  have hlt:=n1.2.2.1
  have kf3 : blk w3 w.heap.size = some #[.int .i64 f.k,.int .i64 f.fr,.int .i64 f.to_,.int .u64 f.mi,.int .u64 f.yo,.int .u64 f.a,.int .u64 f.b,.int .i64 f.ino,.int .u64 f.isq,.int .i64 f.iof,.int .i64 f.bno,.int .u64 f.bsq,.int .i64 f.bof,.int .i64 f.bde,.int .i64 f.bpr,.int .i64 f.bbo,.int .i64 f.bli,.int .i64 f.bto,.string f.da]:=blk_belowB hb3 (by omega) (by (apply jt;(focus repeat(first|(with_reducible first|assumption|apply jd|apply js)|((with_reducible apply jo);first|focus(dsimp only;assumption)|focus(simp;done)|focus(dsimp only;omega))|((with_reducible apply jn);first|with_reducible rfl|focus(simp;done)|focus(simp;omega))|(with_reducible apply ja)|((with_reducible apply jb);with_reducible assumption)));rfl))
  have ku3 : blk w3 w1.heap.size = some #[.bool true,.bool true,.bool false,.bool false]:=blk_belowB hb3 (by omega) (by (apply jt;(focus repeat(first|(with_reducible first|assumption|apply jd|apply js)|((with_reducible apply jo);first|focus(dsimp only;assumption)|focus(simp;done)|focus(dsimp only;omega))|((with_reducible apply jn);first|with_reducible rfl|focus(simp;done)|focus(simp;omega))|(with_reducible apply ja)|((with_reducible apply jb);with_reducible assumption)));rfl))
  have hw3 : Below w.heap.size w w3:=Below.trans (by (repeat(first|(with_reducible first|assumption|exact Below.refl _ _|refine je ?_|refine jl ?_)|((with_reducible refine jp ?_ ?_);first|focus(dsimp only;assumption)|focus(simp;done)|focus(dsimp only;omega))|(with_reducible refine bt ?_ (by assumption))))) (hb3.mono (by omega))
  have hs3 : w1.heap.size + 2 ≤ w3.heap.size:=by have:=hb3.size;simpa using this
  have nf:=kn kf3;have nu:=kn ku3
  clear hB0 hsz hb3 k1 n1 h1
  rw [List.nil_append] at hB3
  have HB3:=Lib.hid hB3;clear hB3
  go_wp2_with fail
  (with_reducible refine (puti4 (w1.heap.size + 1) (w1.heap.size + 1) w3.heap.size ([Value.int .u8 f.k]) f.fr f.to_ f.mi f.yo (0,0) _ (HB3.out.alloc _) (by simp only [List.length_append,Lib.byteCells_length,List.length_cons,List.length_nil];omega) (by omega) (by omega) (by have:=Hn.out.mi;omega) (by have:=Hn.out.yo;omega) (by omega) (heap_alloc_new _ _)).mono ?_)
  rintro e w4 ⟨rfl,hB4,hb4⟩
  have kf4 : blk w4 w.heap.size = some #[.int .i64 f.k,.int .i64 f.fr,.int .i64 f.to_,.int .u64 f.mi,.int .u64 f.yo,.int .u64 f.a,.int .u64 f.b,.int .i64 f.ino,.int .u64 f.isq,.int .i64 f.iof,.int .i64 f.bno,.int .u64 f.bsq,.int .i64 f.bof,.int .i64 f.bde,.int .i64 f.bpr,.int .i64 f.bbo,.int .i64 f.bli,.int .i64 f.bto,.string f.da]:=blk_belowB hb4 (by omega) (blk_alloc kf3 _)
  have ku4 : blk w4 w1.heap.size = some #[.bool true,.bool true,.bool false,.bool false]:=blk_belowB hb4 (by omega) (blk_alloc ku3 _)
  have hw4 : Below w.heap.size w w4:=(hw3.alloc hw3.size _).trans (hb4.mono (by omega))
  have hs4 : w1.heap.size + 2 ≤ w4.heap.size:=by have:=hb4.size;simp at this;omega
  clear nf nu kf3 ku3 hw3 hs3 hb4 HB3
  have nf:=kn kf4;have nu:=kn ku4
  have HB4:=Lib.hid hB4;clear hB4
  have hl4:=putsI_le [f.fr,f.to_,f.mi,f.yo]
  simp only [List.length_cons,List.length_nil] at hl4
  go_wp2_with fail
  (with_reducible refine (puti1 (w1.heap.size + 1) (w1.heap.size + 1) w4.heap.size (([Value.int .u8 f.k]) ++ Lib.byteCells (putsI [f.fr,f.to_,f.mi,f.yo])) f.a (0,0) _ (HB4.out.alloc _) (by simp only [List.length_append,Lib.byteCells_length,List.length_cons,List.length_nil];omega) (by have:=Hn.out.a;omega) (by omega) (heap_alloc_new _ _)).mono ?_)
  rintro e w5 ⟨rfl,hB5,hb5⟩
  have kf5 : blk w5 w.heap.size = some #[.int .i64 f.k,.int .i64 f.fr,.int .i64 f.to_,.int .u64 f.mi,.int .u64 f.yo,.int .u64 f.a,.int .u64 f.b,.int .i64 f.ino,.int .u64 f.isq,.int .i64 f.iof,.int .i64 f.bno,.int .u64 f.bsq,.int .i64 f.bof,.int .i64 f.bde,.int .i64 f.bpr,.int .i64 f.bbo,.int .i64 f.bli,.int .i64 f.bto,.string f.da]:=blk_belowB hb5 (by omega) (blk_alloc kf4 _)
  have ku5 : blk w5 w1.heap.size = some #[.bool true,.bool true,.bool false,.bool false]:=blk_belowB hb5 (by omega) (blk_alloc ku4 _)
  have hw5 : Below w.heap.size w w5:=(hw4.alloc hw4.size _).trans (hb5.mono (by omega))
  have hs5 : w1.heap.size + 2 ≤ w5.heap.size:=by have:=hb5.size;simp at this;omega
  clear nf nu kf4 ku4 hw4 hs4 hb5 HB4
  have nf:=kn kf5;have nu:=kn ku5
  have HB5:=Lib.hid hB5;clear hB5
  have hl5:=putsI_le [f.a]
  simp only [List.length_cons,List.length_nil] at hl5
  go_wp2_with fail
  (with_reducible refine (puti1 (w1.heap.size + 1) (w1.heap.size + 1) w5.heap.size ((([Value.int .u8 f.k]) ++ Lib.byteCells (putsI [f.fr,f.to_,f.mi,f.yo])) ++ Lib.byteCells (putsI [f.a])) f.b (0,0) _ (HB5.out.alloc _) (by simp only [List.length_append,Lib.byteCells_length,List.length_cons,List.length_nil];omega) (by have:=Hn.out.b;omega) (by omega) (heap_alloc_new _ _)).mono ?_)
  rintro e w6 ⟨rfl,hB6,hb6⟩
  have kf6 : blk w6 w.heap.size = some #[.int .i64 f.k,.int .i64 f.fr,.int .i64 f.to_,.int .u64 f.mi,.int .u64 f.yo,.int .u64 f.a,.int .u64 f.b,.int .i64 f.ino,.int .u64 f.isq,.int .i64 f.iof,.int .i64 f.bno,.int .u64 f.bsq,.int .i64 f.bof,.int .i64 f.bde,.int .i64 f.bpr,.int .i64 f.bbo,.int .i64 f.bli,.int .i64 f.bto,.string f.da]:=blk_belowB hb6 (by omega) (blk_alloc kf5 _)
  have ku6 : blk w6 w1.heap.size = some #[.bool true,.bool true,.bool false,.bool false]:=blk_belowB hb6 (by omega) (blk_alloc ku5 _)
  have hw6 : Below w.heap.size w w6:=(hw5.alloc hw5.size _).trans (hb6.mono (by omega))
  have hs6 : w1.heap.size + 2 ≤ w6.heap.size:=by have:=hb6.size;simp at this;omega
  clear nf nu kf5 ku5 hw5 hs5 hb6 HB5
  have nf:=kn kf6;have nu:=kn ku6
  have HB6:=Lib.hid hB6;clear hB6
  have hl6:=putsI_le [f.b]
  simp only [List.length_cons,List.length_nil] at hl6
  go_wp2_with fail
  (with_reducible refine (Tryd.Builder_String_any_k (w1.heap.size + 1) (w1.heap.size + 1) (bodyF f) w6 (by have:=HB6.out;rwa [kcell f.k hkb,← Lib.byteCells_append,← Lib.byteCells_append,← Lib.byteCells_append,show ((([UInt8.ofNat f.k.toNat]) ++ putsI [f.fr,f.to_,f.mi,f.yo]) ++ putsI [f.a]) ++ putsI [f.b] = bodyF f by simp [bodyF,putsI,putsN,Hk.out]] at this) (by omega)).mono ?_)
  rintro e wy ⟨rfl,-,hby,-⟩
  have hwy : Below w.heap.size w wy:=hw6.trans (hby.mono (by omega))
  clear nf nu kf6 ku6 hby HB6
  have gs:=Lib.hid (seal16_any ⟨(bodyF f).toArray⟩ (by rw [bsize];omega) wy)
  go_wp2_with fail
  (with_reducible refine gs.out.mono ?_)
  rintro e wz ⟨rfl,hbz⟩
  unfold bstr
  go_wp2
  go_ret
  exact ⟨rfl,hwy.trans (hbz.mono hwy.size)⟩
end Go.Proofs.YtaiofjffoboicaaDoor
namespace Go.Proofs.YtaiofjffoboicaaDoor
open Go.RowKit
set_option maxRecDepth 100000 in
set_option maxHeartbeats 3200000 in
theorem bytes_k5 (f : Fr) (hk : f.k = 5) (hC : frC f = 0) (hn : NN f) (w : World) (hH : HTab w) (hT : STab w) : Calls Tryd.prog 37 #[frv f] w fun e w' => e = .returned (bstr (sealS (bodyF f))) ∧ Below w.heap.size w w':=by
  have gu : ∀ w,Calls Tryd.prog 25 #[.int .i64 f.k] w fun e w' => e = .returned (.tuple #[.agg #[.bool true,.bool false,.bool false,.bool true],.bool true]) ∧ Below w.heap.size w w':=fun w => by have:=uses_any f.k w;rwa [show usesV f.k = .tuple #[.agg #[.bool true,.bool false,.bool false,.bool true],.bool true] by rw [hk];rfl] at this
  replace gu:=Lib.hid gu
  have hL:=(bodyF_len f hC).2
  obtain ⟨hkb,hr,hbc,-⟩:=frC_ok hC
  obtain ⟨r1,r2,r3,r4,-,r6,r7,r8,-,-,-,-⟩:=hr
  have hid : okI f.ino f.isq f.iof:=by
    unfold bcF at hbc
    rw [if_neg (by omega),if_pos (by omega)] at hbc
    rcases idC_cases f.ino f.isq f.iof with h|h
    · exact h.2
    · omega
  obtain ⟨i1,i2,i3,i4,i5⟩:=id_rng hid
  clear hid
  have Hk:=Lib.hid hk
  have HH:=Lib.hid hH;have HT:=Lib.hid hT
  clear hk hC hbc hH hT
  have Hn:=Lib.hid hn;clear hn
  go_enter Tryd.func37,Tryd.ntmps37
  go_wp2_with (go_at_call 25;(with_reducible refine (gu.out _).mono ?_);rintro e w1 ⟨rfl,h1⟩;have k1 : blk w1 w.heap.size = some #[.int .i64 f.k,.int .i64 f.fr,.int .i64 f.to_,.int .u64 f.mi,.int .u64 f.yo,.int .u64 f.a,.int .u64 f.b,.int .i64 f.ino,.int .u64 f.isq,.int .i64 f.iof,.int .i64 f.bno,.int .u64 f.bsq,.int .i64 f.bof,.int .i64 f.bde,.int .i64 f.bpr,.int .i64 f.bbo,.int .i64 f.bli,.int .i64 f.bto,.string f.da]:=(by (apply jt;(focus repeat(first|(with_reducible first|assumption|apply jd|apply js)|((with_reducible apply jo);first|focus(dsimp only;assumption)|focus(simp;done)|focus(dsimp only;omega))|((with_reducible apply jn);first|with_reducible rfl|focus(simp;done)|focus(simp;omega))|(with_reducible apply ja)|((with_reducible apply jb);with_reducible assumption)));rfl));have n1:=kn k1)
  have hB0:=Lib.IsBuilderF.of (Lib.fresh_isBuilder 105 5 (w1.alloc (.cells #[.bool true,.bool false,.bool false,.bool true] 57)))
  have hsz : (w1.alloc (.cells #[.bool true,.bool false,.bool false,.bool true] 57)).heap.size = w1.heap.size + 1:=by simp
  rw [hsz] at hB0
  refine (wbyte_any _ _ [] f.k _ hB0 (by simp) (by simp)).mono ?_
  rintro e w3 ⟨rfl,hB3,hb3,-⟩
  have hlt:=n1.2.2.1
  have kf3 : blk w3 w.heap.size = some #[.int .i64 f.k,.int .i64 f.fr,.int .i64 f.to_,.int .u64 f.mi,.int .u64 f.yo,.int .u64 f.a,.int .u64 f.b,.int .i64 f.ino,.int .u64 f.isq,.int .i64 f.iof,.int .i64 f.bno,.int .u64 f.bsq,.int .i64 f.bof,.int .i64 f.bde,.int .i64 f.bpr,.int .i64 f.bbo,.int .i64 f.bli,.int .i64 f.bto,.string f.da]:=blk_belowB hb3 (by omega) (by (apply jt;(focus repeat(first|(with_reducible first|assumption|apply jd|apply js)|((with_reducible apply jo);first|focus(dsimp only;assumption)|focus(simp;done)|focus(dsimp only;omega))|((with_reducible apply jn);first|with_reducible rfl|focus(simp;done)|focus(simp;omega))|(with_reducible apply ja)|((with_reducible apply jb);with_reducible assumption)));rfl))
  have ku3 : blk w3 w1.heap.size = some #[.bool true,.bool false,.bool false,.bool true]:=blk_belowB hb3 (by omega) (by (apply jt;(focus repeat(first|(with_reducible first|assumption|apply jd|apply js)|((with_reducible apply jo);first|focus(dsimp only;assumption)|focus(simp;done)|focus(dsimp only;omega))|((with_reducible apply jn);first|with_reducible rfl|focus(simp;done)|focus(simp;omega))|(with_reducible apply ja)|((with_reducible apply jb);with_reducible assumption)));rfl))
  have hw3 : Below w.heap.size w w3:=Below.trans (by (repeat(first|(with_reducible first|assumption|exact Below.refl _ _|refine je ?_|refine jl ?_)|((with_reducible refine jp ?_ ?_);first|focus(dsimp only;assumption)|focus(simp;done)|focus(dsimp only;omega))|(with_reducible refine bt ?_ (by assumption))))) (hb3.mono (by omega))
  have hs3 : w1.heap.size + 2 ≤ w3.heap.size:=by have:=hb3.size;simpa using this
  have nf:=kn kf3;have nu:=kn ku3
  clear hB0 hsz hb3 k1 n1 h1
  rw [List.nil_append] at hB3
  have HB3:=Lib.hid hB3;clear hB3
  go_wp2_with fail
  (with_reducible refine (puti4 (w1.heap.size + 1) (w1.heap.size + 1) w3.heap.size ([Value.int .u8 f.k]) f.fr f.to_ f.mi f.yo (0,0) _ (HB3.out.alloc _) (by simp only [List.length_append,Lib.byteCells_length,List.length_cons,List.length_nil];omega) (by omega) (by omega) (by have:=Hn.out.mi;omega) (by have:=Hn.out.yo;omega) (by omega) (heap_alloc_new _ _)).mono ?_)
  rintro e w4 ⟨rfl,hB4,hb4⟩
  have kf4 : blk w4 w.heap.size = some #[.int .i64 f.k,.int .i64 f.fr,.int .i64 f.to_,.int .u64 f.mi,.int .u64 f.yo,.int .u64 f.a,.int .u64 f.b,.int .i64 f.ino,.int .u64 f.isq,.int .i64 f.iof,.int .i64 f.bno,.int .u64 f.bsq,.int .i64 f.bof,.int .i64 f.bde,.int .i64 f.bpr,.int .i64 f.bbo,.int .i64 f.bli,.int .i64 f.bto,.string f.da]:=blk_belowB hb4 (by omega) (blk_alloc kf3 _)
  have ku4 : blk w4 w1.heap.size = some #[.bool true,.bool false,.bool false,.bool true]:=blk_belowB hb4 (by omega) (blk_alloc ku3 _)
  have hw4 : Below w.heap.size w w4:=(hw3.alloc hw3.size _).trans (hb4.mono (by omega))
  have hs4 : w1.heap.size + 2 ≤ w4.heap.size:=by have:=hb4.size;simp at this;omega
  clear nf nu kf3 ku3 hw3 hs3 hb4 HB3
  have nf:=kn kf4;have nu:=kn ku4
  have HB4:=Lib.hid hB4;clear hB4
  have hl4:=putsI_le [f.fr,f.to_,f.mi,f.yo]
  simp only [List.length_cons,List.length_nil] at hl4
  go_wp2_with fail
  (with_reducible refine (puti1 (w1.heap.size + 1) (w1.heap.size + 1) w4.heap.size (([Value.int .u8 f.k]) ++ Lib.byteCells (putsI [f.fr,f.to_,f.mi,f.yo])) f.a (0,0) _ (HB4.out.alloc _) (by simp only [List.length_append,Lib.byteCells_length,List.length_cons,List.length_nil];omega) (by have:=Hn.out.a;omega) (by omega) (heap_alloc_new _ _)).mono ?_)
  rintro e w5 ⟨rfl,hB5,hb5⟩
  have kf5 : blk w5 w.heap.size = some #[.int .i64 f.k,.int .i64 f.fr,.int .i64 f.to_,.int .u64 f.mi,.int .u64 f.yo,.int .u64 f.a,.int .u64 f.b,.int .i64 f.ino,.int .u64 f.isq,.int .i64 f.iof,.int .i64 f.bno,.int .u64 f.bsq,.int .i64 f.bof,.int .i64 f.bde,.int .i64 f.bpr,.int .i64 f.bbo,.int .i64 f.bli,.int .i64 f.bto,.string f.da]:=blk_belowB hb5 (by omega) (blk_alloc kf4 _)
  have ku5 : blk w5 w1.heap.size = some #[.bool true,.bool false,.bool false,.bool true]:=blk_belowB hb5 (by omega) (blk_alloc ku4 _)
  have hw5 : Below w.heap.size w w5:=(hw4.alloc hw4.size _).trans (hb5.mono (by omega))
  have hs5 : w1.heap.size + 2 ≤ w5.heap.size:=by have:=hb5.size;simp at this;omega
  clear nf nu kf4 ku4 hw4 hs4 hb5 HB4
  have nf:=kn kf5;have nu:=kn ku5
  have HB5:=Lib.hid hB5;clear hB5
  have hl5:=putsI_le [f.a]
  simp only [List.length_cons,List.length_nil] at hl5
  go_wp2_with fail
  (with_reducible refine (puti3 (w1.heap.size + 1) (w1.heap.size + 1) w5.heap.size ((([Value.int .u8 f.k]) ++ Lib.byteCells (putsI [f.fr,f.to_,f.mi,f.yo])) ++ Lib.byteCells (putsI [f.a])) f.ino f.isq f.iof (0,0) _ (HB5.out.alloc _) (by simp only [List.length_append,Lib.byteCells_length,List.length_cons,List.length_nil];omega) (by omega) (by have:=Hn.out.isq;omega) (by omega) (by omega) (heap_alloc_new _ _)).mono ?_)
  rintro e w6 ⟨rfl,hB6,hb6⟩
  have kf6 : blk w6 w.heap.size = some #[.int .i64 f.k,.int .i64 f.fr,.int .i64 f.to_,.int .u64 f.mi,.int .u64 f.yo,.int .u64 f.a,.int .u64 f.b,.int .i64 f.ino,.int .u64 f.isq,.int .i64 f.iof,.int .i64 f.bno,.int .u64 f.bsq,.int .i64 f.bof,.int .i64 f.bde,.int .i64 f.bpr,.int .i64 f.bbo,.int .i64 f.bli,.int .i64 f.bto,.string f.da]:=blk_belowB hb6 (by omega) (blk_alloc kf5 _)
  have ku6 : blk w6 w1.heap.size = some #[.bool true,.bool false,.bool false,.bool true]:=blk_belowB hb6 (by omega) (blk_alloc ku5 _)
  have hw6 : Below w.heap.size w w6:=(hw5.alloc hw5.size _).trans (hb6.mono (by omega))
  have hs6 : w1.heap.size + 2 ≤ w6.heap.size:=by have:=hb6.size;simp at this;omega
  clear nf nu kf5 ku5 hw5 hs5 hb6 HB5
  have nf:=kn kf6;have nu:=kn ku6
  have HB6:=Lib.hid hB6;clear hB6
  have hl6:=putsI_le [f.ino,f.isq,f.iof]
  simp only [List.length_cons,List.length_nil] at hl6
  go_wp2_with fail
  (with_reducible refine (Tryd.Builder_String_any_k (w1.heap.size + 1) (w1.heap.size + 1) (bodyF f) w6 (by have:=HB6.out;rwa [kcell f.k hkb,← Lib.byteCells_append,← Lib.byteCells_append,← Lib.byteCells_append,show ((([UInt8.ofNat f.k.toNat]) ++ putsI [f.fr,f.to_,f.mi,f.yo]) ++ putsI [f.a]) ++ putsI [f.ino,f.isq,f.iof] = bodyF f by simp [bodyF,putsI,putsN,Hk.out]] at this) (by omega)).mono ?_)
  rintro e wy ⟨rfl,-,hby,-⟩
  have hwy : Below w.heap.size w wy:=hw6.trans (hby.mono (by omega))
  clear nf nu kf6 ku6 hby HB6
  have gs:=Lib.hid (seal16_any ⟨(bodyF f).toArray⟩ (by rw [bsize];omega) wy)
  go_wp2_with fail
  (with_reducible refine gs.out.mono ?_)
  rintro e wz ⟨rfl,hbz⟩
  unfold bstr
  go_wp2
  go_ret
  exact ⟨rfl,hwy.trans (hbz.mono hwy.size)⟩
end Go.Proofs.YtaiofjffoboicaaDoor
namespace Go.Proofs.YtaiofjffoboicaaDoor
open Go.RowKit
set_option maxRecDepth 100000 in
set_option maxHeartbeats 3200000 in
theorem bytes_k6 (f : Fr) (hk : f.k = 6) (hC : frC f = 0) (hn : NN f) (w : World) (hH : HTab w) (hT : STab w) : Calls Tryd.prog 37 #[frv f] w fun e w' => e = .returned (bstr (sealS (bodyF f))) ∧ Below w.heap.size w w':=by
  have gu : ∀ w,Calls Tryd.prog 25 #[.int .i64 f.k] w fun e w' => e = .returned (.tuple #[.agg #[.bool true,.bool true,.bool false,.bool true],.bool true]) ∧ Below w.heap.size w w':=fun w => by have:=uses_any f.k w;rwa [show usesV f.k = .tuple #[.agg #[.bool true,.bool true,.bool false,.bool true],.bool true] by rw [hk];rfl] at this
  replace gu:=Lib.hid gu
  have hL:=(bodyF_len f hC).2
  obtain ⟨hkb,hr,hbc,-⟩:=frC_ok hC
  obtain ⟨r1,r2,r3,r4,-,r6,r7,r8,-,-,-,-⟩:=hr
  have hid : okI f.ino f.isq f.iof:=by
    unfold bcF at hbc
    rw [if_neg (by omega),if_pos (by omega)] at hbc
    rcases idC_cases f.ino f.isq f.iof with h|h
    · exact h.2
    · omega
  obtain ⟨i1,i2,i3,i4,i5⟩:=id_rng hid
  clear hid
  have Hk:=Lib.hid hk
  have HH:=Lib.hid hH;have HT:=Lib.hid hT
  clear hk hC hbc hH hT
  have Hn:=Lib.hid hn;clear hn
  go_enter Tryd.func37,Tryd.ntmps37
  go_wp2_with (go_at_call 25;(with_reducible refine (gu.out _).mono ?_);rintro e w1 ⟨rfl,h1⟩;have k1 : blk w1 w.heap.size = some #[.int .i64 f.k,.int .i64 f.fr,.int .i64 f.to_,.int .u64 f.mi,.int .u64 f.yo,.int .u64 f.a,.int .u64 f.b,.int .i64 f.ino,.int .u64 f.isq,.int .i64 f.iof,.int .i64 f.bno,.int .u64 f.bsq,.int .i64 f.bof,.int .i64 f.bde,.int .i64 f.bpr,.int .i64 f.bbo,.int .i64 f.bli,.int .i64 f.bto,.string f.da]:=(by (apply jt;(focus repeat(first|(with_reducible first|assumption|apply jd|apply js)|((with_reducible apply jo);first|focus(dsimp only;assumption)|focus(simp;done)|focus(dsimp only;omega))|((with_reducible apply jn);first|with_reducible rfl|focus(simp;done)|focus(simp;omega))|(with_reducible apply ja)|((with_reducible apply jb);with_reducible assumption)));rfl));have n1:=kn k1)
  have hB0:=Lib.IsBuilderF.of (Lib.fresh_isBuilder 105 5 (w1.alloc (.cells #[.bool true,.bool true,.bool false,.bool true] 57)))
  have hsz : (w1.alloc (.cells #[.bool true,.bool true,.bool false,.bool true] 57)).heap.size = w1.heap.size + 1:=by simp
  rw [hsz] at hB0
  refine (wbyte_any _ _ [] f.k _ hB0 (by simp) (by simp)).mono ?_
  rintro e w3 ⟨rfl,hB3,hb3,-⟩
  have hlt:=n1.2.2.1
  have kf3 : blk w3 w.heap.size = some #[.int .i64 f.k,.int .i64 f.fr,.int .i64 f.to_,.int .u64 f.mi,.int .u64 f.yo,.int .u64 f.a,.int .u64 f.b,.int .i64 f.ino,.int .u64 f.isq,.int .i64 f.iof,.int .i64 f.bno,.int .u64 f.bsq,.int .i64 f.bof,.int .i64 f.bde,.int .i64 f.bpr,.int .i64 f.bbo,.int .i64 f.bli,.int .i64 f.bto,.string f.da]:=blk_belowB hb3 (by omega) (by (apply jt;(focus repeat(first|(with_reducible first|assumption|apply jd|apply js)|((with_reducible apply jo);first|focus(dsimp only;assumption)|focus(simp;done)|focus(dsimp only;omega))|((with_reducible apply jn);first|with_reducible rfl|focus(simp;done)|focus(simp;omega))|(with_reducible apply ja)|((with_reducible apply jb);with_reducible assumption)));rfl))
  have ku3 : blk w3 w1.heap.size = some #[.bool true,.bool true,.bool false,.bool true]:=blk_belowB hb3 (by omega) (by (apply jt;(focus repeat(first|(with_reducible first|assumption|apply jd|apply js)|((with_reducible apply jo);first|focus(dsimp only;assumption)|focus(simp;done)|focus(dsimp only;omega))|((with_reducible apply jn);first|with_reducible rfl|focus(simp;done)|focus(simp;omega))|(with_reducible apply ja)|((with_reducible apply jb);with_reducible assumption)));rfl))
  have hw3 : Below w.heap.size w w3:=Below.trans (by (repeat(first|(with_reducible first|assumption|exact Below.refl _ _|refine je ?_|refine jl ?_)|((with_reducible refine jp ?_ ?_);first|focus(dsimp only;assumption)|focus(simp;done)|focus(dsimp only;omega))|(with_reducible refine bt ?_ (by assumption))))) (hb3.mono (by omega))
  have hs3 : w1.heap.size + 2 ≤ w3.heap.size:=by have:=hb3.size;simpa using this
  have nf:=kn kf3;have nu:=kn ku3
  clear hB0 hsz hb3 k1 n1 h1
  rw [List.nil_append] at hB3
  have HB3:=Lib.hid hB3;clear hB3
  go_wp2_with fail
  (with_reducible refine (puti4 (w1.heap.size + 1) (w1.heap.size + 1) w3.heap.size ([Value.int .u8 f.k]) f.fr f.to_ f.mi f.yo (0,0) _ (HB3.out.alloc _) (by simp only [List.length_append,Lib.byteCells_length,List.length_cons,List.length_nil];omega) (by omega) (by omega) (by have:=Hn.out.mi;omega) (by have:=Hn.out.yo;omega) (by omega) (heap_alloc_new _ _)).mono ?_)
  rintro e w4 ⟨rfl,hB4,hb4⟩
  have kf4 : blk w4 w.heap.size = some #[.int .i64 f.k,.int .i64 f.fr,.int .i64 f.to_,.int .u64 f.mi,.int .u64 f.yo,.int .u64 f.a,.int .u64 f.b,.int .i64 f.ino,.int .u64 f.isq,.int .i64 f.iof,.int .i64 f.bno,.int .u64 f.bsq,.int .i64 f.bof,.int .i64 f.bde,.int .i64 f.bpr,.int .i64 f.bbo,.int .i64 f.bli,.int .i64 f.bto,.string f.da]:=blk_belowB hb4 (by omega) (blk_alloc kf3 _)
  have ku4 : blk w4 w1.heap.size = some #[.bool true,.bool true,.bool false,.bool true]:=blk_belowB hb4 (by omega) (blk_alloc ku3 _)
  have hw4 : Below w.heap.size w w4:=(hw3.alloc hw3.size _).trans (hb4.mono (by omega))
  have hs4 : w1.heap.size + 2 ≤ w4.heap.size:=by have:=hb4.size;simp at this;omega
  clear nf nu kf3 ku3 hw3 hs3 hb4 HB3
  have nf:=kn kf4;have nu:=kn ku4
  have HB4:=Lib.hid hB4;clear hB4
  have hl4:=putsI_le [f.fr,f.to_,f.mi,f.yo]
  simp only [List.length_cons,List.length_nil] at hl4
  go_wp2_with fail
  (with_reducible refine (puti1 (w1.heap.size + 1) (w1.heap.size + 1) w4.heap.size (([Value.int .u8 f.k]) ++ Lib.byteCells (putsI [f.fr,f.to_,f.mi,f.yo])) f.a (0,0) _ (HB4.out.alloc _) (by simp only [List.length_append,Lib.byteCells_length,List.length_cons,List.length_nil];omega) (by have:=Hn.out.a;omega) (by omega) (heap_alloc_new _ _)).mono ?_)
  rintro e w5 ⟨rfl,hB5,hb5⟩
  have kf5 : blk w5 w.heap.size = some #[.int .i64 f.k,.int .i64 f.fr,.int .i64 f.to_,.int .u64 f.mi,.int .u64 f.yo,.int .u64 f.a,.int .u64 f.b,.int .i64 f.ino,.int .u64 f.isq,.int .i64 f.iof,.int .i64 f.bno,.int .u64 f.bsq,.int .i64 f.bof,.int .i64 f.bde,.int .i64 f.bpr,.int .i64 f.bbo,.int .i64 f.bli,.int .i64 f.bto,.string f.da]:=blk_belowB hb5 (by omega) (blk_alloc kf4 _)
  have ku5 : blk w5 w1.heap.size = some #[.bool true,.bool true,.bool false,.bool true]:=blk_belowB hb5 (by omega) (blk_alloc ku4 _)
  have hw5 : Below w.heap.size w w5:=(hw4.alloc hw4.size _).trans (hb5.mono (by omega))
  have hs5 : w1.heap.size + 2 ≤ w5.heap.size:=by have:=hb5.size;simp at this;omega
  clear nf nu kf4 ku4 hw4 hs4 hb5 HB4
  have nf:=kn kf5;have nu:=kn ku5
  have HB5:=Lib.hid hB5;clear hB5
  have hl5:=putsI_le [f.a]
  simp only [List.length_cons,List.length_nil] at hl5
  go_wp2_with fail
  (with_reducible refine (puti1 (w1.heap.size + 1) (w1.heap.size + 1) w5.heap.size ((([Value.int .u8 f.k]) ++ Lib.byteCells (putsI [f.fr,f.to_,f.mi,f.yo])) ++ Lib.byteCells (putsI [f.a])) f.b (0,0) _ (HB5.out.alloc _) (by simp only [List.length_append,Lib.byteCells_length,List.length_cons,List.length_nil];omega) (by have:=Hn.out.b;omega) (by omega) (heap_alloc_new _ _)).mono ?_)
  rintro e w6 ⟨rfl,hB6,hb6⟩
  have kf6 : blk w6 w.heap.size = some #[.int .i64 f.k,.int .i64 f.fr,.int .i64 f.to_,.int .u64 f.mi,.int .u64 f.yo,.int .u64 f.a,.int .u64 f.b,.int .i64 f.ino,.int .u64 f.isq,.int .i64 f.iof,.int .i64 f.bno,.int .u64 f.bsq,.int .i64 f.bof,.int .i64 f.bde,.int .i64 f.bpr,.int .i64 f.bbo,.int .i64 f.bli,.int .i64 f.bto,.string f.da]:=blk_belowB hb6 (by omega) (blk_alloc kf5 _)
  have ku6 : blk w6 w1.heap.size = some #[.bool true,.bool true,.bool false,.bool true]:=blk_belowB hb6 (by omega) (blk_alloc ku5 _)
  have hw6 : Below w.heap.size w w6:=(hw5.alloc hw5.size _).trans (hb6.mono (by omega))
  have hs6 : w1.heap.size + 2 ≤ w6.heap.size:=by have:=hb6.size;simp at this;omega
  clear nf nu kf5 ku5 hw5 hs5 hb6 HB5
  have nf:=kn kf6;have nu:=kn ku6
  have HB6:=Lib.hid hB6;clear hB6
  have hl6:=putsI_le [f.b]
  simp only [List.length_cons,List.length_nil] at hl6
  go_wp2_with fail
  (with_reducible refine (puti3 (w1.heap.size + 1) (w1.heap.size + 1) w6.heap.size (((([Value.int .u8 f.k]) ++ Lib.byteCells (putsI [f.fr,f.to_,f.mi,f.yo])) ++ Lib.byteCells (putsI [f.a])) ++ Lib.byteCells (putsI [f.b])) f.ino f.isq f.iof (0,0) _ (HB6.out.alloc _) (by simp only [List.length_append,Lib.byteCells_length,List.length_cons,List.length_nil];omega) (by omega) (by have:=Hn.out.isq;omega) (by omega) (by omega) (heap_alloc_new _ _)).mono ?_)
  rintro e w7 ⟨rfl,hB7,hb7⟩
  have kf7 : blk w7 w.heap.size = some #[.int .i64 f.k,.int .i64 f.fr,.int .i64 f.to_,.int .u64 f.mi,.int .u64 f.yo,.int .u64 f.a,.int .u64 f.b,.int .i64 f.ino,.int .u64 f.isq,.int .i64 f.iof,.int .i64 f.bno,.int .u64 f.bsq,.int .i64 f.bof,.int .i64 f.bde,.int .i64 f.bpr,.int .i64 f.bbo,.int .i64 f.bli,.int .i64 f.bto,.string f.da]:=blk_belowB hb7 (by omega) (blk_alloc kf6 _)
  have ku7 : blk w7 w1.heap.size = some #[.bool true,.bool true,.bool false,.bool true]:=blk_belowB hb7 (by omega) (blk_alloc ku6 _)
  have hw7 : Below w.heap.size w w7:=(hw6.alloc hw6.size _).trans (hb7.mono (by omega))
  have hs7 : w1.heap.size + 2 ≤ w7.heap.size:=by have:=hb7.size;simp at this;omega
  clear nf nu kf6 ku6 hw6 hs6 hb7 HB6
  have nf:=kn kf7;have nu:=kn ku7
  have HB7:=Lib.hid hB7;clear hB7
  have hl7:=putsI_le [f.ino,f.isq,f.iof]
  simp only [List.length_cons,List.length_nil] at hl7
  go_wp2_with fail
  (with_reducible refine (Tryd.Builder_String_any_k (w1.heap.size + 1) (w1.heap.size + 1) (bodyF f) w7 (by have:=HB7.out;rwa [kcell f.k hkb,← Lib.byteCells_append,← Lib.byteCells_append,← Lib.byteCells_append,← Lib.byteCells_append,show (((([UInt8.ofNat f.k.toNat]) ++ putsI [f.fr,f.to_,f.mi,f.yo]) ++ putsI [f.a]) ++ putsI [f.b]) ++ putsI [f.ino,f.isq,f.iof] = bodyF f by simp [bodyF,putsI,putsN,Hk.out]] at this) (by omega)).mono ?_)
  rintro e wy ⟨rfl,-,hby,-⟩
  have hwy : Below w.heap.size w wy:=hw7.trans (hby.mono (by omega))
  clear nf nu kf7 ku7 hby HB7
  have gs:=Lib.hid (seal16_any ⟨(bodyF f).toArray⟩ (by rw [bsize];omega) wy)
  go_wp2_with fail
  (with_reducible refine gs.out.mono ?_)
  rintro e wz ⟨rfl,hbz⟩
  unfold bstr
  go_wp2
  go_ret
  exact ⟨rfl,hwy.trans (hbz.mono hwy.size)⟩
end Go.Proofs.YtaiofjffoboicaaDoor
namespace Go.Proofs.YtaiofjffoboicaaDoor
open Go.RowKit
set_option maxRecDepth 100000 in
set_option maxHeartbeats 3200000 in
theorem bytes_k7 (f : Fr) (hk : f.k = 7) (hC : frC f = 0) (hn : NN f) (w : World) (hH : HTab w) (hT : STab w) : Calls Tryd.prog 37 #[frv f] w fun e w' => e = .returned (bstr (sealS (bodyF f))) ∧ Below w.heap.size w w':=by
  have gu : ∀ w,Calls Tryd.prog 25 #[.int .i64 f.k] w fun e w' => e = .returned (.tuple #[.agg #[.bool true,.bool false,.bool false,.bool false],.bool true]) ∧ Below w.heap.size w w':=fun w => by have:=uses_any f.k w;rwa [show usesV f.k = .tuple #[.agg #[.bool true,.bool false,.bool false,.bool false],.bool true] by rw [hk];rfl] at this
  replace gu:=Lib.hid gu
  have hL:=(bodyF_len f hC).2
  obtain ⟨hkb,hr,hbc,-⟩:=frC_ok hC
  obtain ⟨r1,r2,r3,r4,-,r6,r7,r8,-,-,-,-⟩:=hr
  have Hk:=Lib.hid hk
  have HH:=Lib.hid hH;have HT:=Lib.hid hT
  clear hk hC hbc hH hT
  have Hn:=Lib.hid hn;clear hn
  go_enter Tryd.func37,Tryd.ntmps37
  go_wp2_with (go_at_call 25;(with_reducible refine (gu.out _).mono ?_);rintro e w1 ⟨rfl,h1⟩;have k1 : blk w1 w.heap.size = some #[.int .i64 f.k,.int .i64 f.fr,.int .i64 f.to_,.int .u64 f.mi,.int .u64 f.yo,.int .u64 f.a,.int .u64 f.b,.int .i64 f.ino,.int .u64 f.isq,.int .i64 f.iof,.int .i64 f.bno,.int .u64 f.bsq,.int .i64 f.bof,.int .i64 f.bde,.int .i64 f.bpr,.int .i64 f.bbo,.int .i64 f.bli,.int .i64 f.bto,.string f.da]:=(by (apply jt;(focus repeat(first|(with_reducible first|assumption|apply jd|apply js)|((with_reducible apply jo);first|focus(dsimp only;assumption)|focus(simp;done)|focus(dsimp only;omega))|((with_reducible apply jn);first|with_reducible rfl|focus(simp;done)|focus(simp;omega))|(with_reducible apply ja)|((with_reducible apply jb);with_reducible assumption)));rfl));have n1:=kn k1)
  have hB0:=Lib.IsBuilderF.of (Lib.fresh_isBuilder 105 5 (w1.alloc (.cells #[.bool true,.bool false,.bool false,.bool false] 57)))
  have hsz : (w1.alloc (.cells #[.bool true,.bool false,.bool false,.bool false] 57)).heap.size = w1.heap.size + 1:=by simp
  rw [hsz] at hB0
  refine (wbyte_any _ _ [] f.k _ hB0 (by simp) (by simp)).mono ?_
  rintro e w3 ⟨rfl,hB3,hb3,-⟩
  have hlt:=n1.2.2.1
  have kf3 : blk w3 w.heap.size = some #[.int .i64 f.k,.int .i64 f.fr,.int .i64 f.to_,.int .u64 f.mi,.int .u64 f.yo,.int .u64 f.a,.int .u64 f.b,.int .i64 f.ino,.int .u64 f.isq,.int .i64 f.iof,.int .i64 f.bno,.int .u64 f.bsq,.int .i64 f.bof,.int .i64 f.bde,.int .i64 f.bpr,.int .i64 f.bbo,.int .i64 f.bli,.int .i64 f.bto,.string f.da]:=blk_belowB hb3 (by omega) (by (apply jt;(focus repeat(first|(with_reducible first|assumption|apply jd|apply js)|((with_reducible apply jo);first|focus(dsimp only;assumption)|focus(simp;done)|focus(dsimp only;omega))|((with_reducible apply jn);first|with_reducible rfl|focus(simp;done)|focus(simp;omega))|(with_reducible apply ja)|((with_reducible apply jb);with_reducible assumption)));rfl))
  have ku3 : blk w3 w1.heap.size = some #[.bool true,.bool false,.bool false,.bool false]:=blk_belowB hb3 (by omega) (by (apply jt;(focus repeat(first|(with_reducible first|assumption|apply jd|apply js)|((with_reducible apply jo);first|focus(dsimp only;assumption)|focus(simp;done)|focus(dsimp only;omega))|((with_reducible apply jn);first|with_reducible rfl|focus(simp;done)|focus(simp;omega))|(with_reducible apply ja)|((with_reducible apply jb);with_reducible assumption)));rfl))
  have hw3 : Below w.heap.size w w3:=Below.trans (by (repeat(first|(with_reducible first|assumption|exact Below.refl _ _|refine je ?_|refine jl ?_)|((with_reducible refine jp ?_ ?_);first|focus(dsimp only;assumption)|focus(simp;done)|focus(dsimp only;omega))|(with_reducible refine bt ?_ (by assumption))))) (hb3.mono (by omega))
  have hs3 : w1.heap.size + 2 ≤ w3.heap.size:=by have:=hb3.size;simpa using this
  have nf:=kn kf3;have nu:=kn ku3
  clear hB0 hsz hb3 k1 n1 h1
  rw [List.nil_append] at hB3
  have HB3:=Lib.hid hB3;clear hB3
  go_wp2_with fail
  (with_reducible refine (puti4 (w1.heap.size + 1) (w1.heap.size + 1) w3.heap.size ([Value.int .u8 f.k]) f.fr f.to_ f.mi f.yo (0,0) _ (HB3.out.alloc _) (by simp only [List.length_append,Lib.byteCells_length,List.length_cons,List.length_nil];omega) (by omega) (by omega) (by have:=Hn.out.mi;omega) (by have:=Hn.out.yo;omega) (by omega) (heap_alloc_new _ _)).mono ?_)
  rintro e w4 ⟨rfl,hB4,hb4⟩
  have kf4 : blk w4 w.heap.size = some #[.int .i64 f.k,.int .i64 f.fr,.int .i64 f.to_,.int .u64 f.mi,.int .u64 f.yo,.int .u64 f.a,.int .u64 f.b,.int .i64 f.ino,.int .u64 f.isq,.int .i64 f.iof,.int .i64 f.bno,.int .u64 f.bsq,.int .i64 f.bof,.int .i64 f.bde,.int .i64 f.bpr,.int .i64 f.bbo,.int .i64 f.bli,.int .i64 f.bto,.string f.da]:=blk_belowB hb4 (by omega) (blk_alloc kf3 _)
  have ku4 : blk w4 w1.heap.size = some #[.bool true,.bool false,.bool false,.bool false]:=blk_belowB hb4 (by omega) (blk_alloc ku3 _)
  have hw4 : Below w.heap.size w w4:=(hw3.alloc hw3.size _).trans (hb4.mono (by omega))
  have hs4 : w1.heap.size + 2 ≤ w4.heap.size:=by have:=hb4.size;simp at this;omega
  clear nf nu kf3 ku3 hw3 hs3 hb4 HB3
  have nf:=kn kf4;have nu:=kn ku4
  have HB4:=Lib.hid hB4;clear hB4
  have hl4:=putsI_le [f.fr,f.to_,f.mi,f.yo]
  simp only [List.length_cons,List.length_nil] at hl4
  go_wp2_with fail
  (with_reducible refine (puti1 (w1.heap.size + 1) (w1.heap.size + 1) w4.heap.size (([Value.int .u8 f.k]) ++ Lib.byteCells (putsI [f.fr,f.to_,f.mi,f.yo])) f.a (0,0) _ (HB4.out.alloc _) (by simp only [List.length_append,Lib.byteCells_length,List.length_cons,List.length_nil];omega) (by have:=Hn.out.a;omega) (by omega) (heap_alloc_new _ _)).mono ?_)
  rintro e w5 ⟨rfl,hB5,hb5⟩
  have kf5 : blk w5 w.heap.size = some #[.int .i64 f.k,.int .i64 f.fr,.int .i64 f.to_,.int .u64 f.mi,.int .u64 f.yo,.int .u64 f.a,.int .u64 f.b,.int .i64 f.ino,.int .u64 f.isq,.int .i64 f.iof,.int .i64 f.bno,.int .u64 f.bsq,.int .i64 f.bof,.int .i64 f.bde,.int .i64 f.bpr,.int .i64 f.bbo,.int .i64 f.bli,.int .i64 f.bto,.string f.da]:=blk_belowB hb5 (by omega) (blk_alloc kf4 _)
  have ku5 : blk w5 w1.heap.size = some #[.bool true,.bool false,.bool false,.bool false]:=blk_belowB hb5 (by omega) (blk_alloc ku4 _)
  have hw5 : Below w.heap.size w w5:=(hw4.alloc hw4.size _).trans (hb5.mono (by omega))
  have hs5 : w1.heap.size + 2 ≤ w5.heap.size:=by have:=hb5.size;simp at this;omega
  clear nf nu kf4 ku4 hw4 hs4 hb5 HB4
  have nf:=kn kf5;have nu:=kn ku5
  have HB5:=Lib.hid hB5;clear hB5
  have hl5:=putsI_le [f.a]
  simp only [List.length_cons,List.length_nil] at hl5
  go_wp2_with fail
  (with_reducible refine (Tryd.Builder_String_any_k (w1.heap.size + 1) (w1.heap.size + 1) (bodyF f) w5 (by have:=HB5.out;rwa [kcell f.k hkb,← Lib.byteCells_append,← Lib.byteCells_append,show (([UInt8.ofNat f.k.toNat]) ++ putsI [f.fr,f.to_,f.mi,f.yo]) ++ putsI [f.a] = bodyF f by simp [bodyF,putsI,putsN,Hk.out]] at this) (by omega)).mono ?_)
  rintro e wy ⟨rfl,-,hby,-⟩
  have hwy : Below w.heap.size w wy:=hw5.trans (hby.mono (by omega))
  clear nf nu kf5 ku5 hby HB5
  have gs:=Lib.hid (seal16_any ⟨(bodyF f).toArray⟩ (by rw [bsize];omega) wy)
  go_wp2_with fail
  (with_reducible refine gs.out.mono ?_)
  rintro e wz ⟨rfl,hbz⟩
  unfold bstr
  go_wp2
  go_ret
  exact ⟨rfl,hwy.trans (hbz.mono hwy.size)⟩
end Go.Proofs.YtaiofjffoboicaaDoor
namespace Go.Proofs.YtaiofjffoboicaaDoor
open Go.RowKit
theorem bytes_any (f : Fr) (hC : frC f = 0) (hn : NN f) (w : World) (hH : HTab w) (hT : STab w) : Calls Tryd.prog 37 #[frv f] w fun e w' => e = .returned (bstr (sealS (bodyF f))) ∧ Below w.heap.size w w':=by
  obtain ⟨hk,_⟩:=frC_ok hC
  have h' : f.k = 1 ∨ f.k = 2 ∨ f.k = 3 ∨ f.k = 4 ∨ f.k = 5 ∨ f.k = 6 ∨ f.k = 7:=by omega
  rcases h' with h|h|h|h|h|h|h
  · exact bytes_k1 f h hC hn w hH hT
  · exact bytes_k2 f h hC hn w hH hT
  · exact bytes_k3 f h hC hn w hH hT
  · exact bytes_k4 f h hC hn w hH hT
  · exact bytes_k5 f h hC hn w hH hT
  · exact bytes_k6 f h hC hn w hH hT
  · exact bytes_k7 f h hC hn w hH hT
def encV (f : Fr) : Value:=.tuple #[bstr (encF f).1,.int .i64 (encF f).2]
set_option maxRecDepth 100000 in
set_option maxHeartbeats 1600000 in
theorem fencode_any (f : Fr) (hda : f.da.size ≤ maxLen) (hn : NN f) (w : World) (hH : HTab w) (hT : STab w) : Calls Tryd.prog 13 #[frv f] w fun e w' => e = .returned (encV f) ∧ Below w.heap.size w w':=by
  have gc:=Lib.hid (fun w => fcheck_any f hda hn.b.1 w)
  have HH:=Lib.hid hH;have HT:=Lib.hid hT;clear hH hT
  by_cases hC : frC f = 0
  · have gb:=Lib.hid (fun w h1 h2 => bytes_any f hC hn w h1 h2)
    obtain ⟨R,hR⟩ : ∃ R,R = sealS (bodyF f):=⟨_,rfl⟩
    rw [← hR] at gb
    have hE : encV f = .tuple #[bstr R,.int .i64 0]:=by unfold encV encF;rw [if_pos hC,hR]
    rw [hE]
    clear hE hR
    rw [hC] at gc
    clear hC hn
    go_enter Tryd.func13,Tryd.ntmps13
    go_upto_region 1 with fail
    refine wp_region_lit ?_
    refine wpList_load_blk 29 (.tmp 1) w.heap.size #[.int .i64 f.k,.int .i64 f.fr,.int .i64 f.to_,.int .u64 f.mi,.int .u64 f.yo,.int .u64 f.a,.int .u64 f.b,.int .i64 f.ino,.int .u64 f.isq,.int .i64 f.iof,.int .i64 f.bno,.int .u64 f.bsq,.int .i64 f.bof,.int .i64 f.bde,.int .i64 f.bpr,.int .i64 f.bbo,.int .i64 f.bli,.int .i64 f.bto,.string f.da] (by (apply jt;(focus repeat(first|(with_reducible first|assumption|apply jd|apply js)|((with_reducible apply jo);first|focus(dsimp only;assumption)|focus(simp;done)|focus(dsimp only;omega))|((with_reducible apply jn);first|with_reducible rfl|focus(simp;done)|focus(simp;omega))|(with_reducible apply ja)|((with_reducible apply jb);with_reducible assumption)));rfl)) _ rfl rfl rfl Tryd.underlying29 rfl (by kernel_rfl) ?_
    conv => arg 5;simp [Act.put]
    go_wp2_with fail
    (with_reducible refine (gc.out _).mono ?_)
    rintro e w1 ⟨rfl,h1⟩
    have kf : blk w1 w.heap.size = some #[.int .i64 f.k,.int .i64 f.fr,.int .i64 f.to_,.int .u64 f.mi,.int .u64 f.yo,.int .u64 f.a,.int .u64 f.b,.int .i64 f.ino,.int .u64 f.isq,.int .i64 f.iof,.int .i64 f.bno,.int .u64 f.bsq,.int .i64 f.bof,.int .i64 f.bde,.int .i64 f.bpr,.int .i64 f.bbo,.int .i64 f.bli,.int .i64 f.bto,.string f.da]:=(by (apply jt;(focus repeat(first|(with_reducible first|assumption|apply jd|apply js)|((with_reducible apply jo);first|focus(dsimp only;assumption)|focus(simp;done)|focus(dsimp only;omega))|((with_reducible apply jn);first|with_reducible rfl|focus(simp;done)|focus(simp;omega))|(with_reducible apply ja)|((with_reducible apply jb);with_reducible assumption)));rfl))
    have hw : Below w.heap.size w w1:=by (repeat(first|(with_reducible first|assumption|exact Below.refl _ _|refine je ?_|refine jl ?_)|((with_reducible refine jp ?_ ?_);first|focus(dsimp only;assumption)|focus(simp;done)|focus(dsimp only;omega))|(with_reducible refine bt ?_ (by assumption))))
    clear h1 gc
    go_upto_region 4 with fail
    refine wp_region_lit ?_
    refine wpList_load_blk 29 (.tmp 1) w.heap.size #[.int .i64 f.k,.int .i64 f.fr,.int .i64 f.to_,.int .u64 f.mi,.int .u64 f.yo,.int .u64 f.a,.int .u64 f.b,.int .i64 f.ino,.int .u64 f.isq,.int .i64 f.iof,.int .i64 f.bno,.int .u64 f.bsq,.int .i64 f.bof,.int .i64 f.bde,.int .i64 f.bpr,.int .i64 f.bbo,.int .i64 f.bli,.int .i64 f.bto,.string f.da] kf _ rfl rfl rfl Tryd.underlying29 rfl (by kernel_rfl) ?_
    conv => arg 5;simp [Act.put]
    go_wp2_with fail
    (with_reducible refine (gb.out _ (HH.out.on hw) (HT.out.on hw)).mono ?_)
    rintro e w2 ⟨rfl,h2⟩
    clear gb
    unfold bstr
    go_wp2
    go_ret2
    exact ⟨rfl,hw.trans (h2.mono hw.size)⟩
  · obtain ⟨c,hc⟩ : ∃ c,frC f = c:=⟨_,rfl⟩
    have hE : encV f = .tuple #[bstr [],.int .i64 c]:=by unfold encV encF;rw [if_neg hC,hc]
    rw [hE]
    rw [hc] at gc hC
    clear hE hc
    have hne : (c != 0) = true:=by simpa using hC
    go_enter Tryd.func13,Tryd.ntmps13
    go_upto_region 1 with fail
    refine wp_region_lit ?_
    refine wpList_load_blk 29 (.tmp 1) w.heap.size #[.int .i64 f.k,.int .i64 f.fr,.int .i64 f.to_,.int .u64 f.mi,.int .u64 f.yo,.int .u64 f.a,.int .u64 f.b,.int .i64 f.ino,.int .u64 f.isq,.int .i64 f.iof,.int .i64 f.bno,.int .u64 f.bsq,.int .i64 f.bof,.int .i64 f.bde,.int .i64 f.bpr,.int .i64 f.bbo,.int .i64 f.bli,.int .i64 f.bto,.string f.da] (by (apply jt;(focus repeat(first|(with_reducible first|assumption|apply jd|apply js)|((with_reducible apply jo);first|focus(dsimp only;assumption)|focus(simp;done)|focus(dsimp only;omega))|((with_reducible apply jn);first|with_reducible rfl|focus(simp;done)|focus(simp;omega))|(with_reducible apply ja)|((with_reducible apply jb);with_reducible assumption)));rfl)) _ rfl rfl rfl Tryd.underlying29 rfl (by kernel_rfl) ?_
    conv => arg 5;simp [Act.put]
    go_wp2_with fail
    (with_reducible refine (gc.out _).mono ?_)
    rintro e w1 ⟨rfl,h1⟩
    have hw : Below w.heap.size w w1:=by (repeat(first|(with_reducible first|assumption|exact Below.refl _ _|refine je ?_|refine jl ?_)|((with_reducible refine jp ?_ ?_);first|focus(dsimp only;assumption)|focus(simp;done)|focus(dsimp only;omega))|(with_reducible refine bt ?_ (by assumption))))
    clear h1 gc
    go_wp2
    go_ret2
    exact ⟨rfl,hw⟩
theorem encF_len (f : Fr) : (encF f).1.length ≤ 1182:=by
  unfold encF
  by_cases h : frC f = 0
  · rw [if_pos h]
    have:=(bodyF_len f h).2
    show (sealS (bodyF f)).length ≤ 1182
    simp [sealS,two]
    omega
  · rw [if_neg h];simp
end Go.Proofs.YtaiofjffoboicaaDoor
