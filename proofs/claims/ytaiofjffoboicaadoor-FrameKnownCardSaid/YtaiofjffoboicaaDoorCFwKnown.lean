/- Parts of a proof, printed by a program of mine out of my texts: FwKnown. -/
import Derived.Great.Walk
import Derived.OpenShut
import Derived.Deep.Cut
import Derived.Test.YtaiofjffoboicaaDoorCEq
import Derived.Test.YtaiofjffoboicaaDoorCFrAwake
import Derived.Test.YtaiofjffoboicaaDoorCFwKit
import Derived.Test.YtaiofjffoboicaaDoorCFwMid
import Derived.Test.YtaiofjffoboicaaDoorCFx
import Derived.Test.YtaiofjffoboicaaDoorCFxText
import Derived.Test.YtaiofjffoboicaaDoorCWk
import Derived.Test.YtaiofjffoboicaaDoorCX9
import Derived.Test.YtaiofjffoboicaaDoorCX8
set_option linter.unusedSimpArgs false
set_option linter.unusedVariables false
namespace Go.Proofs.YtaiofjffoboicaaDoor
open Go.RowKit
theorem below_setRowK {B b : Nat} {w0 w : World} (k : Below B w0 w) (hb : B ≤ b) (cs : Array Value) : Below B w0 (w.setRow b cs) :=
  ⟨k.os,k.tape,k.output,by rw [setRow_size];exact k.size,fun i hi => by rw [setRow_other w b i cs (by omega)];exact k.block i hi⟩
def frL (f : Fr) : List Value:=[.int .i64 f.k,.int .i64 f.fr,.int .i64 f.to_,.int .u64 f.mi,.int .u64 f.yo,.int .u64 f.a,.int .u64 f.b,.int .i64 f.ino,.int .u64 f.isq,.int .i64 f.iof,.int .i64 f.bno,.int .u64 f.bsq,.int .i64 f.bof,.int .i64 f.bde,.int .i64 f.bpr,.int .i64 f.bbo,.int .i64 f.bli,.int .i64 f.bto,.string f.da]
def arrK (L : List Fr) : Array Value:=(L.flatMap frL).toArray
theorem known_dec1 : decFr wrapI [1,2] = (noFr,11,2):=by kernel_rfl
theorem known_dec2 : decFr wrapI [2,1,2,3,4,130,44,79,7] = (noFr,10,7):=by kernel_rfl
theorem known_enc : encF grantF = ([2,1,2,3,4,130,44,79,6],0):=by rw [grant_enc];kernel_rfl
theorem known_txt : joinB (partsF grantF) = ⟨#[49,62,50,32,51,47,52,32,103,114,97,110,116,32,51,48,48]⟩:=by
  have e : numB 1 = ⟨#[49]⟩ ∧ numB 2 = ⟨#[50]⟩ ∧ numB 3 = ⟨#[51]⟩ ∧ numB 4 = ⟨#[52]⟩ ∧ numB 300 = ⟨#[51,48,48]⟩:=by
    refine ⟨numB_small 1 (by decide),numB_small 2 (by decide),numB_small 3 (by decide),numB_small 4 (by decide),?_⟩
    rw [numB_step 300 (by decide),numB_step 30 (by decide),numB_small 3 (by decide)]
    rfl
  obtain ⟨e1,e2,e3,e4,e5⟩:=e
  show joinB ([numB 1 ++ ⟨#[62]⟩ ++ numB 2,numB 3 ++ ⟨#[47]⟩ ++ numB 4,⟨#[103,114,97,110,116]⟩] ++ [numB 300] ++ [] ++ []) = _
  rw [e1,e2,e3,e4,e5]
  rfl
set_option maxRecDepth 100000 in
set_option maxHeartbeats 8000000 in
theorem frameKnown_at (w : World) (hH : HTab w) (hT : STab w) (hP : Tab w) (hB : STabA w) :
    Calls Tryd.prog 9 #[] w fun e w' => e = .returned (.bool true) ∧ Below w.heap.size w w':=by
  have HH:=Lib.hid hH;have HT:=Lib.hid hT;have HP:=Lib.hid hP;have HB:=Lib.hid hB;clear hH hT hP hB
  have ga:=Lib.hid awake_any
  have gg : ∀ w,Calls Tryd.prog 23 #[] w fun e w' => e = .returned (.agg #[.int .i64 2,.int .i64 1,.int .i64 2,.int .u64 3,.int .u64 4,.int .u64 300,.int .u64 0,.int .i64 0,.int .u64 0,.int .i64 0,.int .i64 0,.int .u64 0,.int .i64 0,.int .i64 0,.int .i64 0,.int .i64 0,.int .i64 0,.int .i64 0,.string ⟨#[]⟩]) ∧ Below w.heap.size w w':=grant_any
  obtain ⟨S,hS⟩ : ∃ S : ByteArray,(⟨#[2,1,2,3,4,130,44,79,6]⟩ : ByteArray) = S:=⟨_,rfl⟩
  have hSz : S.size = 9:=by rw [← hS];rfl
  have ge : ∀ w,HTab w → STab w → Calls Tryd.prog 13 #[.agg #[.int .i64 2,.int .i64 1,.int .i64 2,.int .u64 3,.int .u64 4,.int .u64 300,.int .u64 0,.int .i64 0,.int .u64 0,.int .i64 0,.int .i64 0,.int .u64 0,.int .i64 0,.int .i64 0,.int .i64 0,.int .i64 0,.int .i64 0,.int .i64 0,.string ⟨#[]⟩]] w fun e w' => e = .returned (.tuple #[.string S,.int .i64 0]) ∧ Below w.heap.size w w':=fun w h t => by
    have:=fencode_any grantF (by decide) grant_nn w h t
    unfold encV at this
    rw [known_enc] at this
    unfold bstr at this
    rw [← hS]
    exact this
  have gz : ∀ w,HTab w → STab w → Calls Tryd.prog 16 #[.agg #[.int .i64 2,.int .i64 1,.int .i64 2,.int .u64 3,.int .u64 4,.int .u64 300,.int .u64 0,.int .i64 0,.int .u64 0,.int .i64 0,.int .i64 0,.int .u64 0,.int .i64 0,.int .i64 0,.int .i64 0,.int .i64 0,.int .i64 0,.int .i64 0,.string ⟨#[]⟩]] w fun e w' => e = .returned (.tuple #[.int .i64 9,.int .i64 0]) ∧ Below w.heap.size w w':=fun w h t => by
    have:=fsize_any grantF (by decide) grant_nn w h t
    unfold sizeV at this
    rw [known_enc] at this
    exact this
  have gt : ∀ w,Tab w → STabA w → Calls Tryd.prog 20 #[.agg #[.int .i64 2,.int .i64 1,.int .i64 2,.int .u64 3,.int .u64 4,.int .u64 300,.int .u64 0,.int .i64 0,.int .u64 0,.int .i64 0,.int .i64 0,.int .u64 0,.int .i64 0,.int .i64 0,.int .i64 0,.int .i64 0,.int .i64 0,.int .i64 0,.string ⟨#[]⟩]] w fun e w' => e = .returned (.tuple #[.string ⟨#[49,62,50,32,51,47,52,32,103,114,97,110,116,32,51,48,48]⟩,.int .i64 0]) ∧ Below w.heap.size w w':=fun w h t => by
    have:=text_ok grantF grant_ok grant_nn w h t
    rw [known_txt] at this
    exact this
  have gd : ∀ w,HTab w → STab w → Calls Tryd.prog 11 #[.string ⟨#[1,2]⟩] w fun e w' => e = .returned (.tuple #[.agg #[.int .i64 0,.int .i64 0,.int .i64 0,.int .u64 0,.int .u64 0,.int .u64 0,.int .u64 0,.int .i64 0,.int .u64 0,.int .i64 0,.int .i64 0,.int .u64 0,.int .i64 0,.int .i64 0,.int .i64 0,.int .i64 0,.int .i64 0,.int .i64 0,.string ⟨#[]⟩],.agg #[.int .i64 11,.int .i64 2]]) ∧ Below w.heap.size w w':=fun w h t => by
    have:=fdec_any ⟨#[1,2]⟩ (by decide) w h t
    rw [show (⟨#[1,2]⟩ : ByteArray).data.toList = [1,2] from rfl,known_dec1] at this
    exact this
  obtain ⟨v,hv⟩ : ∃ v : UInt8,(7 : UInt8) = v:=⟨_,rfl⟩
  obtain ⟨T,hT2⟩ : ∃ T,S.extract 0 8 ++ ⟨#[v]⟩ = T:=⟨_,rfl⟩
  have hTl : T = ⟨#[2,1,2,3,4,130,44,79,7]⟩:=by rw [← hT2,← hS,← hv];rfl
  have gd2 : ∀ w,HTab w → STab w → Calls Tryd.prog 11 #[.string T] w fun e w' => e = .returned (.tuple #[.agg #[.int .i64 0,.int .i64 0,.int .i64 0,.int .u64 0,.int .u64 0,.int .u64 0,.int .u64 0,.int .i64 0,.int .u64 0,.int .i64 0,.int .i64 0,.int .u64 0,.int .i64 0,.int .i64 0,.int .i64 0,.int .i64 0,.int .i64 0,.int .i64 0,.string ⟨#[]⟩],.agg #[.int .i64 10,.int .i64 7]]) ∧ Below w.heap.size w w':=fun w h t => by
    rw [hTl]
    have:=fdec_any ⟨#[2,1,2,3,4,130,44,79,7]⟩ (by decide) w h t
    rw [show (⟨#[2,1,2,3,4,130,44,79,7]⟩ : ByteArray).data.toList = [2,1,2,3,4,130,44,79,7] from rfl,known_dec2] at this
    exact this
  have hq8 : 8 < S.size:=by omega
  have xr : bits BinOp.xor IntKind.u8 ((S[8]'hq8).toNat : Int) 1 = (v.toNat : Int):=by
    subst hS;subst hv
    kernel_rfl
  have vt : UInt8.ofNat v.toNat = v:=by simp
  have hoc:=Lib.hid (fun W b x h => byte_at (P:=Tryd.prog) Tryd.underlying41 Tryd.underlying5 Tryd.underlying9 b x W h)
  have tz : ((S.size : Int) != 9) = false:=by rw [hSz];rfl
  have gdat : ∀ w,Calls Tryd.prog 21 #[] w fun e w' => e = .returned (.agg #[.int .i64 3,.int .i64 1,.int .i64 2,.int .u64 3,.int .u64 4,.int .u64 5,.int .u64 5,.int .i64 0,.int .u64 0,.int .i64 0,.int .i64 1,.int .u64 7,.int .i64 0,.int .i64 3,.int .i64 0,.int .i64 5,.int .i64 9,.int .i64 2,.string ⟨#[97,98]⟩]) ∧ Below w.heap.size w w':=data_any
  have ga5 : ∀ w,Calls Tryd.prog 22 #[.int .u64 5] w fun e w' => e = .returned (.agg #[.int .i64 5,.int .i64 2,.int .i64 1,.int .u64 4,.int .u64 3,.int .u64 5,.int .u64 0,.int .i64 1,.int .u64 7,.int .i64 0,.int .i64 0,.int .u64 0,.int .i64 0,.int .i64 0,.int .i64 0,.int .i64 0,.int .i64 0,.int .i64 0,.string ⟨#[]⟩]) ∧ Below w.heap.size w w':=fun w => ack_any 5 w
  have ga6 : ∀ w,Calls Tryd.prog 22 #[.int .u64 6] w fun e w' => e = .returned (.agg #[.int .i64 5,.int .i64 2,.int .i64 1,.int .u64 4,.int .u64 3,.int .u64 6,.int .u64 0,.int .i64 1,.int .u64 7,.int .i64 0,.int .i64 0,.int .u64 0,.int .i64 0,.int .i64 0,.int .i64 0,.int .i64 0,.int .i64 0,.int .i64 0,.string ⟨#[]⟩]) ∧ Below w.heap.size w w':=fun w => ack_any 6 w
  have an1 : ∀ w,Calls Tryd.prog 18 #[.agg #[.int .i64 3,.int .i64 1,.int .i64 2,.int .u64 3,.int .u64 4,.int .u64 5,.int .u64 5,.int .i64 0,.int .u64 0,.int .i64 0,.int .i64 1,.int .u64 7,.int .i64 0,.int .i64 3,.int .i64 0,.int .i64 5,.int .i64 9,.int .i64 2,.string ⟨#[97,98]⟩],.agg #[.int .i64 5,.int .i64 2,.int .i64 1,.int .u64 4,.int .u64 3,.int .u64 5,.int .u64 0,.int .i64 1,.int .u64 7,.int .i64 0,.int .i64 0,.int .u64 0,.int .i64 0,.int .i64 0,.int .i64 0,.int .i64 0,.int .i64 0,.int .i64 0,.string ⟨#[]⟩]] w fun e w' => e = .returned (.tuple #[.bool true,.int .i64 0]) ∧ Below w.heap.size w w':=fun w => by
    have:=fans_any (dataA 5) (ackF 5) (by show (2 : Nat) ≤ maxLen;decide) (by decide) (by show (0 : Int) ≤ 5;decide) (by decide) w
    unfold ansW at this
    rw [ans_data 5 5 (by decide) (by decide) (by decide) (by decide)] at this
    exact this
  have an2 : ∀ w,Calls Tryd.prog 18 #[.agg #[.int .i64 3,.int .i64 1,.int .i64 2,.int .u64 3,.int .u64 4,.int .u64 5,.int .u64 5,.int .i64 0,.int .u64 0,.int .i64 0,.int .i64 1,.int .u64 7,.int .i64 0,.int .i64 3,.int .i64 0,.int .i64 5,.int .i64 9,.int .i64 2,.string ⟨#[97,98]⟩],.agg #[.int .i64 5,.int .i64 2,.int .i64 1,.int .u64 4,.int .u64 3,.int .u64 6,.int .u64 0,.int .i64 1,.int .u64 7,.int .i64 0,.int .i64 0,.int .u64 0,.int .i64 0,.int .i64 0,.int .i64 0,.int .i64 0,.int .i64 0,.int .i64 0,.string ⟨#[]⟩]] w fun e w' => e = .returned (.tuple #[.bool false,.int .i64 0]) ∧ Below w.heap.size w w':=fun w => by
    have:=fans_any (dataA 5) (ackF 6) (by show (2 : Nat) ≤ maxLen;decide) (by decide) (by show (0 : Int) ≤ 5;decide) (by decide) w
    unfold ansW at this
    rw [ans_data 5 6 (by decide) (by decide) (by decide) (by decide)] at this
    exact this
  have an3 : ∀ w,Calls Tryd.prog 18 #[.agg #[.int .i64 2,.int .i64 1,.int .i64 2,.int .u64 3,.int .u64 4,.int .u64 300,.int .u64 0,.int .i64 0,.int .u64 0,.int .i64 0,.int .i64 0,.int .u64 0,.int .i64 0,.int .i64 0,.int .i64 0,.int .i64 0,.int .i64 0,.int .i64 0,.string ⟨#[]⟩],.agg #[.int .i64 5,.int .i64 2,.int .i64 1,.int .u64 4,.int .u64 3,.int .u64 5,.int .u64 0,.int .i64 1,.int .u64 7,.int .i64 0,.int .i64 0,.int .u64 0,.int .i64 0,.int .i64 0,.int .i64 0,.int .i64 0,.int .i64 0,.int .i64 0,.string ⟨#[]⟩]] w fun e w' => e = .returned (.tuple #[.bool false,.int .i64 7]) ∧ Below w.heap.size w w':=fun w => by
    have:=fans_any grantF (ackF 5) (by decide) (by decide) (by decide) (by decide) w
    unfold ansW at this
    rw [show ansV grantF (ackF 5) = (false,7) by decide] at this
    exact this
  have ck0 : ∀ w,Calls Tryd.prog 17 #[.agg #[.int .i64 2,.int .i64 1,.int .i64 1,.int .u64 3,.int .u64 4,.int .u64 300,.int .u64 0,.int .i64 0,.int .u64 0,.int .i64 0,.int .i64 0,.int .u64 0,.int .i64 0,.int .i64 0,.int .i64 0,.int .i64 0,.int .i64 0,.int .i64 0,.string ⟨#[]⟩]] w fun e w' => e = .returned (.int .i64 2) ∧ Below w.heap.size w w':=fun w => by
    have:=fcheck_any { grantF with to_:=1 } (by decide) (by decide) w
    rw [show frC { grantF with to_:=1 } = 2 by decide] at this
    exact this
  have ck1 : ∀ w,Calls Tryd.prog 17 #[.agg #[.int .i64 2,.int .i64 1,.int .i64 2,.int .u64 0,.int .u64 4,.int .u64 300,.int .u64 0,.int .i64 0,.int .u64 0,.int .i64 0,.int .i64 0,.int .u64 0,.int .i64 0,.int .i64 0,.int .i64 0,.int .i64 0,.int .i64 0,.int .i64 0,.string ⟨#[]⟩]] w fun e w' => e = .returned (.int .i64 2) ∧ Below w.heap.size w w':=fun w => by
    have:=fcheck_any { grantF with mi:=0 } (by decide) (by decide) w
    rw [show frC { grantF with mi:=0 } = 2 by decide] at this
    exact this
  have ck2 : ∀ w,Calls Tryd.prog 17 #[.agg #[.int .i64 2,.int .i64 1,.int .i64 2,.int .u64 3,.int .u64 4,.int .u64 300,.int .u64 1,.int .i64 0,.int .u64 0,.int .i64 0,.int .i64 0,.int .u64 0,.int .i64 0,.int .i64 0,.int .i64 0,.int .i64 0,.int .i64 0,.int .i64 0,.string ⟨#[]⟩]] w fun e w' => e = .returned (.int .i64 3) ∧ Below w.heap.size w w':=fun w => by
    have:=fcheck_any { grantF with b:=1 } (by decide) (by decide) w
    rw [show frC { grantF with b:=1 } = 3 by decide] at this
    exact this
  have ck3 : ∀ w,Calls Tryd.prog 17 #[.agg #[.int .i64 8,.int .i64 1,.int .i64 2,.int .u64 3,.int .u64 4,.int .u64 300,.int .u64 0,.int .i64 0,.int .u64 0,.int .i64 0,.int .i64 0,.int .u64 0,.int .i64 0,.int .i64 0,.int .i64 0,.int .i64 0,.int .i64 0,.int .i64 0,.string ⟨#[]⟩]] w fun e w' => e = .returned (.int .i64 7) ∧ Below w.heap.size w w':=fun w => by
    have:=fcheck_any { grantF with k:=8 } (by decide) (by decide) w
    rw [show frC { grantF with k:=8 } = 7 by decide] at this
    exact this
  have ck4 : ∀ w,Calls Tryd.prog 17 #[.agg #[.int .i64 2,.int .i64 1,.int .i64 2,.int .u64 3,.int .u64 4,.int .u64 1125899906842625,.int .u64 0,.int .i64 0,.int .u64 0,.int .i64 0,.int .i64 0,.int .u64 0,.int .i64 0,.int .i64 0,.int .i64 0,.int .i64 0,.int .i64 0,.int .i64 0,.string ⟨#[]⟩]] w fun e w' => e = .returned (.int .i64 2) ∧ Below w.heap.size w w':=fun w => by
    have:=fcheck_any { grantF with a:=1125899906842625 } (by decide) (by decide) w
    rw [show frC { grantF with a:=1125899906842625 } = 2 by decide] at this
    exact this
  replace gg:=Lib.hid gg;replace ge:=Lib.hid ge;replace gz:=Lib.hid gz;replace gt:=Lib.hid gt;replace gd:=Lib.hid gd;replace gd2:=Lib.hid gd2;replace gdat:=Lib.hid gdat;replace ga5:=Lib.hid ga5;replace ga6:=Lib.hid ga6;replace an1:=Lib.hid an1;replace an2:=Lib.hid an2;replace an3:=Lib.hid an3;replace ck0:=Lib.hid ck0;replace ck1:=Lib.hid ck1;replace ck2:=Lib.hid ck2;replace ck3:=Lib.hid ck3;replace ck4:=Lib.hid ck4
  clear hS hTl hv
  go_enter Tryd.func9,Tryd.ntmps9
  go_wp2_with fail
  (with_reducible refine (gg.out _).mono ?_)
  rintro e w1 ⟨rfl,hw1⟩
  have bw1 : Below w.heap.size w w1:=(by (repeat(first|(with_reducible first|assumption|exact Below.refl _ _|refine je ?_|refine jl ?_)|((with_reducible refine jp ?_ ?_);first|focus(dsimp only;assumption)|focus(simp;done)|focus(dsimp only;omega))|(with_reducible refine bt ?_ (by assumption)))))
  have sw1:=bw1.size
  clear hw1
  go_wp2_with fail
  (with_reducible refine (gz.out _ (HH.out.on (by (repeat(first|(with_reducible first|assumption|exact Below.refl _ _|refine je ?_|refine jl ?_)|((with_reducible refine jp ?_ ?_);first|focus(dsimp only;assumption)|focus(simp;done)|focus(dsimp only;omega))|(with_reducible refine bt ?_ (by assumption)))))) (HT.out.on (by (repeat(first|(with_reducible first|assumption|exact Below.refl _ _|refine je ?_|refine jl ?_)|((with_reducible refine jp ?_ ?_);first|focus(dsimp only;assumption)|focus(simp;done)|focus(dsimp only;omega))|(with_reducible refine bt ?_ (by assumption))))))).mono ?_)
  rintro e w2 ⟨rfl,hw2⟩
  have bw2 : Below w.heap.size w w2:=(by (repeat(first|(with_reducible first|assumption|exact Below.refl _ _|refine je ?_|refine jl ?_)|((with_reducible refine jp ?_ ?_);first|focus(dsimp only;assumption)|focus(simp;done)|focus(dsimp only;omega))|(with_reducible refine bt ?_ (by assumption)))))
  have sw2:=bw2.size
  clear hw2 bw1
  go_wp2_with fail
  (with_reducible refine (gg.out _).mono ?_)
  rintro e w3 ⟨rfl,hw3⟩
  have bw3 : Below w.heap.size w w3:=(by (repeat(first|(with_reducible first|assumption|exact Below.refl _ _|refine je ?_|refine jl ?_)|((with_reducible refine jp ?_ ?_);first|focus(dsimp only;assumption)|focus(simp;done)|focus(dsimp only;omega))|(with_reducible refine bt ?_ (by assumption)))))
  have sw3:=bw3.size
  clear hw3 bw2
  go_wp2_with fail
  (with_reducible refine (gt.out _ (HP.out.on (by (repeat(first|(with_reducible first|assumption|exact Below.refl _ _|refine je ?_|refine jl ?_)|((with_reducible refine jp ?_ ?_);first|focus(dsimp only;assumption)|focus(simp;done)|focus(dsimp only;omega))|(with_reducible refine bt ?_ (by assumption)))))) (HB.out.on (by (repeat(first|(with_reducible first|assumption|exact Below.refl _ _|refine je ?_|refine jl ?_)|((with_reducible refine jp ?_ ?_);first|focus(dsimp only;assumption)|focus(simp;done)|focus(dsimp only;omega))|(with_reducible refine bt ?_ (by assumption))))))).mono ?_)
  rintro e w4 ⟨rfl,hw4⟩
  have bw4 : Below w.heap.size w w4:=(by (repeat(first|(with_reducible first|assumption|exact Below.refl _ _|refine je ?_|refine jl ?_)|((with_reducible refine jp ?_ ?_);first|focus(dsimp only;assumption)|focus(simp;done)|focus(dsimp only;omega))|(with_reducible refine bt ?_ (by assumption)))))
  have sw4:=bw4.size
  clear hw4 bw3
  go_upto_region 5 with fail
  refine wp_region_lit ?_
  refine Go.Great.wpList_allocTo rfl (some 5) rfl (.pointer (some ⟨w4.heap.size,0,none⟩)) (.cells (arrK [noFr,noFr,noFr,noFr,noFr]) 53) (by kernel_rfl) ?_
  conv => arg 5;simp [Act.put]
  obtain ⟨b,eb⟩ : ∃ b,b = w4.heap.size:=⟨_,rfl⟩
  obtain ⟨x0,ex0⟩ : ∃ x,x = w4.alloc (.cells (arrK [noFr,noFr,noFr,noFr,noFr]) 53):=⟨_,rfl⟩
  have kx0 : blk x0 b = some (arrK [noFr,noFr,noFr,noFr,noFr]):=(by rw [ex0];exact blk_alloc_new _ _ _ eb)
  have Bx0 : Below w.heap.size w x0:=(by rw [ex0];exact bw4.alloc bw4.size _)
  have lb : w.heap.size ≤ b:=(by rw [eb];exact bw4.size)
  rw [← ex0,← eb]
  clear ex0 eb bw4
  go_wp2
  refine wp_loop_rounds 6 ?_
  rw [rounds_succ]
  go_upto_region 9 with fail
  refine wp_region_lit ?_
  refine Go.Great.wpList_readTo rfl (some 47) rfl (.int .i64 0) rfl ?_
  conv => arg 5;simp [Act.put]
  refine wpList_callR rfl (some 48) rfl 23 #[] (by kernel_rfl) (fun v w' => v = .agg #[.int .i64 2,.int .i64 1,.int .i64 2,.int .u64 3,.int .u64 4,.int .u64 300,.int .u64 0,.int .i64 0,.int .u64 0,.int .i64 0,.int .i64 0,.int .u64 0,.int .i64 0,.int .i64 0,.int .i64 0,.int .i64 0,.int .i64 0,.int .i64 0,.string ⟨#[]⟩] ∧ Below x0.heap.size x0 w') ((gg.out _).mono ?_) ?_
  · rintro e w' ⟨rfl,h⟩
    exact ⟨_,rfl,rfl,h⟩
  rintro _ u0 ⟨rfl,hu0⟩
  conv => arg 5;simp [Act.put]
  have ku0:=blk_below hu0 kx0
  have Bu0:=bt Bx0 hu0
  clear hu0 kx0 Bx0
  refine Go.Great.wpList_readTo rfl (some 49) rfl (.pointer (some ⟨b,0,none⟩)) (by kernel_rfl) ?_
  conv => arg 5;simp [Act.put]
  refine wpList_store_midB 29 (.tmp 49) (.tmp 48) b 0 (arrK [noFr,noFr,noFr,noFr,noFr]) (arrK [grantF,noFr,noFr,noFr,noFr]) #[.int .i64 2,.int .i64 1,.int .i64 2,.int .u64 3,.int .u64 4,.int .u64 300,.int .u64 0,.int .i64 0,.int .u64 0,.int .i64 0,.int .i64 0,.int .u64 0,.int .i64 0,.int .i64 0,.int .i64 0,.int .i64 0,.int .i64 0,.int .i64 0,.string ⟨#[]⟩] ku0 rfl rfl rfl rfl (by decide) (by kernel_rfl) (by kernel_rfl) (by kernel_rfl) ?_
  intro x1 kx1 ox1 Bo1 zx1
  conv => arg 5;simp [Act.put]
  have Bx1 : Below w.heap.size w x1:=Bo1 _ _ lb Bu0
  clear ku0 Bu0 ox1 Bo1 zx1
  go_wp2
  rw [rounds_succ]
  go_upto_region 9 with fail
  refine wp_region_lit ?_
  refine Go.Great.wpList_readTo rfl (some 47) rfl (.int .i64 1) rfl ?_
  conv => arg 5;simp [Act.put]
  refine wpList_callR rfl (some 48) rfl 23 #[] (by kernel_rfl) (fun v w' => v = .agg #[.int .i64 2,.int .i64 1,.int .i64 2,.int .u64 3,.int .u64 4,.int .u64 300,.int .u64 0,.int .i64 0,.int .u64 0,.int .i64 0,.int .i64 0,.int .u64 0,.int .i64 0,.int .i64 0,.int .i64 0,.int .i64 0,.int .i64 0,.int .i64 0,.string ⟨#[]⟩] ∧ Below x1.heap.size x1 w') ((gg.out _).mono ?_) ?_
  · rintro e w' ⟨rfl,h⟩
    exact ⟨_,rfl,rfl,h⟩
  rintro _ u1 ⟨rfl,hu1⟩
  conv => arg 5;simp [Act.put]
  have ku1:=blk_below hu1 kx1
  have Bu1:=bt Bx1 hu1
  clear hu1 kx1 Bx1
  refine Go.Great.wpList_readTo rfl (some 49) rfl (.pointer (some ⟨b,19,none⟩)) (by kernel_rfl) ?_
  conv => arg 5;simp [Act.put]
  refine wpList_store_midB 29 (.tmp 49) (.tmp 48) b 19 (arrK [grantF,noFr,noFr,noFr,noFr]) (arrK [grantF,grantF,noFr,noFr,noFr]) #[.int .i64 2,.int .i64 1,.int .i64 2,.int .u64 3,.int .u64 4,.int .u64 300,.int .u64 0,.int .i64 0,.int .u64 0,.int .i64 0,.int .i64 0,.int .u64 0,.int .i64 0,.int .i64 0,.int .i64 0,.int .i64 0,.int .i64 0,.int .i64 0,.string ⟨#[]⟩] ku1 rfl rfl rfl rfl (by decide) (by kernel_rfl) (by kernel_rfl) (by kernel_rfl) ?_
  intro x2 kx2 ox2 Bo2 zx2
  conv => arg 5;simp [Act.put]
  have Bx2 : Below w.heap.size w x2:=Bo2 _ _ lb Bu1
  clear ku1 Bu1 ox2 Bo2 zx2
  go_wp2
  rw [rounds_succ]
  go_upto_region 9 with fail
  refine wp_region_lit ?_
  refine Go.Great.wpList_readTo rfl (some 47) rfl (.int .i64 2) rfl ?_
  conv => arg 5;simp [Act.put]
  refine wpList_callR rfl (some 48) rfl 23 #[] (by kernel_rfl) (fun v w' => v = .agg #[.int .i64 2,.int .i64 1,.int .i64 2,.int .u64 3,.int .u64 4,.int .u64 300,.int .u64 0,.int .i64 0,.int .u64 0,.int .i64 0,.int .i64 0,.int .u64 0,.int .i64 0,.int .i64 0,.int .i64 0,.int .i64 0,.int .i64 0,.int .i64 0,.string ⟨#[]⟩] ∧ Below x2.heap.size x2 w') ((gg.out _).mono ?_) ?_
  · rintro e w' ⟨rfl,h⟩
    exact ⟨_,rfl,rfl,h⟩
  rintro _ u2 ⟨rfl,hu2⟩
  conv => arg 5;simp [Act.put]
  have ku2:=blk_below hu2 kx2
  have Bu2:=bt Bx2 hu2
  clear hu2 kx2 Bx2
  refine Go.Great.wpList_readTo rfl (some 49) rfl (.pointer (some ⟨b,38,none⟩)) (by kernel_rfl) ?_
  conv => arg 5;simp [Act.put]
  refine wpList_store_midB 29 (.tmp 49) (.tmp 48) b 38 (arrK [grantF,grantF,noFr,noFr,noFr]) (arrK [grantF,grantF,grantF,noFr,noFr]) #[.int .i64 2,.int .i64 1,.int .i64 2,.int .u64 3,.int .u64 4,.int .u64 300,.int .u64 0,.int .i64 0,.int .u64 0,.int .i64 0,.int .i64 0,.int .u64 0,.int .i64 0,.int .i64 0,.int .i64 0,.int .i64 0,.int .i64 0,.int .i64 0,.string ⟨#[]⟩] ku2 rfl rfl rfl rfl (by decide) (by kernel_rfl) (by kernel_rfl) (by kernel_rfl) ?_
  intro x3 kx3 ox3 Bo3 zx3
  conv => arg 5;simp [Act.put]
  have Bx3 : Below w.heap.size w x3:=Bo3 _ _ lb Bu2
  clear ku2 Bu2 ox3 Bo3 zx3
  go_wp2
  rw [rounds_succ]
  go_upto_region 9 with fail
  refine wp_region_lit ?_
  refine Go.Great.wpList_readTo rfl (some 47) rfl (.int .i64 3) rfl ?_
  conv => arg 5;simp [Act.put]
  refine wpList_callR rfl (some 48) rfl 23 #[] (by kernel_rfl) (fun v w' => v = .agg #[.int .i64 2,.int .i64 1,.int .i64 2,.int .u64 3,.int .u64 4,.int .u64 300,.int .u64 0,.int .i64 0,.int .u64 0,.int .i64 0,.int .i64 0,.int .u64 0,.int .i64 0,.int .i64 0,.int .i64 0,.int .i64 0,.int .i64 0,.int .i64 0,.string ⟨#[]⟩] ∧ Below x3.heap.size x3 w') ((gg.out _).mono ?_) ?_
  · rintro e w' ⟨rfl,h⟩
    exact ⟨_,rfl,rfl,h⟩
  rintro _ u3 ⟨rfl,hu3⟩
  conv => arg 5;simp [Act.put]
  have ku3:=blk_below hu3 kx3
  have Bu3:=bt Bx3 hu3
  clear hu3 kx3 Bx3
  refine Go.Great.wpList_readTo rfl (some 49) rfl (.pointer (some ⟨b,57,none⟩)) (by kernel_rfl) ?_
  conv => arg 5;simp [Act.put]
  refine wpList_store_midB 29 (.tmp 49) (.tmp 48) b 57 (arrK [grantF,grantF,grantF,noFr,noFr]) (arrK [grantF,grantF,grantF,grantF,noFr]) #[.int .i64 2,.int .i64 1,.int .i64 2,.int .u64 3,.int .u64 4,.int .u64 300,.int .u64 0,.int .i64 0,.int .u64 0,.int .i64 0,.int .i64 0,.int .u64 0,.int .i64 0,.int .i64 0,.int .i64 0,.int .i64 0,.int .i64 0,.int .i64 0,.string ⟨#[]⟩] ku3 rfl rfl rfl rfl (by decide) (by kernel_rfl) (by kernel_rfl) (by kernel_rfl) ?_
  intro x4 kx4 ox4 Bo4 zx4
  conv => arg 5;simp [Act.put]
  have Bx4 : Below w.heap.size w x4:=Bo4 _ _ lb Bu3
  clear ku3 Bu3 ox4 Bo4 zx4
  go_wp2
  rw [rounds_succ]
  go_upto_region 9 with fail
  refine wp_region_lit ?_
  refine Go.Great.wpList_readTo rfl (some 47) rfl (.int .i64 4) rfl ?_
  conv => arg 5;simp [Act.put]
  refine wpList_callR rfl (some 48) rfl 23 #[] (by kernel_rfl) (fun v w' => v = .agg #[.int .i64 2,.int .i64 1,.int .i64 2,.int .u64 3,.int .u64 4,.int .u64 300,.int .u64 0,.int .i64 0,.int .u64 0,.int .i64 0,.int .i64 0,.int .u64 0,.int .i64 0,.int .i64 0,.int .i64 0,.int .i64 0,.int .i64 0,.int .i64 0,.string ⟨#[]⟩] ∧ Below x4.heap.size x4 w') ((gg.out _).mono ?_) ?_
  · rintro e w' ⟨rfl,h⟩
    exact ⟨_,rfl,rfl,h⟩
  rintro _ u4 ⟨rfl,hu4⟩
  conv => arg 5;simp [Act.put]
  have ku4:=blk_below hu4 kx4
  have Bu4:=bt Bx4 hu4
  clear hu4 kx4 Bx4
  refine Go.Great.wpList_readTo rfl (some 49) rfl (.pointer (some ⟨b,76,none⟩)) (by kernel_rfl) ?_
  conv => arg 5;simp [Act.put]
  refine wpList_store_midB 29 (.tmp 49) (.tmp 48) b 76 (arrK [grantF,grantF,grantF,grantF,noFr]) (arrK [grantF,grantF,grantF,grantF,grantF]) #[.int .i64 2,.int .i64 1,.int .i64 2,.int .u64 3,.int .u64 4,.int .u64 300,.int .u64 0,.int .i64 0,.int .u64 0,.int .i64 0,.int .i64 0,.int .u64 0,.int .i64 0,.int .i64 0,.int .i64 0,.int .i64 0,.int .i64 0,.int .i64 0,.string ⟨#[]⟩] ku4 rfl rfl rfl rfl (by decide) (by kernel_rfl) (by kernel_rfl) (by kernel_rfl) ?_
  intro x5 kx5 ox5 Bo5 zx5
  conv => arg 5;simp [Act.put]
  have Bx5 : Below w.heap.size w x5:=Bo5 _ _ lb Bu4
  clear ku4 Bu4 ox5 Bo5 zx5
  go_wp2
  rw [rounds_succ]
  have kl : blk x5 b = some #[.int .i64 2,.int .i64 1,.int .i64 2,.int .u64 3,.int .u64 4,.int .u64 300,.int .u64 0,.int .i64 0,.int .u64 0,.int .i64 0,.int .i64 0,.int .u64 0,.int .i64 0,.int .i64 0,.int .i64 0,.int .i64 0,.int .i64 0,.int .i64 0,.string ⟨#[]⟩,.int .i64 2,.int .i64 1,.int .i64 2,.int .u64 3,.int .u64 4,.int .u64 300,.int .u64 0,.int .i64 0,.int .u64 0,.int .i64 0,.int .i64 0,.int .u64 0,.int .i64 0,.int .i64 0,.int .i64 0,.int .i64 0,.int .i64 0,.int .i64 0,.string ⟨#[]⟩,.int .i64 2,.int .i64 1,.int .i64 2,.int .u64 3,.int .u64 4,.int .u64 300,.int .u64 0,.int .i64 0,.int .u64 0,.int .i64 0,.int .i64 0,.int .u64 0,.int .i64 0,.int .i64 0,.int .i64 0,.int .i64 0,.int .i64 0,.int .i64 0,.string ⟨#[]⟩,.int .i64 2,.int .i64 1,.int .i64 2,.int .u64 3,.int .u64 4,.int .u64 300,.int .u64 0,.int .i64 0,.int .u64 0,.int .i64 0,.int .i64 0,.int .u64 0,.int .i64 0,.int .i64 0,.int .i64 0,.int .i64 0,.int .i64 0,.int .i64 0,.string ⟨#[]⟩,.int .i64 2,.int .i64 1,.int .i64 2,.int .u64 3,.int .u64 4,.int .u64 300,.int .u64 0,.int .i64 0,.int .u64 0,.int .i64 0,.int .i64 0,.int .u64 0,.int .i64 0,.int .i64 0,.int .i64 0,.int .i64 0,.int .i64 0,.int .i64 0,.string ⟨#[]⟩]:=kx5
  have nl:=kn kl
  have sx5:=Bx5.size
  go_upto_region 12 with fail
  refine wp_fresh b x5.heap.size (arrK [{ grantF with to_:=1 },{ grantF with mi:=0 },{ grantF with b:=1 },{ grantF with k:=8 },{ grantF with a:=1125899906842625 }]) #[.int .i64 2,.int .i64 2,.int .i64 3,.int .i64 7,.int .i64 2] (blk_to (blk_alloc (blk_set (blk_set (blk_set (blk_set (blk_set kl))))) _) (by kernel_rfl)) (blk_alloc_new _ _ _ (by simp)) (by (repeat(first|(with_reducible first|assumption|exact Below.refl _ _|refine je ?_|refine jl ?_)|((with_reducible refine jp ?_ ?_);first|focus(dsimp only;assumption)|focus(simp;done)|focus(dsimp only;omega))|(with_reducible refine bt ?_ (by assumption)))) : Below w.heap.size w _) ?_
  intro g0 kg0 kw0 Bg0
  obtain ⟨bw,ebw⟩ : ∃ b,b = x5.heap.size:=⟨_,rfl⟩
  rw [← ebw] at kw0 ⊢
  clear nl kl kx5 Bx5 sx5 ebw
  go_wp2
  refine wp_loop_rounds 6 ?_
  rw [rounds_succ]
  go_upto_region 15 with fail
  refine wp_region_in (by kernel_rfl) (by kernel_rfl) ?_
  intro V0 hE hN
  have q1 : blk V0 b = some (arrK [{ grantF with to_:=1 },{ grantF with mi:=0 },{ grantF with b:=1 },{ grantF with k:=8 },{ grantF with a:=1125899906842625 }]):=(by rw [hE.out];exact kg0)
  have q2 : blk V0 bw = some #[.int .i64 2,.int .i64 2,.int .i64 3,.int .i64 7,.int .i64 2]:=(by rw [hE.out];exact kw0)
  have q4 : Below w.heap.size w V0:=(by rw [hE.out];exact Bg0)
  have nq:=calm_kn q2
  clear hE kg0 kw0 Bg0
  refine wpQuiet_split 2 ?_
  simp only [List.take_succ_cons,List.take_zero,List.drop_succ_cons,List.drop_zero]
  repeat (go_big_quiet_step (fail))
  refine wpQuiet_nil ?_
  refine wpQuiet_load_midG 29 (.tmp 66) b 0 (arrK [{ grantF with to_:=1 },{ grantF with mi:=0 },{ grantF with b:=1 },{ grantF with k:=8 },{ grantF with a:=1125899906842625 }]) #[.int .i64 2,.int .i64 1,.int .i64 1,.int .u64 3,.int .u64 4,.int .u64 300,.int .u64 0,.int .i64 0,.int .u64 0,.int .i64 0,.int .i64 0,.int .u64 0,.int .i64 0,.int .i64 0,.int .i64 0,.int .i64 0,.int .i64 0,.int .i64 0,.string ⟨#[]⟩] (fun W hW => by obtain ⟨x,rfl⟩:=hW;exact blk_below x.ok q1) (by kernel_rfl) _ (by kernel_rfl) rfl (by kernel_rfl) Tryd.underlying29 rfl (by kernel_rfl) ?_
  conv => arg 6;simp [Act.put]
  repeat (go_big_quiet_step ((go_at_call 17;(with_reducible refine Class.go _ (ck0.out _)))))
  refine wpQuiet_nil ?_
  rintro _ ⟨x,rfl⟩
  have kg1:=blk_below x.ok q1
  have kw1:=blk_below x.ok q2
  have Bg1:=bt q4 x.ok
  clear hN q1 q2 q4 nq ck0
  obtain ⟨g1,eg⟩ : ∃ u,u = x.wd:=⟨_,rfl⟩
  rw [← eg] at Bg1 kg1 kw1 ⊢
  clear eg x
  go_wp2
  rw [rounds_succ]
  go_upto_region 15 with fail
  refine wp_region_in (by kernel_rfl) (by kernel_rfl) ?_
  intro V1 hE hN
  have q1 : blk V1 b = some (arrK [{ grantF with to_:=1 },{ grantF with mi:=0 },{ grantF with b:=1 },{ grantF with k:=8 },{ grantF with a:=1125899906842625 }]):=(by rw [hE.out];exact kg1)
  have q2 : blk V1 bw = some #[.int .i64 2,.int .i64 2,.int .i64 3,.int .i64 7,.int .i64 2]:=(by rw [hE.out];exact kw1)
  have q4 : Below w.heap.size w V1:=(by rw [hE.out];exact Bg1)
  have nq:=calm_kn q2
  clear hE kg1 kw1 Bg1
  refine wpQuiet_split 2 ?_
  simp only [List.take_succ_cons,List.take_zero,List.drop_succ_cons,List.drop_zero]
  repeat (go_big_quiet_step (fail))
  refine wpQuiet_nil ?_
  refine wpQuiet_load_midG 29 (.tmp 66) b 19 (arrK [{ grantF with to_:=1 },{ grantF with mi:=0 },{ grantF with b:=1 },{ grantF with k:=8 },{ grantF with a:=1125899906842625 }]) #[.int .i64 2,.int .i64 1,.int .i64 2,.int .u64 0,.int .u64 4,.int .u64 300,.int .u64 0,.int .i64 0,.int .u64 0,.int .i64 0,.int .i64 0,.int .u64 0,.int .i64 0,.int .i64 0,.int .i64 0,.int .i64 0,.int .i64 0,.int .i64 0,.string ⟨#[]⟩] (fun W hW => by obtain ⟨x,rfl⟩:=hW;exact blk_below x.ok q1) (by kernel_rfl) _ (by kernel_rfl) rfl (by kernel_rfl) Tryd.underlying29 rfl (by kernel_rfl) ?_
  conv => arg 6;simp [Act.put]
  repeat (go_big_quiet_step ((go_at_call 17;(with_reducible refine Class.go _ (ck1.out _)))))
  refine wpQuiet_nil ?_
  rintro _ ⟨x,rfl⟩
  have kg2:=blk_below x.ok q1
  have kw2:=blk_below x.ok q2
  have Bg2:=bt q4 x.ok
  clear hN q1 q2 q4 nq ck1
  obtain ⟨g2,eg⟩ : ∃ u,u = x.wd:=⟨_,rfl⟩
  rw [← eg] at Bg2 kg2 kw2 ⊢
  clear eg x
  go_wp2
  rw [rounds_succ]
  go_upto_region 15 with fail
  refine wp_region_in (by kernel_rfl) (by kernel_rfl) ?_
  intro V2 hE hN
  have q1 : blk V2 b = some (arrK [{ grantF with to_:=1 },{ grantF with mi:=0 },{ grantF with b:=1 },{ grantF with k:=8 },{ grantF with a:=1125899906842625 }]):=(by rw [hE.out];exact kg2)
  have q2 : blk V2 bw = some #[.int .i64 2,.int .i64 2,.int .i64 3,.int .i64 7,.int .i64 2]:=(by rw [hE.out];exact kw2)
  have q4 : Below w.heap.size w V2:=(by rw [hE.out];exact Bg2)
  have nq:=calm_kn q2
  clear hE kg2 kw2 Bg2
  refine wpQuiet_split 2 ?_
  simp only [List.take_succ_cons,List.take_zero,List.drop_succ_cons,List.drop_zero]
  repeat (go_big_quiet_step (fail))
  refine wpQuiet_nil ?_
  refine wpQuiet_load_midG 29 (.tmp 66) b 38 (arrK [{ grantF with to_:=1 },{ grantF with mi:=0 },{ grantF with b:=1 },{ grantF with k:=8 },{ grantF with a:=1125899906842625 }]) #[.int .i64 2,.int .i64 1,.int .i64 2,.int .u64 3,.int .u64 4,.int .u64 300,.int .u64 1,.int .i64 0,.int .u64 0,.int .i64 0,.int .i64 0,.int .u64 0,.int .i64 0,.int .i64 0,.int .i64 0,.int .i64 0,.int .i64 0,.int .i64 0,.string ⟨#[]⟩] (fun W hW => by obtain ⟨x,rfl⟩:=hW;exact blk_below x.ok q1) (by kernel_rfl) _ (by kernel_rfl) rfl (by kernel_rfl) Tryd.underlying29 rfl (by kernel_rfl) ?_
  conv => arg 6;simp [Act.put]
  repeat (go_big_quiet_step ((go_at_call 17;(with_reducible refine Class.go _ (ck2.out _)))))
  refine wpQuiet_nil ?_
  rintro _ ⟨x,rfl⟩
  have kg3:=blk_below x.ok q1
  have kw3:=blk_below x.ok q2
  have Bg3:=bt q4 x.ok
  clear hN q1 q2 q4 nq ck2
  obtain ⟨g3,eg⟩ : ∃ u,u = x.wd:=⟨_,rfl⟩
  rw [← eg] at Bg3 kg3 kw3 ⊢
  clear eg x
  go_wp2
  rw [rounds_succ]
  go_upto_region 15 with fail
  refine wp_region_in (by kernel_rfl) (by kernel_rfl) ?_
  intro V3 hE hN
  have q1 : blk V3 b = some (arrK [{ grantF with to_:=1 },{ grantF with mi:=0 },{ grantF with b:=1 },{ grantF with k:=8 },{ grantF with a:=1125899906842625 }]):=(by rw [hE.out];exact kg3)
  have q2 : blk V3 bw = some #[.int .i64 2,.int .i64 2,.int .i64 3,.int .i64 7,.int .i64 2]:=(by rw [hE.out];exact kw3)
  have q4 : Below w.heap.size w V3:=(by rw [hE.out];exact Bg3)
  have nq:=calm_kn q2
  clear hE kg3 kw3 Bg3
  refine wpQuiet_split 2 ?_
  simp only [List.take_succ_cons,List.take_zero,List.drop_succ_cons,List.drop_zero]
  repeat (go_big_quiet_step (fail))
  refine wpQuiet_nil ?_
  refine wpQuiet_load_midG 29 (.tmp 66) b 57 (arrK [{ grantF with to_:=1 },{ grantF with mi:=0 },{ grantF with b:=1 },{ grantF with k:=8 },{ grantF with a:=1125899906842625 }]) #[.int .i64 8,.int .i64 1,.int .i64 2,.int .u64 3,.int .u64 4,.int .u64 300,.int .u64 0,.int .i64 0,.int .u64 0,.int .i64 0,.int .i64 0,.int .u64 0,.int .i64 0,.int .i64 0,.int .i64 0,.int .i64 0,.int .i64 0,.int .i64 0,.string ⟨#[]⟩] (fun W hW => by obtain ⟨x,rfl⟩:=hW;exact blk_below x.ok q1) (by kernel_rfl) _ (by kernel_rfl) rfl (by kernel_rfl) Tryd.underlying29 rfl (by kernel_rfl) ?_
  conv => arg 6;simp [Act.put]
  repeat (go_big_quiet_step ((go_at_call 17;(with_reducible refine Class.go _ (ck3.out _)))))
  refine wpQuiet_nil ?_
  rintro _ ⟨x,rfl⟩
  have kg4:=blk_below x.ok q1
  have kw4:=blk_below x.ok q2
  have Bg4:=bt q4 x.ok
  clear hN q1 q2 q4 nq ck3
  obtain ⟨g4,eg⟩ : ∃ u,u = x.wd:=⟨_,rfl⟩
  rw [← eg] at Bg4 kg4 kw4 ⊢
  clear eg x
  go_wp2
  rw [rounds_succ]
  go_upto_region 15 with fail
  refine wp_region_in (by kernel_rfl) (by kernel_rfl) ?_
  intro V4 hE hN
  have q1 : blk V4 b = some (arrK [{ grantF with to_:=1 },{ grantF with mi:=0 },{ grantF with b:=1 },{ grantF with k:=8 },{ grantF with a:=1125899906842625 }]):=(by rw [hE.out];exact kg4)
  have q2 : blk V4 bw = some #[.int .i64 2,.int .i64 2,.int .i64 3,.int .i64 7,.int .i64 2]:=(by rw [hE.out];exact kw4)
  have q4 : Below w.heap.size w V4:=(by rw [hE.out];exact Bg4)
  have nq:=calm_kn q2
  clear hE kg4 kw4 Bg4
  refine wpQuiet_split 2 ?_
  simp only [List.take_succ_cons,List.take_zero,List.drop_succ_cons,List.drop_zero]
  repeat (go_big_quiet_step (fail))
  refine wpQuiet_nil ?_
  refine wpQuiet_load_midG 29 (.tmp 66) b 76 (arrK [{ grantF with to_:=1 },{ grantF with mi:=0 },{ grantF with b:=1 },{ grantF with k:=8 },{ grantF with a:=1125899906842625 }]) #[.int .i64 2,.int .i64 1,.int .i64 2,.int .u64 3,.int .u64 4,.int .u64 1125899906842625,.int .u64 0,.int .i64 0,.int .u64 0,.int .i64 0,.int .i64 0,.int .u64 0,.int .i64 0,.int .i64 0,.int .i64 0,.int .i64 0,.int .i64 0,.int .i64 0,.string ⟨#[]⟩] (fun W hW => by obtain ⟨x,rfl⟩:=hW;exact blk_below x.ok q1) (by kernel_rfl) _ (by kernel_rfl) rfl (by kernel_rfl) Tryd.underlying29 rfl (by kernel_rfl) ?_
  conv => arg 6;simp [Act.put]
  repeat (go_big_quiet_step ((go_at_call 17;(with_reducible refine Class.go _ (ck4.out _)))))
  refine wpQuiet_nil ?_
  rintro _ ⟨x,rfl⟩
  have kg5:=blk_below x.ok q1
  have kw5:=blk_below x.ok q2
  have Bg5:=bt q4 x.ok
  clear hN q1 q2 q4 nq ck4
  obtain ⟨g5,eg⟩ : ∃ u,u = x.wd:=⟨_,rfl⟩
  rw [← eg] at Bg5 kg5 kw5 ⊢
  clear eg x
  go_wp2
  rw [rounds_succ]
  clear kg5 kw5
  go_upto_region 17 with fail
  refine wp_region_tail0 4 ?_
  intro W1 hE1 hN1
  have bW1 : Below w.heap.size w W1:=(by rw [hE1.out];exact Bg5)
  clear hE1
  simp only [List.take_succ_cons,List.take_zero,List.drop_succ_cons,List.drop_zero]
  repeat (go_big_quiet_step ((go_at_call 11;(with_reducible refine Class.go _ (gd.out _ ?_ ?_));exact HH.out.on (bt bW1 (Class.ok _));exact HT.out.on (bt bW1 (Class.ok _)))))
  refine wpQuiet_nil ?_
  rintro _ ⟨x,rfl⟩
  have bb1:=bt bW1 x.ok
  clear hN1 bW1
  obtain ⟨u1,hu1⟩ : ∃ u,u = x.wd:=⟨_,rfl⟩
  rw [← hu1] at bb1 ⊢
  clear hu1 x
  refine Go.Great.wpList_allocTo rfl (some 9) rfl (.pointer (some ⟨u1.heap.size,0,none⟩)) (.cells #[.int .i64 0,.int .i64 0,.int .i64 0,.int .u64 0,.int .u64 0,.int .u64 0,.int .u64 0,.int .i64 0,.int .u64 0,.int .i64 0,.int .i64 0,.int .u64 0,.int .i64 0,.int .i64 0,.int .i64 0,.int .i64 0,.int .i64 0,.int .i64 0,.string ⟨#[]⟩] 29) (by kernel_rfl) ?_
  conv => arg 5;simp [Act.put]
  obtain ⟨y1,hy1⟩ : ∃ y,y = u1.alloc (.cells #[.int .i64 0,.int .i64 0,.int .i64 0,.int .u64 0,.int .u64 0,.int .u64 0,.int .u64 0,.int .i64 0,.int .u64 0,.int .i64 0,.int .i64 0,.int .u64 0,.int .i64 0,.int .i64 0,.int .i64 0,.int .i64 0,.int .i64 0,.int .i64 0,.string ⟨#[]⟩] 29):=⟨_,rfl⟩
  have ky1 : blk y1 u1.heap.size = some #[.int .i64 0,.int .i64 0,.int .i64 0,.int .u64 0,.int .u64 0,.int .u64 0,.int .u64 0,.int .i64 0,.int .u64 0,.int .i64 0,.int .i64 0,.int .u64 0,.int .i64 0,.int .i64 0,.int .i64 0,.int .i64 0,.int .i64 0,.int .i64 0,.string ⟨#[]⟩]:=(by rw [hy1];exact blk_alloc_new _ _ _ rfl)
  have by1 : Below w.heap.size w y1:=(by rw [hy1];exact bb1.alloc bb1.size _)
  have hz1:=bb1.size
  rw [← hy1]
  clear hy1 bb1
  have hl1:=blk_lt ky1
  refine Go.Great.wpList_allocTo rfl (some 10) rfl (.pointer (some ⟨y1.heap.size,0,none⟩)) (.cells #[.int .i64 0,.int .i64 0] 32) (by kernel_rfl) ?_
  conv => arg 5;simp [Act.put]
  refine wpList_store_blk 29 (.tmp 9) (.tmp 76) u1.heap.size #[.int .i64 0,.int .i64 0,.int .i64 0,.int .u64 0,.int .u64 0,.int .u64 0,.int .u64 0,.int .i64 0,.int .u64 0,.int .i64 0,.int .i64 0,.int .u64 0,.int .i64 0,.int .i64 0,.int .i64 0,.int .i64 0,.int .i64 0,.int .i64 0,.string ⟨#[]⟩] #[.int .i64 0,.int .i64 0,.int .i64 0,.int .u64 0,.int .u64 0,.int .u64 0,.int .u64 0,.int .i64 0,.int .u64 0,.int .i64 0,.int .i64 0,.int .u64 0,.int .i64 0,.int .i64 0,.int .i64 0,.int .i64 0,.int .i64 0,.int .i64 0,.string ⟨#[]⟩] (blk_alloc ky1 _) rfl rfl rfl rfl (by kernel_rfl) rfl (by kernel_rfl) ?_
  intro s1 ks1 o1 B1 z1
  conv => arg 5;simp [Act.put]
  have es1:=o1 y1.heap.size #[.int .i64 0,.int .i64 0] (by omega) (blk_alloc_new _ _ _ rfl)
  have bs1 : Below w.heap.size w s1:=B1 _ _ hz1 (by1.alloc by1.size _)
  clear o1 B1 z1 by1 ky1
  refine wpList_store_blk 32 (.tmp 10) (.tmp 77) y1.heap.size #[.int .i64 0,.int .i64 0] #[.int .i64 11,.int .i64 2] es1 rfl rfl rfl rfl (by kernel_rfl) rfl (by kernel_rfl) ?_
  intro v1 ev1 o1 B1 z1
  conv => arg 5;simp [Act.put]
  have kv1:=o1 u1.heap.size #[.int .i64 0,.int .i64 0,.int .i64 0,.int .u64 0,.int .u64 0,.int .u64 0,.int .u64 0,.int .i64 0,.int .u64 0,.int .i64 0,.int .i64 0,.int .u64 0,.int .i64 0,.int .i64 0,.int .i64 0,.int .i64 0,.int .i64 0,.int .i64 0,.string ⟨#[]⟩] (by omega) ks1
  have bv1 : Below w.heap.size w v1:=B1 _ _ (by omega) bs1
  clear o1 B1 z1 ks1 es1 bs1
  have ev0 : blk v1 y1.heap.size = some #[.int .i64 11,.int .i64 2]:=ev1
  have bev:=bv1
  clear kv1 gd
  go_wp2_with fail
  (with_reducible refine (gg.out _).mono ?_)
  rintro e w18 ⟨rfl,hw18⟩
  have kk1 : blk w18 (y1.heap.size) = some #[.int .i64 11,.int .i64 2]:=(by (apply jt;(focus repeat(first|(with_reducible first|assumption|apply jd|apply js)|((with_reducible apply jo);first|focus(dsimp only;assumption)|focus(simp;done)|focus(dsimp only;omega))|((with_reducible apply jn);first|with_reducible rfl|focus(simp;done)|focus(simp;omega))|(with_reducible apply ja)|((with_reducible apply jb);with_reducible assumption)));rfl))
  have kn1:=kn kk1
  have bw18 : Below w.heap.size w w18:=(by (repeat(first|(with_reducible first|assumption|exact Below.refl _ _|refine je ?_|refine jl ?_)|((with_reducible refine jp ?_ ?_);first|focus(dsimp only;assumption)|focus(simp;done)|focus(dsimp only;omega))|(with_reducible refine bt ?_ (by assumption)))))
  have sw18:=bw18.size
  clear hw18
  go_wp2_with fail
  (with_reducible refine (ge.out _ (HH.out.on (by (repeat(first|(with_reducible first|assumption|exact Below.refl _ _|refine je ?_|refine jl ?_)|((with_reducible refine jp ?_ ?_);first|focus(dsimp only;assumption)|focus(simp;done)|focus(dsimp only;omega))|(with_reducible refine bt ?_ (by assumption)))))) (HT.out.on (by (repeat(first|(with_reducible first|assumption|exact Below.refl _ _|refine je ?_|refine jl ?_)|((with_reducible refine jp ?_ ?_);first|focus(dsimp only;assumption)|focus(simp;done)|focus(dsimp only;omega))|(with_reducible refine bt ?_ (by assumption))))))).mono ?_)
  rintro e w19 ⟨rfl,hw19⟩
  have kk2 : blk w19 (y1.heap.size) = some #[.int .i64 11,.int .i64 2]:=(by (apply jt;(focus repeat(first|(with_reducible first|assumption|apply jd|apply js)|((with_reducible apply jo);first|focus(dsimp only;assumption)|focus(simp;done)|focus(dsimp only;omega))|((with_reducible apply jn);first|with_reducible rfl|focus(simp;done)|focus(simp;omega))|(with_reducible apply ja)|((with_reducible apply jb);with_reducible assumption)));rfl))
  clear kk1 kn1
  have kn2:=kn kk2
  have bw19 : Below w.heap.size w w19:=(by (repeat(first|(with_reducible first|assumption|exact Below.refl _ _|refine je ?_|refine jl ?_)|((with_reducible refine jp ?_ ?_);first|focus(dsimp only;assumption)|focus(simp;done)|focus(dsimp only;omega))|(with_reducible refine bt ?_ (by assumption)))))
  have sw19:=bw19.size
  clear hw19 bw18
  have kd : blk w19 (y1.heap.size) = some #[.int .i64 11,.int .i64 2]:=(by (apply jt;(focus repeat(first|(with_reducible first|assumption|apply jd|apply js)|((with_reducible apply jo);first|focus(dsimp only;assumption)|focus(simp;done)|focus(dsimp only;omega))|((with_reducible apply jn);first|with_reducible rfl|focus(simp;done)|focus(simp;omega))|(with_reducible apply ja)|((with_reducible apply jb);with_reducible assumption)));rfl))
  go_upto_region 21 with fail
  go_cut [12,13] from 90 (fun s12 s13 wq => ∃ b8 b9,s12 = .pointer (some ⟨b8,0,none⟩) ∧ s13 = .pointer (some ⟨b9,0,none⟩) ∧ blk wq b9 = some #[.int .i64 10,.int .i64 7] ∧ blk wq y1.heap.size = some #[.int .i64 11,.int .i64 2] ∧ Below w.heap.size w wq)
  case first =>
    refine wp_region_held_drew (S:=fun _ => True) (by kernel_rfl) trivial (fun _ => ?_)
    obtain ⟨v0,ew0⟩ : ∃ x,x = w19.drew:=⟨_,rfl⟩
    have Bv0 : Below w.heap.size w v0:=(by rw [ew0];exact bw19.drew)
    have kd_0 : blk v0 y1.heap.size = some #[.int .i64 11,.int .i64 2]:=(by rw [ew0];exact kd)
    rw [← ew0]
    clear ew0
    have hTr : True:=trivial
    refine wpAnyH_take (i:=0) (oi:=_) (v:=?_) rfl (by kernel_rfl) (by kernel_rfl) (by kernel_rfl) (fun _ _ _ h => h) (Or.inl ⟨by rfl,?_⟩) (by assumption) ?_
    rotate_left
    · (intro W hSw;(try dsimp only at hSw);go_simp;(try with_reducible rfl))
    (try simp only [Act.put,List.setIfInBounds_toArray,List.set_cons_zero,List.set_cons_succ,List.getElem_toArray,List.getElem_cons_succ,List.getElem_cons_zero])
    refine wpAnyH_take (i:=1) (oi:=_) (v:=?_) rfl (by kernel_rfl) (by kernel_rfl) (by kernel_rfl) (fun _ _ _ h => h) (Or.inl ⟨by rfl,?_⟩) (by assumption) ?_
    rotate_left
    · (intro W hSw;(try dsimp only at hSw);go_simp;(try with_reducible rfl))
    (try simp only [Act.put,List.setIfInBounds_toArray,List.set_cons_zero,List.set_cons_succ,List.getElem_toArray,List.getElem_cons_succ,List.getElem_cons_zero])
    refine wpAnyH_take (i:=2) (oi:=_) (v:=?_) rfl (by kernel_rfl) (by kernel_rfl) (by kernel_rfl) (fun _ _ _ h => h) (Or.inl ⟨by rfl,?_⟩) (by assumption) ?_
    rotate_left
    · (intro W hSw;(try dsimp only at hSw);go_simp;(try with_reducible rfl))
    (try simp only [Act.put,List.setIfInBounds_toArray,List.set_cons_zero,List.set_cons_succ,List.getElem_toArray,List.getElem_cons_succ,List.getElem_cons_zero])
    refine wpAnyH_take (i:=3) (oi:=_) (v:=?_) rfl (by kernel_rfl) (by kernel_rfl) (by kernel_rfl) (fun _ _ _ h => h) (Or.inl ⟨by rfl,?_⟩) (by assumption) ?_
    rotate_left
    · (intro W hSw;(try dsimp only at hSw);go_simp;(try with_reducible rfl))
    (try simp only [Act.put,List.setIfInBounds_toArray,List.set_cons_zero,List.set_cons_succ,List.getElem_toArray,List.getElem_cons_succ,List.getElem_cons_zero])
    refine wpAnyH_take (i:=4) (oi:=_) (v:=?_) rfl (by kernel_rfl) (by kernel_rfl) (by kernel_rfl) (fun _ _ _ h => h) (Or.inl ⟨by rfl,?_⟩) (by assumption) ?_
    rotate_left
    · (intro W hSw;(try dsimp only at hSw);go_simp;(try with_reducible rfl))
    (try simp only [Act.put,List.setIfInBounds_toArray,List.set_cons_zero,List.set_cons_succ,List.getElem_toArray,List.getElem_cons_succ,List.getElem_cons_zero])
    refine wpAnyH_ready (rs:=[5,12,13]) (by kernel_rfl) (by simp) ?_
    refine AllReadyH.cons rfl (fun K hK => ?_) ?_
    · skip
      go_simp
      refine hK.out _ _ trivial (fun _ => ?_)
      clear hK K
      (try simp only [Act.put,List.setIfInBounds_toArray,List.set_cons_zero,List.set_cons_succ,List.getElem_toArray,List.getElem_cons_succ,List.getElem_cons_zero])
      obtain ⟨z1,ez1⟩ : ∃ x,x = v0.alloc (.cells #[.int .u8 (v.toNat : Int)] 5):=⟨_,rfl⟩
      obtain ⟨n1,en1⟩ : ∃ b,b = v0.heap.size:=⟨_,rfl⟩
      have dkd_0_1 : y1.heap.size ≠ n1:=(by rw [en1];have:=blk_lt kd_0;omega)
      have ks_1 : blk z1 n1 = some #[.int .u8 (v.toNat : Int)]:=(by rw [ez1];exact blk_alloc_new _ _ _ en1)
      have kd_1 : blk z1 y1.heap.size = some #[.int .i64 11,.int .i64 2]:=(by rw [ez1];exact blk_alloc kd_0 _)
      have Bz1 : Below w.heap.size w z1:=(by rw [ez1];exact Bv0.alloc Bv0.size _)
      have ln1 : w.heap.size ≤ n1:=(by rw [en1];exact Bv0.size)
      rw [← ez1,← en1]
      clear ez1 en1
      have cs1:=blk_cell ks_1 0
      refine wpAnyH_weaken (S2:=fun W => W.cell? ⟨n1,0,none⟩ = some (.int .u8 (v.toNat : Int))) (fun _ _ => trivial) _ _ _ _ ?_
      have hs1 : z1.cell? ⟨n1,0,none⟩ = some (.int .u8 (v.toNat : Int)):=cs1
      refine wpAnyH_take (i:=6) (oi:=_) (v:=?_) rfl (by kernel_rfl) (by kernel_rfl) (by kernel_rfl) (fun _ _ _ h => h) (Or.inl ⟨by rfl,?_⟩) (by assumption) ?_
      rotate_left
      · (intro W hSw;(try dsimp only at hSw);have hcv:=hoc.out W _ _ hSw;go_simp;(try with_reducible rfl))
      (try simp only [Act.put,List.setIfInBounds_toArray,List.set_cons_zero,List.set_cons_succ,List.getElem_toArray,List.getElem_cons_succ,List.getElem_cons_zero])
      refine wpAnyH_take (i:=7) (oi:=_) (v:=?_) rfl (by kernel_rfl) (by kernel_rfl) (by kernel_rfl) (fun _ _ _ h => h) (Or.inl ⟨by rfl,?_⟩) (by assumption) ?_
      rotate_left
      · (intro W hSw;(try dsimp only at hSw);go_simp;(try with_reducible rfl))
      (try simp only [Act.put,List.setIfInBounds_toArray,List.set_cons_zero,List.set_cons_succ,List.getElem_toArray,List.getElem_cons_succ,List.getElem_cons_zero])
      refine wpAnyH_ready (rs:=[8,12,13]) (by kernel_rfl) (by simp) ?_
      refine AllReadyH.cons rfl (fun K hK => ?_) ?_
      · skip
        go_simp
        go_at_call 11
        (with_reducible refine (gd2.out _ (HH.out.on Bz1) (HT.out.on Bz1)).mono ?_)
        rintro e z2 ⟨rfl,hz2⟩
        (try go_wp2_with fail)
        have kd_2 : blk z2 y1.heap.size = some #[.int .i64 11,.int .i64 2]:=blk_below hz2 kd_1
        have ks_2 : blk z2 n1 = some #[.int .u8 (v.toNat : Int)]:=blk_below hz2 ks_1
        have Bz2 : Below w.heap.size w z2:=bt Bz1 hz2
        clear hz2
        refine hK.out _ _ (blk_cell ks_2 0) (fun hHeld => ?_)
        clear hK K
        (try simp only [Act.put,List.setIfInBounds_toArray,List.set_cons_zero,List.set_cons_succ,List.getElem_toArray,List.getElem_cons_succ,List.getElem_cons_zero])
        refine wpAnyH_take (i:=9) (oi:=_) (v:=?_) rfl (by kernel_rfl) (by kernel_rfl) (by kernel_rfl) (fun _ _ _ h => h) (Or.inl ⟨by rfl,?_⟩) (by assumption) ?_
        rotate_left
        · (intro W hSw;(try dsimp only at hSw);go_simp;(try with_reducible rfl))
        (try simp only [Act.put,List.setIfInBounds_toArray,List.set_cons_zero,List.set_cons_succ,List.getElem_toArray,List.getElem_cons_succ,List.getElem_cons_zero])
        refine wpAnyH_take (i:=10) (oi:=_) (v:=?_) rfl (by kernel_rfl) (by kernel_rfl) (by kernel_rfl) (fun _ _ _ h => h) (Or.inl ⟨by rfl,?_⟩) (by assumption) ?_
        rotate_left
        · (intro W hSw;(try dsimp only at hSw);go_simp;(try with_reducible rfl))
        (try simp only [Act.put,List.setIfInBounds_toArray,List.set_cons_zero,List.set_cons_succ,List.getElem_toArray,List.getElem_cons_succ,List.getElem_cons_zero])
        refine wpAnyH_take (i:=11) (oi:=_) (v:=?_) rfl (by kernel_rfl) (by kernel_rfl) (by kernel_rfl) (fun _ _ _ h => h) (Or.inl ⟨by rfl,?_⟩) (by assumption) ?_
        rotate_left
        · (intro W hSw;(try dsimp only at hSw);go_simp;(try with_reducible rfl))
        (try simp only [Act.put,List.setIfInBounds_toArray,List.set_cons_zero,List.set_cons_succ,List.getElem_toArray,List.getElem_cons_succ,List.getElem_cons_zero])
        refine wpAnyH_ready (rs:=[12,13]) (by kernel_rfl) (by simp) ?_
        refine AllReadyH.cons rfl (fun K hK => ?_) ?_
        · skip
          go_simp
          refine hK.out _ _ (blk_cell (blk_alloc ks_2 _) 0) (fun _ => ?_)
          clear hK K
          (try simp only [Act.put,List.setIfInBounds_toArray,List.set_cons_zero,List.set_cons_succ,List.getElem_toArray,List.getElem_cons_succ,List.getElem_cons_zero])
          obtain ⟨z3,ez3⟩ : ∃ x,x = z2.alloc (.cells #[.int .i64 0,.int .i64 0,.int .i64 0,.int .u64 0,.int .u64 0,.int .u64 0,.int .u64 0,.int .i64 0,.int .u64 0,.int .i64 0,.int .i64 0,.int .u64 0,.int .i64 0,.int .i64 0,.int .i64 0,.int .i64 0,.int .i64 0,.int .i64 0,.string ⟨#[]⟩] 29):=⟨_,rfl⟩
          obtain ⟨n3,en3⟩ : ∃ b,b = z2.heap.size:=⟨_,rfl⟩
          have dkd_2_3 : y1.heap.size ≠ n3:=(by rw [en3];have:=blk_lt kd_2;omega)
          have dks_2_3 : n1 ≠ n3:=(by rw [en3];have:=blk_lt ks_2;omega)
          have kf_3 : blk z3 n3 = some #[.int .i64 0,.int .i64 0,.int .i64 0,.int .u64 0,.int .u64 0,.int .u64 0,.int .u64 0,.int .i64 0,.int .u64 0,.int .i64 0,.int .i64 0,.int .u64 0,.int .i64 0,.int .i64 0,.int .i64 0,.int .i64 0,.int .i64 0,.int .i64 0,.string ⟨#[]⟩]:=(by rw [ez3];exact blk_alloc_new _ _ _ en3)
          have kd_3 : blk z3 y1.heap.size = some #[.int .i64 11,.int .i64 2]:=(by rw [ez3];exact blk_alloc kd_2 _)
          have ks_3 : blk z3 n1 = some #[.int .u8 (v.toNat : Int)]:=(by rw [ez3];exact blk_alloc ks_2 _)
          have Bz3 : Below w.heap.size w z3:=(by rw [ez3];exact Bz2.alloc Bz2.size _)
          have ln3 : w.heap.size ≤ n3:=(by rw [en3];exact Bz2.size)
          rw [← ez3,← en3]
          clear ez3 en3
          refine wpAnyH_ready (rs:=[13]) (by kernel_rfl) (by simp) ?_
          refine AllReadyH.cons rfl (fun K hK => ?_) AllReadyH.nil
          go_simp
          refine hK.out _ _ (blk_cell (blk_alloc ks_3 _) 0) (fun _ => ?_)
          clear hK K
          (try simp only [Act.put,List.setIfInBounds_toArray,List.set_cons_zero,List.set_cons_succ,List.getElem_toArray,List.getElem_cons_succ,List.getElem_cons_zero])
          obtain ⟨z4,ez4⟩ : ∃ x,x = z3.alloc (.cells #[.int .i64 0,.int .i64 0] 32):=⟨_,rfl⟩
          obtain ⟨n4,en4⟩ : ∃ b,b = z3.heap.size:=⟨_,rfl⟩
          have dkd_3_4 : y1.heap.size ≠ n4:=(by rw [en4];have:=blk_lt kd_3;omega)
          have dks_3_4 : n1 ≠ n4:=(by rw [en4];have:=blk_lt ks_3;omega)
          have dkf_3_4 : n3 ≠ n4:=(by rw [en4];have:=blk_lt kf_3;omega)
          have kt_4 : blk z4 n4 = some #[.int .i64 0,.int .i64 0]:=(by rw [ez4];exact blk_alloc_new _ _ _ en4)
          have kd_4 : blk z4 y1.heap.size = some #[.int .i64 11,.int .i64 2]:=(by rw [ez4];exact blk_alloc kd_3 _)
          have ks_4 : blk z4 n1 = some #[.int .u8 (v.toNat : Int)]:=(by rw [ez4];exact blk_alloc ks_3 _)
          have kf_4 : blk z4 n3 = some #[.int .i64 0,.int .i64 0,.int .i64 0,.int .u64 0,.int .u64 0,.int .u64 0,.int .u64 0,.int .i64 0,.int .u64 0,.int .i64 0,.int .i64 0,.int .u64 0,.int .i64 0,.int .i64 0,.int .i64 0,.int .i64 0,.int .i64 0,.int .i64 0,.string ⟨#[]⟩]:=(by rw [ez4];exact blk_alloc kf_3 _)
          have Bz4 : Below w.heap.size w z4:=(by rw [ez4];exact Bz3.alloc Bz3.size _)
          have ln4 : w.heap.size ≤ n4:=(by rw [en4];exact Bz3.size)
          rw [← ez4,← en4]
          clear ez4 en4
          refine wpAnyH_ready (rs:=[14]) (by kernel_rfl) (by simp) ?_
          refine AllReadyH.cons rfl (fun K hK => ?_) AllReadyH.nil
          rw [if_pos (by rfl)]
          obtain ⟨t8,hg8⟩:=blk_row kf_4
          refine wp_store_row 29 (.tmp 12) (.tmp 100) rfl n3 #[.int .i64 0,.int .i64 0,.int .i64 0,.int .u64 0,.int .u64 0,.int .u64 0,.int .u64 0,.int .i64 0,.int .u64 0,.int .i64 0,.int .i64 0,.int .u64 0,.int .i64 0,.int .i64 0,.int .i64 0,.int .i64 0,.int .i64 0,.int .i64 0,.string ⟨#[]⟩] rfl rfl t8 #[.int .i64 0,.int .i64 0,.int .i64 0,.int .u64 0,.int .u64 0,.int .u64 0,.int .u64 0,.int .i64 0,.int .u64 0,.int .i64 0,.int .i64 0,.int .u64 0,.int .i64 0,.int .i64 0,.int .i64 0,.int .i64 0,.int .i64 0,.int .i64 0,.string ⟨#[]⟩] hg8 (by kernel_rfl) rfl (by kernel_rfl) ?_
          rw [setRow_self z4 n3 #[.int .i64 0,.int .i64 0,.int .i64 0,.int .u64 0,.int .u64 0,.int .u64 0,.int .u64 0,.int .i64 0,.int .u64 0,.int .i64 0,.int .i64 0,.int .u64 0,.int .i64 0,.int .i64 0,.int .i64 0,.int .i64 0,.int .i64 0,.int .i64 0,.string ⟨#[]⟩] t8 (0,0) hg8]
          refine hK.out _ _ (blk_cell ks_4 0) (fun hHeld => ?_)
          clear hK K hg8
          (try simp only [Act.put,List.setIfInBounds_toArray,List.set_cons_zero,List.set_cons_succ,List.getElem_toArray,List.getElem_cons_succ,List.getElem_cons_zero])
          refine wpAnyH_ready (rs:=[15]) (by kernel_rfl) (by simp) ?_
          refine AllReadyH.cons rfl (fun K hK => ?_) AllReadyH.nil
          rw [if_pos (by rfl)]
          obtain ⟨t9,hg9⟩:=blk_row kt_4
          refine wp_store_row 32 (.tmp 13) (.tmp 101) rfl n4 #[.int .i64 10,.int .i64 7] rfl rfl t9 #[.int .i64 0,.int .i64 0] hg9 (by kernel_rfl) rfl (by kernel_rfl) ?_
          obtain ⟨z6,ez6⟩ : ∃ x,x = z4.setRow n4 #[.int .i64 10,.int .i64 7]:=⟨_,rfl⟩
          have kt_6 : blk z6 n4 = some #[.int .i64 10,.int .i64 7]:=(by rw [ez6];exact blk_setRow kt_4)
          have kd_6 : blk z6 y1.heap.size = some #[.int .i64 11,.int .i64 2]:=(by rw [ez6];exact (blk_kept (setRow_other z4 n4 y1.heap.size _ (by first|assumption|(apply Ne.symm;assumption)))).trans kd_4)
          have ks_6 : blk z6 n1 = some #[.int .u8 (v.toNat : Int)]:=(by rw [ez6];exact (blk_kept (setRow_other z4 n4 n1 _ (by first|assumption|(apply Ne.symm;assumption)))).trans ks_4)
          have Bz6 : Below w.heap.size w z6:=(by rw [ez6];exact below_setRowK Bz4 (by assumption) _)
          rw [← ez6]
          refine hK.out _ _ (blk_cell ks_6 0) (fun hHeld => ?_)
          clear hK K hg9 ez6
          (try simp only [Act.put,List.setIfInBounds_toArray,List.set_cons_zero,List.set_cons_succ,List.getElem_toArray,List.getElem_cons_succ,List.getElem_cons_zero])
          refine wpAnyH_done (by kernel_rfl) ?_ _
          go_wp2
          go_meet
          case rel => exact ⟨_,_,rfl,rfl,kt_6,kd_6,Bz6⟩
        refine AllReadyH.cons rfl (fun K hK => ?_) AllReadyH.nil
        go_simp
        refine hK.out _ _ (blk_cell (blk_alloc ks_2 _) 0) (fun _ => ?_)
        clear hK K
        (try simp only [Act.put,List.setIfInBounds_toArray,List.set_cons_zero,List.set_cons_succ,List.getElem_toArray,List.getElem_cons_succ,List.getElem_cons_zero])
        obtain ⟨z7,ez7⟩ : ∃ x,x = z2.alloc (.cells #[.int .i64 0,.int .i64 0] 32):=⟨_,rfl⟩
        obtain ⟨n7,en7⟩ : ∃ b,b = z2.heap.size:=⟨_,rfl⟩
        have dkd_2_7 : y1.heap.size ≠ n7:=(by rw [en7];have:=blk_lt kd_2;omega)
        have dks_2_7 : n1 ≠ n7:=(by rw [en7];have:=blk_lt ks_2;omega)
        have kt_7 : blk z7 n7 = some #[.int .i64 0,.int .i64 0]:=(by rw [ez7];exact blk_alloc_new _ _ _ en7)
        have kd_7 : blk z7 y1.heap.size = some #[.int .i64 11,.int .i64 2]:=(by rw [ez7];exact blk_alloc kd_2 _)
        have ks_7 : blk z7 n1 = some #[.int .u8 (v.toNat : Int)]:=(by rw [ez7];exact blk_alloc ks_2 _)
        have Bz7 : Below w.heap.size w z7:=(by rw [ez7];exact Bz2.alloc Bz2.size _)
        have ln7 : w.heap.size ≤ n7:=(by rw [en7];exact Bz2.size)
        rw [← ez7,← en7]
        clear ez7 en7
        refine wpAnyH_ready (rs:=[12]) (by kernel_rfl) (by simp) ?_
        refine AllReadyH.cons rfl (fun K hK => ?_) AllReadyH.nil
        go_simp
        refine hK.out _ _ (blk_cell (blk_alloc ks_7 _) 0) (fun _ => ?_)
        clear hK K
        (try simp only [Act.put,List.setIfInBounds_toArray,List.set_cons_zero,List.set_cons_succ,List.getElem_toArray,List.getElem_cons_succ,List.getElem_cons_zero])
        obtain ⟨z8,ez8⟩ : ∃ x,x = z7.alloc (.cells #[.int .i64 0,.int .i64 0,.int .i64 0,.int .u64 0,.int .u64 0,.int .u64 0,.int .u64 0,.int .i64 0,.int .u64 0,.int .i64 0,.int .i64 0,.int .u64 0,.int .i64 0,.int .i64 0,.int .i64 0,.int .i64 0,.int .i64 0,.int .i64 0,.string ⟨#[]⟩] 29):=⟨_,rfl⟩
        obtain ⟨n8,en8⟩ : ∃ b,b = z7.heap.size:=⟨_,rfl⟩
        have dkd_7_8 : y1.heap.size ≠ n8:=(by rw [en8];have:=blk_lt kd_7;omega)
        have dks_7_8 : n1 ≠ n8:=(by rw [en8];have:=blk_lt ks_7;omega)
        have dkt_7_8 : n7 ≠ n8:=(by rw [en8];have:=blk_lt kt_7;omega)
        have kf_8 : blk z8 n8 = some #[.int .i64 0,.int .i64 0,.int .i64 0,.int .u64 0,.int .u64 0,.int .u64 0,.int .u64 0,.int .i64 0,.int .u64 0,.int .i64 0,.int .i64 0,.int .u64 0,.int .i64 0,.int .i64 0,.int .i64 0,.int .i64 0,.int .i64 0,.int .i64 0,.string ⟨#[]⟩]:=(by rw [ez8];exact blk_alloc_new _ _ _ en8)
        have kd_8 : blk z8 y1.heap.size = some #[.int .i64 11,.int .i64 2]:=(by rw [ez8];exact blk_alloc kd_7 _)
        have ks_8 : blk z8 n1 = some #[.int .u8 (v.toNat : Int)]:=(by rw [ez8];exact blk_alloc ks_7 _)
        have kt_8 : blk z8 n7 = some #[.int .i64 0,.int .i64 0]:=(by rw [ez8];exact blk_alloc kt_7 _)
        have Bz8 : Below w.heap.size w z8:=(by rw [ez8];exact Bz7.alloc Bz7.size _)
        have ln8 : w.heap.size ≤ n8:=(by rw [en8];exact Bz7.size)
        rw [← ez8,← en8]
        clear ez8 en8
        refine wpAnyH_ready (rs:=[14]) (by kernel_rfl) (by simp) ?_
        refine AllReadyH.cons rfl (fun K hK => ?_) AllReadyH.nil
        rw [if_pos (by rfl)]
        obtain ⟨t8,hg8⟩:=blk_row kf_8
        refine wp_store_row 29 (.tmp 12) (.tmp 100) rfl n8 #[.int .i64 0,.int .i64 0,.int .i64 0,.int .u64 0,.int .u64 0,.int .u64 0,.int .u64 0,.int .i64 0,.int .u64 0,.int .i64 0,.int .i64 0,.int .u64 0,.int .i64 0,.int .i64 0,.int .i64 0,.int .i64 0,.int .i64 0,.int .i64 0,.string ⟨#[]⟩] rfl rfl t8 #[.int .i64 0,.int .i64 0,.int .i64 0,.int .u64 0,.int .u64 0,.int .u64 0,.int .u64 0,.int .i64 0,.int .u64 0,.int .i64 0,.int .i64 0,.int .u64 0,.int .i64 0,.int .i64 0,.int .i64 0,.int .i64 0,.int .i64 0,.int .i64 0,.string ⟨#[]⟩] hg8 (by kernel_rfl) rfl (by kernel_rfl) ?_
        rw [setRow_self z8 n8 #[.int .i64 0,.int .i64 0,.int .i64 0,.int .u64 0,.int .u64 0,.int .u64 0,.int .u64 0,.int .i64 0,.int .u64 0,.int .i64 0,.int .i64 0,.int .u64 0,.int .i64 0,.int .i64 0,.int .i64 0,.int .i64 0,.int .i64 0,.int .i64 0,.string ⟨#[]⟩] t8 (0,0) hg8]
        refine hK.out _ _ (blk_cell ks_8 0) (fun hHeld => ?_)
        clear hK K hg8
        (try simp only [Act.put,List.setIfInBounds_toArray,List.set_cons_zero,List.set_cons_succ,List.getElem_toArray,List.getElem_cons_succ,List.getElem_cons_zero])
        refine wpAnyH_ready (rs:=[15]) (by kernel_rfl) (by simp) ?_
        refine AllReadyH.cons rfl (fun K hK => ?_) AllReadyH.nil
        rw [if_pos (by rfl)]
        obtain ⟨t9,hg9⟩:=blk_row kt_8
        refine wp_store_row 32 (.tmp 13) (.tmp 101) rfl n7 #[.int .i64 10,.int .i64 7] rfl rfl t9 #[.int .i64 0,.int .i64 0] hg9 (by kernel_rfl) rfl (by kernel_rfl) ?_
        obtain ⟨z10,ez10⟩ : ∃ x,x = z8.setRow n7 #[.int .i64 10,.int .i64 7]:=⟨_,rfl⟩
        have kt_10 : blk z10 n7 = some #[.int .i64 10,.int .i64 7]:=(by rw [ez10];exact blk_setRow kt_8)
        have kd_10 : blk z10 y1.heap.size = some #[.int .i64 11,.int .i64 2]:=(by rw [ez10];exact (blk_kept (setRow_other z8 n7 y1.heap.size _ (by first|assumption|(apply Ne.symm;assumption)))).trans kd_8)
        have ks_10 : blk z10 n1 = some #[.int .u8 (v.toNat : Int)]:=(by rw [ez10];exact (blk_kept (setRow_other z8 n7 n1 _ (by first|assumption|(apply Ne.symm;assumption)))).trans ks_8)
        have Bz10 : Below w.heap.size w z10:=(by rw [ez10];exact below_setRowK Bz8 (by assumption) _)
        rw [← ez10]
        refine hK.out _ _ (blk_cell ks_10 0) (fun hHeld => ?_)
        clear hK K hg9 ez10
        (try simp only [Act.put,List.setIfInBounds_toArray,List.set_cons_zero,List.set_cons_succ,List.getElem_toArray,List.getElem_cons_succ,List.getElem_cons_zero])
        refine wpAnyH_done (by kernel_rfl) ?_ _
        go_wp2
        go_meet
        case rel => exact ⟨_,_,rfl,rfl,kt_10,kd_10,Bz10⟩
      refine AllReadyH.cons rfl (fun K hK => ?_) ?_
      · skip
        go_simp
        refine hK.out _ _ (blk_cell (blk_alloc ks_1 _) 0) (fun _ => ?_)
        clear hK K
        (try simp only [Act.put,List.setIfInBounds_toArray,List.set_cons_zero,List.set_cons_succ,List.getElem_toArray,List.getElem_cons_succ,List.getElem_cons_zero])
        obtain ⟨z11,ez11⟩ : ∃ x,x = z1.alloc (.cells #[.int .i64 0,.int .i64 0,.int .i64 0,.int .u64 0,.int .u64 0,.int .u64 0,.int .u64 0,.int .i64 0,.int .u64 0,.int .i64 0,.int .i64 0,.int .u64 0,.int .i64 0,.int .i64 0,.int .i64 0,.int .i64 0,.int .i64 0,.int .i64 0,.string ⟨#[]⟩] 29):=⟨_,rfl⟩
        obtain ⟨n11,en11⟩ : ∃ b,b = z1.heap.size:=⟨_,rfl⟩
        have dkd_1_11 : y1.heap.size ≠ n11:=(by rw [en11];have:=blk_lt kd_1;omega)
        have dks_1_11 : n1 ≠ n11:=(by rw [en11];have:=blk_lt ks_1;omega)
        have kf_11 : blk z11 n11 = some #[.int .i64 0,.int .i64 0,.int .i64 0,.int .u64 0,.int .u64 0,.int .u64 0,.int .u64 0,.int .i64 0,.int .u64 0,.int .i64 0,.int .i64 0,.int .u64 0,.int .i64 0,.int .i64 0,.int .i64 0,.int .i64 0,.int .i64 0,.int .i64 0,.string ⟨#[]⟩]:=(by rw [ez11];exact blk_alloc_new _ _ _ en11)
        have kd_11 : blk z11 y1.heap.size = some #[.int .i64 11,.int .i64 2]:=(by rw [ez11];exact blk_alloc kd_1 _)
        have ks_11 : blk z11 n1 = some #[.int .u8 (v.toNat : Int)]:=(by rw [ez11];exact blk_alloc ks_1 _)
        have Bz11 : Below w.heap.size w z11:=(by rw [ez11];exact Bz1.alloc Bz1.size _)
        have ln11 : w.heap.size ≤ n11:=(by rw [en11];exact Bz1.size)
        rw [← ez11,← en11]
        clear ez11 en11
        refine wpAnyH_ready (rs:=[8,13]) (by kernel_rfl) (by simp) ?_
        refine AllReadyH.cons rfl (fun K hK => ?_) ?_
        · skip
          go_simp
          go_at_call 11
          (with_reducible refine (gd2.out _ (HH.out.on Bz11) (HT.out.on Bz11)).mono ?_)
          rintro e z12 ⟨rfl,hz12⟩
          (try go_wp2_with fail)
          have kd_12 : blk z12 y1.heap.size = some #[.int .i64 11,.int .i64 2]:=blk_below hz12 kd_11
          have ks_12 : blk z12 n1 = some #[.int .u8 (v.toNat : Int)]:=blk_below hz12 ks_11
          have kf_12 : blk z12 n11 = some #[.int .i64 0,.int .i64 0,.int .i64 0,.int .u64 0,.int .u64 0,.int .u64 0,.int .u64 0,.int .i64 0,.int .u64 0,.int .i64 0,.int .i64 0,.int .u64 0,.int .i64 0,.int .i64 0,.int .i64 0,.int .i64 0,.int .i64 0,.int .i64 0,.string ⟨#[]⟩]:=blk_below hz12 kf_11
          have Bz12 : Below w.heap.size w z12:=bt Bz11 hz12
          clear hz12
          refine hK.out _ _ (blk_cell ks_12 0) (fun hHeld => ?_)
          clear hK K
          (try simp only [Act.put,List.setIfInBounds_toArray,List.set_cons_zero,List.set_cons_succ,List.getElem_toArray,List.getElem_cons_succ,List.getElem_cons_zero])
          refine wpAnyH_take (i:=9) (oi:=_) (v:=?_) rfl (by kernel_rfl) (by kernel_rfl) (by kernel_rfl) (fun _ _ _ h => h) (Or.inl ⟨by rfl,?_⟩) (by assumption) ?_
          rotate_left
          · (intro W hSw;(try dsimp only at hSw);go_simp;(try with_reducible rfl))
          (try simp only [Act.put,List.setIfInBounds_toArray,List.set_cons_zero,List.set_cons_succ,List.getElem_toArray,List.getElem_cons_succ,List.getElem_cons_zero])
          refine wpAnyH_take (i:=10) (oi:=_) (v:=?_) rfl (by kernel_rfl) (by kernel_rfl) (by kernel_rfl) (fun _ _ _ h => h) (Or.inl ⟨by rfl,?_⟩) (by assumption) ?_
          rotate_left
          · (intro W hSw;(try dsimp only at hSw);go_simp;(try with_reducible rfl))
          (try simp only [Act.put,List.setIfInBounds_toArray,List.set_cons_zero,List.set_cons_succ,List.getElem_toArray,List.getElem_cons_succ,List.getElem_cons_zero])
          refine wpAnyH_take (i:=11) (oi:=_) (v:=?_) rfl (by kernel_rfl) (by kernel_rfl) (by kernel_rfl) (fun _ _ _ h => h) (Or.inl ⟨by rfl,?_⟩) (by assumption) ?_
          rotate_left
          · (intro W hSw;(try dsimp only at hSw);go_simp;(try with_reducible rfl))
          (try simp only [Act.put,List.setIfInBounds_toArray,List.set_cons_zero,List.set_cons_succ,List.getElem_toArray,List.getElem_cons_succ,List.getElem_cons_zero])
          refine wpAnyH_ready (rs:=[13]) (by kernel_rfl) (by simp) ?_
          refine AllReadyH.cons rfl (fun K hK => ?_) AllReadyH.nil
          go_simp
          refine hK.out _ _ (blk_cell (blk_alloc ks_12 _) 0) (fun _ => ?_)
          clear hK K
          (try simp only [Act.put,List.setIfInBounds_toArray,List.set_cons_zero,List.set_cons_succ,List.getElem_toArray,List.getElem_cons_succ,List.getElem_cons_zero])
          obtain ⟨z13,ez13⟩ : ∃ x,x = z12.alloc (.cells #[.int .i64 0,.int .i64 0] 32):=⟨_,rfl⟩
          obtain ⟨n13,en13⟩ : ∃ b,b = z12.heap.size:=⟨_,rfl⟩
          have dkd_12_13 : y1.heap.size ≠ n13:=(by rw [en13];have:=blk_lt kd_12;omega)
          have dks_12_13 : n1 ≠ n13:=(by rw [en13];have:=blk_lt ks_12;omega)
          have dkf_12_13 : n11 ≠ n13:=(by rw [en13];have:=blk_lt kf_12;omega)
          have kt_13 : blk z13 n13 = some #[.int .i64 0,.int .i64 0]:=(by rw [ez13];exact blk_alloc_new _ _ _ en13)
          have kd_13 : blk z13 y1.heap.size = some #[.int .i64 11,.int .i64 2]:=(by rw [ez13];exact blk_alloc kd_12 _)
          have ks_13 : blk z13 n1 = some #[.int .u8 (v.toNat : Int)]:=(by rw [ez13];exact blk_alloc ks_12 _)
          have kf_13 : blk z13 n11 = some #[.int .i64 0,.int .i64 0,.int .i64 0,.int .u64 0,.int .u64 0,.int .u64 0,.int .u64 0,.int .i64 0,.int .u64 0,.int .i64 0,.int .i64 0,.int .u64 0,.int .i64 0,.int .i64 0,.int .i64 0,.int .i64 0,.int .i64 0,.int .i64 0,.string ⟨#[]⟩]:=(by rw [ez13];exact blk_alloc kf_12 _)
          have Bz13 : Below w.heap.size w z13:=(by rw [ez13];exact Bz12.alloc Bz12.size _)
          have ln13 : w.heap.size ≤ n13:=(by rw [en13];exact Bz12.size)
          rw [← ez13,← en13]
          clear ez13 en13
          refine wpAnyH_ready (rs:=[14]) (by kernel_rfl) (by simp) ?_
          refine AllReadyH.cons rfl (fun K hK => ?_) AllReadyH.nil
          rw [if_pos (by rfl)]
          obtain ⟨t8,hg8⟩:=blk_row kf_13
          refine wp_store_row 29 (.tmp 12) (.tmp 100) rfl n11 #[.int .i64 0,.int .i64 0,.int .i64 0,.int .u64 0,.int .u64 0,.int .u64 0,.int .u64 0,.int .i64 0,.int .u64 0,.int .i64 0,.int .i64 0,.int .u64 0,.int .i64 0,.int .i64 0,.int .i64 0,.int .i64 0,.int .i64 0,.int .i64 0,.string ⟨#[]⟩] rfl rfl t8 #[.int .i64 0,.int .i64 0,.int .i64 0,.int .u64 0,.int .u64 0,.int .u64 0,.int .u64 0,.int .i64 0,.int .u64 0,.int .i64 0,.int .i64 0,.int .u64 0,.int .i64 0,.int .i64 0,.int .i64 0,.int .i64 0,.int .i64 0,.int .i64 0,.string ⟨#[]⟩] hg8 (by kernel_rfl) rfl (by kernel_rfl) ?_
          rw [setRow_self z13 n11 #[.int .i64 0,.int .i64 0,.int .i64 0,.int .u64 0,.int .u64 0,.int .u64 0,.int .u64 0,.int .i64 0,.int .u64 0,.int .i64 0,.int .i64 0,.int .u64 0,.int .i64 0,.int .i64 0,.int .i64 0,.int .i64 0,.int .i64 0,.int .i64 0,.string ⟨#[]⟩] t8 (0,0) hg8]
          refine hK.out _ _ (blk_cell ks_13 0) (fun hHeld => ?_)
          clear hK K hg8
          (try simp only [Act.put,List.setIfInBounds_toArray,List.set_cons_zero,List.set_cons_succ,List.getElem_toArray,List.getElem_cons_succ,List.getElem_cons_zero])
          refine wpAnyH_ready (rs:=[15]) (by kernel_rfl) (by simp) ?_
          refine AllReadyH.cons rfl (fun K hK => ?_) AllReadyH.nil
          rw [if_pos (by rfl)]
          obtain ⟨t9,hg9⟩:=blk_row kt_13
          refine wp_store_row 32 (.tmp 13) (.tmp 101) rfl n13 #[.int .i64 10,.int .i64 7] rfl rfl t9 #[.int .i64 0,.int .i64 0] hg9 (by kernel_rfl) rfl (by kernel_rfl) ?_
          obtain ⟨z15,ez15⟩ : ∃ x,x = z13.setRow n13 #[.int .i64 10,.int .i64 7]:=⟨_,rfl⟩
          have kt_15 : blk z15 n13 = some #[.int .i64 10,.int .i64 7]:=(by rw [ez15];exact blk_setRow kt_13)
          have kd_15 : blk z15 y1.heap.size = some #[.int .i64 11,.int .i64 2]:=(by rw [ez15];exact (blk_kept (setRow_other z13 n13 y1.heap.size _ (by first|assumption|(apply Ne.symm;assumption)))).trans kd_13)
          have ks_15 : blk z15 n1 = some #[.int .u8 (v.toNat : Int)]:=(by rw [ez15];exact (blk_kept (setRow_other z13 n13 n1 _ (by first|assumption|(apply Ne.symm;assumption)))).trans ks_13)
          have Bz15 : Below w.heap.size w z15:=(by rw [ez15];exact below_setRowK Bz13 (by assumption) _)
          rw [← ez15]
          refine hK.out _ _ (blk_cell ks_15 0) (fun hHeld => ?_)
          clear hK K hg9 ez15
          (try simp only [Act.put,List.setIfInBounds_toArray,List.set_cons_zero,List.set_cons_succ,List.getElem_toArray,List.getElem_cons_succ,List.getElem_cons_zero])
          refine wpAnyH_done (by kernel_rfl) ?_ _
          go_wp2
          go_meet
          case rel => exact ⟨_,_,rfl,rfl,kt_15,kd_15,Bz15⟩
        refine AllReadyH.cons rfl (fun K hK => ?_) AllReadyH.nil
        go_simp
        refine hK.out _ _ (blk_cell (blk_alloc ks_11 _) 0) (fun _ => ?_)
        clear hK K
        (try simp only [Act.put,List.setIfInBounds_toArray,List.set_cons_zero,List.set_cons_succ,List.getElem_toArray,List.getElem_cons_succ,List.getElem_cons_zero])
        obtain ⟨z16,ez16⟩ : ∃ x,x = z11.alloc (.cells #[.int .i64 0,.int .i64 0] 32):=⟨_,rfl⟩
        obtain ⟨n16,en16⟩ : ∃ b,b = z11.heap.size:=⟨_,rfl⟩
        have dkd_11_16 : y1.heap.size ≠ n16:=(by rw [en16];have:=blk_lt kd_11;omega)
        have dks_11_16 : n1 ≠ n16:=(by rw [en16];have:=blk_lt ks_11;omega)
        have dkf_11_16 : n11 ≠ n16:=(by rw [en16];have:=blk_lt kf_11;omega)
        have kt_16 : blk z16 n16 = some #[.int .i64 0,.int .i64 0]:=(by rw [ez16];exact blk_alloc_new _ _ _ en16)
        have kd_16 : blk z16 y1.heap.size = some #[.int .i64 11,.int .i64 2]:=(by rw [ez16];exact blk_alloc kd_11 _)
        have ks_16 : blk z16 n1 = some #[.int .u8 (v.toNat : Int)]:=(by rw [ez16];exact blk_alloc ks_11 _)
        have kf_16 : blk z16 n11 = some #[.int .i64 0,.int .i64 0,.int .i64 0,.int .u64 0,.int .u64 0,.int .u64 0,.int .u64 0,.int .i64 0,.int .u64 0,.int .i64 0,.int .i64 0,.int .u64 0,.int .i64 0,.int .i64 0,.int .i64 0,.int .i64 0,.int .i64 0,.int .i64 0,.string ⟨#[]⟩]:=(by rw [ez16];exact blk_alloc kf_11 _)
        have Bz16 : Below w.heap.size w z16:=(by rw [ez16];exact Bz11.alloc Bz11.size _)
        have ln16 : w.heap.size ≤ n16:=(by rw [en16];exact Bz11.size)
        rw [← ez16,← en16]
        clear ez16 en16
        refine wpAnyH_ready (rs:=[8]) (by kernel_rfl) (by simp) ?_
        refine AllReadyH.cons rfl (fun K hK => ?_) AllReadyH.nil
        go_simp
        go_at_call 11
        (with_reducible refine (gd2.out _ (HH.out.on Bz16) (HT.out.on Bz16)).mono ?_)
        rintro e z17 ⟨rfl,hz17⟩
        (try go_wp2_with fail)
        have kd_17 : blk z17 y1.heap.size = some #[.int .i64 11,.int .i64 2]:=blk_below hz17 kd_16
        have ks_17 : blk z17 n1 = some #[.int .u8 (v.toNat : Int)]:=blk_below hz17 ks_16
        have kf_17 : blk z17 n11 = some #[.int .i64 0,.int .i64 0,.int .i64 0,.int .u64 0,.int .u64 0,.int .u64 0,.int .u64 0,.int .i64 0,.int .u64 0,.int .i64 0,.int .i64 0,.int .u64 0,.int .i64 0,.int .i64 0,.int .i64 0,.int .i64 0,.int .i64 0,.int .i64 0,.string ⟨#[]⟩]:=blk_below hz17 kf_16
        have kt_17 : blk z17 n16 = some #[.int .i64 0,.int .i64 0]:=blk_below hz17 kt_16
        have Bz17 : Below w.heap.size w z17:=bt Bz16 hz17
        clear hz17
        refine hK.out _ _ (blk_cell ks_17 0) (fun hHeld => ?_)
        clear hK K
        (try simp only [Act.put,List.setIfInBounds_toArray,List.set_cons_zero,List.set_cons_succ,List.getElem_toArray,List.getElem_cons_succ,List.getElem_cons_zero])
        refine wpAnyH_take (i:=9) (oi:=_) (v:=?_) rfl (by kernel_rfl) (by kernel_rfl) (by kernel_rfl) (fun _ _ _ h => h) (Or.inl ⟨by rfl,?_⟩) (by assumption) ?_
        rotate_left
        · (intro W hSw;(try dsimp only at hSw);go_simp;(try with_reducible rfl))
        (try simp only [Act.put,List.setIfInBounds_toArray,List.set_cons_zero,List.set_cons_succ,List.getElem_toArray,List.getElem_cons_succ,List.getElem_cons_zero])
        refine wpAnyH_take (i:=10) (oi:=_) (v:=?_) rfl (by kernel_rfl) (by kernel_rfl) (by kernel_rfl) (fun _ _ _ h => h) (Or.inl ⟨by rfl,?_⟩) (by assumption) ?_
        rotate_left
        · (intro W hSw;(try dsimp only at hSw);go_simp;(try with_reducible rfl))
        (try simp only [Act.put,List.setIfInBounds_toArray,List.set_cons_zero,List.set_cons_succ,List.getElem_toArray,List.getElem_cons_succ,List.getElem_cons_zero])
        refine wpAnyH_take (i:=11) (oi:=_) (v:=?_) rfl (by kernel_rfl) (by kernel_rfl) (by kernel_rfl) (fun _ _ _ h => h) (Or.inl ⟨by rfl,?_⟩) (by assumption) ?_
        rotate_left
        · (intro W hSw;(try dsimp only at hSw);go_simp;(try with_reducible rfl))
        (try simp only [Act.put,List.setIfInBounds_toArray,List.set_cons_zero,List.set_cons_succ,List.getElem_toArray,List.getElem_cons_succ,List.getElem_cons_zero])
        refine wpAnyH_ready (rs:=[14]) (by kernel_rfl) (by simp) ?_
        refine AllReadyH.cons rfl (fun K hK => ?_) AllReadyH.nil
        rw [if_pos (by rfl)]
        obtain ⟨t8,hg8⟩:=blk_row kf_17
        refine wp_store_row 29 (.tmp 12) (.tmp 100) rfl n11 #[.int .i64 0,.int .i64 0,.int .i64 0,.int .u64 0,.int .u64 0,.int .u64 0,.int .u64 0,.int .i64 0,.int .u64 0,.int .i64 0,.int .i64 0,.int .u64 0,.int .i64 0,.int .i64 0,.int .i64 0,.int .i64 0,.int .i64 0,.int .i64 0,.string ⟨#[]⟩] rfl rfl t8 #[.int .i64 0,.int .i64 0,.int .i64 0,.int .u64 0,.int .u64 0,.int .u64 0,.int .u64 0,.int .i64 0,.int .u64 0,.int .i64 0,.int .i64 0,.int .u64 0,.int .i64 0,.int .i64 0,.int .i64 0,.int .i64 0,.int .i64 0,.int .i64 0,.string ⟨#[]⟩] hg8 (by kernel_rfl) rfl (by kernel_rfl) ?_
        rw [setRow_self z17 n11 #[.int .i64 0,.int .i64 0,.int .i64 0,.int .u64 0,.int .u64 0,.int .u64 0,.int .u64 0,.int .i64 0,.int .u64 0,.int .i64 0,.int .i64 0,.int .u64 0,.int .i64 0,.int .i64 0,.int .i64 0,.int .i64 0,.int .i64 0,.int .i64 0,.string ⟨#[]⟩] t8 (0,0) hg8]
        refine hK.out _ _ (blk_cell ks_17 0) (fun hHeld => ?_)
        clear hK K hg8
        (try simp only [Act.put,List.setIfInBounds_toArray,List.set_cons_zero,List.set_cons_succ,List.getElem_toArray,List.getElem_cons_succ,List.getElem_cons_zero])
        refine wpAnyH_ready (rs:=[15]) (by kernel_rfl) (by simp) ?_
        refine AllReadyH.cons rfl (fun K hK => ?_) AllReadyH.nil
        rw [if_pos (by rfl)]
        obtain ⟨t9,hg9⟩:=blk_row kt_17
        refine wp_store_row 32 (.tmp 13) (.tmp 101) rfl n16 #[.int .i64 10,.int .i64 7] rfl rfl t9 #[.int .i64 0,.int .i64 0] hg9 (by kernel_rfl) rfl (by kernel_rfl) ?_
        obtain ⟨z19,ez19⟩ : ∃ x,x = z17.setRow n16 #[.int .i64 10,.int .i64 7]:=⟨_,rfl⟩
        have kt_19 : blk z19 n16 = some #[.int .i64 10,.int .i64 7]:=(by rw [ez19];exact blk_setRow kt_17)
        have kd_19 : blk z19 y1.heap.size = some #[.int .i64 11,.int .i64 2]:=(by rw [ez19];exact (blk_kept (setRow_other z17 n16 y1.heap.size _ (by first|assumption|(apply Ne.symm;assumption)))).trans kd_17)
        have ks_19 : blk z19 n1 = some #[.int .u8 (v.toNat : Int)]:=(by rw [ez19];exact (blk_kept (setRow_other z17 n16 n1 _ (by first|assumption|(apply Ne.symm;assumption)))).trans ks_17)
        have Bz19 : Below w.heap.size w z19:=(by rw [ez19];exact below_setRowK Bz17 (by assumption) _)
        rw [← ez19]
        refine hK.out _ _ (blk_cell ks_19 0) (fun hHeld => ?_)
        clear hK K hg9 ez19
        (try simp only [Act.put,List.setIfInBounds_toArray,List.set_cons_zero,List.set_cons_succ,List.getElem_toArray,List.getElem_cons_succ,List.getElem_cons_zero])
        refine wpAnyH_done (by kernel_rfl) ?_ _
        go_wp2
        go_meet
        case rel => exact ⟨_,_,rfl,rfl,kt_19,kd_19,Bz19⟩
      refine AllReadyH.cons rfl (fun K hK => ?_) AllReadyH.nil
      go_simp
      refine hK.out _ _ (blk_cell (blk_alloc ks_1 _) 0) (fun _ => ?_)
      clear hK K
      (try simp only [Act.put,List.setIfInBounds_toArray,List.set_cons_zero,List.set_cons_succ,List.getElem_toArray,List.getElem_cons_succ,List.getElem_cons_zero])
      obtain ⟨z20,ez20⟩ : ∃ x,x = z1.alloc (.cells #[.int .i64 0,.int .i64 0] 32):=⟨_,rfl⟩
      obtain ⟨n20,en20⟩ : ∃ b,b = z1.heap.size:=⟨_,rfl⟩
      have dkd_1_20 : y1.heap.size ≠ n20:=(by rw [en20];have:=blk_lt kd_1;omega)
      have dks_1_20 : n1 ≠ n20:=(by rw [en20];have:=blk_lt ks_1;omega)
      have kt_20 : blk z20 n20 = some #[.int .i64 0,.int .i64 0]:=(by rw [ez20];exact blk_alloc_new _ _ _ en20)
      have kd_20 : blk z20 y1.heap.size = some #[.int .i64 11,.int .i64 2]:=(by rw [ez20];exact blk_alloc kd_1 _)
      have ks_20 : blk z20 n1 = some #[.int .u8 (v.toNat : Int)]:=(by rw [ez20];exact blk_alloc ks_1 _)
      have Bz20 : Below w.heap.size w z20:=(by rw [ez20];exact Bz1.alloc Bz1.size _)
      have ln20 : w.heap.size ≤ n20:=(by rw [en20];exact Bz1.size)
      rw [← ez20,← en20]
      clear ez20 en20
      refine wpAnyH_ready (rs:=[8,12]) (by kernel_rfl) (by simp) ?_
      refine AllReadyH.cons rfl (fun K hK => ?_) ?_
      · skip
        go_simp
        go_at_call 11
        (with_reducible refine (gd2.out _ (HH.out.on Bz20) (HT.out.on Bz20)).mono ?_)
        rintro e z21 ⟨rfl,hz21⟩
        (try go_wp2_with fail)
        have kd_21 : blk z21 y1.heap.size = some #[.int .i64 11,.int .i64 2]:=blk_below hz21 kd_20
        have ks_21 : blk z21 n1 = some #[.int .u8 (v.toNat : Int)]:=blk_below hz21 ks_20
        have kt_21 : blk z21 n20 = some #[.int .i64 0,.int .i64 0]:=blk_below hz21 kt_20
        have Bz21 : Below w.heap.size w z21:=bt Bz20 hz21
        clear hz21
        refine hK.out _ _ (blk_cell ks_21 0) (fun hHeld => ?_)
        clear hK K
        (try simp only [Act.put,List.setIfInBounds_toArray,List.set_cons_zero,List.set_cons_succ,List.getElem_toArray,List.getElem_cons_succ,List.getElem_cons_zero])
        refine wpAnyH_take (i:=9) (oi:=_) (v:=?_) rfl (by kernel_rfl) (by kernel_rfl) (by kernel_rfl) (fun _ _ _ h => h) (Or.inl ⟨by rfl,?_⟩) (by assumption) ?_
        rotate_left
        · (intro W hSw;(try dsimp only at hSw);go_simp;(try with_reducible rfl))
        (try simp only [Act.put,List.setIfInBounds_toArray,List.set_cons_zero,List.set_cons_succ,List.getElem_toArray,List.getElem_cons_succ,List.getElem_cons_zero])
        refine wpAnyH_take (i:=10) (oi:=_) (v:=?_) rfl (by kernel_rfl) (by kernel_rfl) (by kernel_rfl) (fun _ _ _ h => h) (Or.inl ⟨by rfl,?_⟩) (by assumption) ?_
        rotate_left
        · (intro W hSw;(try dsimp only at hSw);go_simp;(try with_reducible rfl))
        (try simp only [Act.put,List.setIfInBounds_toArray,List.set_cons_zero,List.set_cons_succ,List.getElem_toArray,List.getElem_cons_succ,List.getElem_cons_zero])
        refine wpAnyH_take (i:=11) (oi:=_) (v:=?_) rfl (by kernel_rfl) (by kernel_rfl) (by kernel_rfl) (fun _ _ _ h => h) (Or.inl ⟨by rfl,?_⟩) (by assumption) ?_
        rotate_left
        · (intro W hSw;(try dsimp only at hSw);go_simp;(try with_reducible rfl))
        (try simp only [Act.put,List.setIfInBounds_toArray,List.set_cons_zero,List.set_cons_succ,List.getElem_toArray,List.getElem_cons_succ,List.getElem_cons_zero])
        refine wpAnyH_ready (rs:=[12]) (by kernel_rfl) (by simp) ?_
        refine AllReadyH.cons rfl (fun K hK => ?_) AllReadyH.nil
        go_simp
        refine hK.out _ _ (blk_cell (blk_alloc ks_21 _) 0) (fun _ => ?_)
        clear hK K
        (try simp only [Act.put,List.setIfInBounds_toArray,List.set_cons_zero,List.set_cons_succ,List.getElem_toArray,List.getElem_cons_succ,List.getElem_cons_zero])
        obtain ⟨z22,ez22⟩ : ∃ x,x = z21.alloc (.cells #[.int .i64 0,.int .i64 0,.int .i64 0,.int .u64 0,.int .u64 0,.int .u64 0,.int .u64 0,.int .i64 0,.int .u64 0,.int .i64 0,.int .i64 0,.int .u64 0,.int .i64 0,.int .i64 0,.int .i64 0,.int .i64 0,.int .i64 0,.int .i64 0,.string ⟨#[]⟩] 29):=⟨_,rfl⟩
        obtain ⟨n22,en22⟩ : ∃ b,b = z21.heap.size:=⟨_,rfl⟩
        have dkd_21_22 : y1.heap.size ≠ n22:=(by rw [en22];have:=blk_lt kd_21;omega)
        have dks_21_22 : n1 ≠ n22:=(by rw [en22];have:=blk_lt ks_21;omega)
        have dkt_21_22 : n20 ≠ n22:=(by rw [en22];have:=blk_lt kt_21;omega)
        have kf_22 : blk z22 n22 = some #[.int .i64 0,.int .i64 0,.int .i64 0,.int .u64 0,.int .u64 0,.int .u64 0,.int .u64 0,.int .i64 0,.int .u64 0,.int .i64 0,.int .i64 0,.int .u64 0,.int .i64 0,.int .i64 0,.int .i64 0,.int .i64 0,.int .i64 0,.int .i64 0,.string ⟨#[]⟩]:=(by rw [ez22];exact blk_alloc_new _ _ _ en22)
        have kd_22 : blk z22 y1.heap.size = some #[.int .i64 11,.int .i64 2]:=(by rw [ez22];exact blk_alloc kd_21 _)
        have ks_22 : blk z22 n1 = some #[.int .u8 (v.toNat : Int)]:=(by rw [ez22];exact blk_alloc ks_21 _)
        have kt_22 : blk z22 n20 = some #[.int .i64 0,.int .i64 0]:=(by rw [ez22];exact blk_alloc kt_21 _)
        have Bz22 : Below w.heap.size w z22:=(by rw [ez22];exact Bz21.alloc Bz21.size _)
        have ln22 : w.heap.size ≤ n22:=(by rw [en22];exact Bz21.size)
        rw [← ez22,← en22]
        clear ez22 en22
        refine wpAnyH_ready (rs:=[14]) (by kernel_rfl) (by simp) ?_
        refine AllReadyH.cons rfl (fun K hK => ?_) AllReadyH.nil
        rw [if_pos (by rfl)]
        obtain ⟨t8,hg8⟩:=blk_row kf_22
        refine wp_store_row 29 (.tmp 12) (.tmp 100) rfl n22 #[.int .i64 0,.int .i64 0,.int .i64 0,.int .u64 0,.int .u64 0,.int .u64 0,.int .u64 0,.int .i64 0,.int .u64 0,.int .i64 0,.int .i64 0,.int .u64 0,.int .i64 0,.int .i64 0,.int .i64 0,.int .i64 0,.int .i64 0,.int .i64 0,.string ⟨#[]⟩] rfl rfl t8 #[.int .i64 0,.int .i64 0,.int .i64 0,.int .u64 0,.int .u64 0,.int .u64 0,.int .u64 0,.int .i64 0,.int .u64 0,.int .i64 0,.int .i64 0,.int .u64 0,.int .i64 0,.int .i64 0,.int .i64 0,.int .i64 0,.int .i64 0,.int .i64 0,.string ⟨#[]⟩] hg8 (by kernel_rfl) rfl (by kernel_rfl) ?_
        rw [setRow_self z22 n22 #[.int .i64 0,.int .i64 0,.int .i64 0,.int .u64 0,.int .u64 0,.int .u64 0,.int .u64 0,.int .i64 0,.int .u64 0,.int .i64 0,.int .i64 0,.int .u64 0,.int .i64 0,.int .i64 0,.int .i64 0,.int .i64 0,.int .i64 0,.int .i64 0,.string ⟨#[]⟩] t8 (0,0) hg8]
        refine hK.out _ _ (blk_cell ks_22 0) (fun hHeld => ?_)
        clear hK K hg8
        (try simp only [Act.put,List.setIfInBounds_toArray,List.set_cons_zero,List.set_cons_succ,List.getElem_toArray,List.getElem_cons_succ,List.getElem_cons_zero])
        refine wpAnyH_ready (rs:=[15]) (by kernel_rfl) (by simp) ?_
        refine AllReadyH.cons rfl (fun K hK => ?_) AllReadyH.nil
        rw [if_pos (by rfl)]
        obtain ⟨t9,hg9⟩:=blk_row kt_22
        refine wp_store_row 32 (.tmp 13) (.tmp 101) rfl n20 #[.int .i64 10,.int .i64 7] rfl rfl t9 #[.int .i64 0,.int .i64 0] hg9 (by kernel_rfl) rfl (by kernel_rfl) ?_
        obtain ⟨z24,ez24⟩ : ∃ x,x = z22.setRow n20 #[.int .i64 10,.int .i64 7]:=⟨_,rfl⟩
        have kt_24 : blk z24 n20 = some #[.int .i64 10,.int .i64 7]:=(by rw [ez24];exact blk_setRow kt_22)
        have kd_24 : blk z24 y1.heap.size = some #[.int .i64 11,.int .i64 2]:=(by rw [ez24];exact (blk_kept (setRow_other z22 n20 y1.heap.size _ (by first|assumption|(apply Ne.symm;assumption)))).trans kd_22)
        have ks_24 : blk z24 n1 = some #[.int .u8 (v.toNat : Int)]:=(by rw [ez24];exact (blk_kept (setRow_other z22 n20 n1 _ (by first|assumption|(apply Ne.symm;assumption)))).trans ks_22)
        have Bz24 : Below w.heap.size w z24:=(by rw [ez24];exact below_setRowK Bz22 (by assumption) _)
        rw [← ez24]
        refine hK.out _ _ (blk_cell ks_24 0) (fun hHeld => ?_)
        clear hK K hg9 ez24
        (try simp only [Act.put,List.setIfInBounds_toArray,List.set_cons_zero,List.set_cons_succ,List.getElem_toArray,List.getElem_cons_succ,List.getElem_cons_zero])
        refine wpAnyH_done (by kernel_rfl) ?_ _
        go_wp2
        go_meet
        case rel => exact ⟨_,_,rfl,rfl,kt_24,kd_24,Bz24⟩
      refine AllReadyH.cons rfl (fun K hK => ?_) AllReadyH.nil
      go_simp
      refine hK.out _ _ (blk_cell (blk_alloc ks_20 _) 0) (fun _ => ?_)
      clear hK K
      (try simp only [Act.put,List.setIfInBounds_toArray,List.set_cons_zero,List.set_cons_succ,List.getElem_toArray,List.getElem_cons_succ,List.getElem_cons_zero])
      obtain ⟨z25,ez25⟩ : ∃ x,x = z20.alloc (.cells #[.int .i64 0,.int .i64 0,.int .i64 0,.int .u64 0,.int .u64 0,.int .u64 0,.int .u64 0,.int .i64 0,.int .u64 0,.int .i64 0,.int .i64 0,.int .u64 0,.int .i64 0,.int .i64 0,.int .i64 0,.int .i64 0,.int .i64 0,.int .i64 0,.string ⟨#[]⟩] 29):=⟨_,rfl⟩
      obtain ⟨n25,en25⟩ : ∃ b,b = z20.heap.size:=⟨_,rfl⟩
      have dkd_20_25 : y1.heap.size ≠ n25:=(by rw [en25];have:=blk_lt kd_20;omega)
      have dks_20_25 : n1 ≠ n25:=(by rw [en25];have:=blk_lt ks_20;omega)
      have dkt_20_25 : n20 ≠ n25:=(by rw [en25];have:=blk_lt kt_20;omega)
      have kf_25 : blk z25 n25 = some #[.int .i64 0,.int .i64 0,.int .i64 0,.int .u64 0,.int .u64 0,.int .u64 0,.int .u64 0,.int .i64 0,.int .u64 0,.int .i64 0,.int .i64 0,.int .u64 0,.int .i64 0,.int .i64 0,.int .i64 0,.int .i64 0,.int .i64 0,.int .i64 0,.string ⟨#[]⟩]:=(by rw [ez25];exact blk_alloc_new _ _ _ en25)
      have kd_25 : blk z25 y1.heap.size = some #[.int .i64 11,.int .i64 2]:=(by rw [ez25];exact blk_alloc kd_20 _)
      have ks_25 : blk z25 n1 = some #[.int .u8 (v.toNat : Int)]:=(by rw [ez25];exact blk_alloc ks_20 _)
      have kt_25 : blk z25 n20 = some #[.int .i64 0,.int .i64 0]:=(by rw [ez25];exact blk_alloc kt_20 _)
      have Bz25 : Below w.heap.size w z25:=(by rw [ez25];exact Bz20.alloc Bz20.size _)
      have ln25 : w.heap.size ≤ n25:=(by rw [en25];exact Bz20.size)
      rw [← ez25,← en25]
      clear ez25 en25
      refine wpAnyH_ready (rs:=[8]) (by kernel_rfl) (by simp) ?_
      refine AllReadyH.cons rfl (fun K hK => ?_) AllReadyH.nil
      go_simp
      go_at_call 11
      (with_reducible refine (gd2.out _ (HH.out.on Bz25) (HT.out.on Bz25)).mono ?_)
      rintro e z26 ⟨rfl,hz26⟩
      (try go_wp2_with fail)
      have kd_26 : blk z26 y1.heap.size = some #[.int .i64 11,.int .i64 2]:=blk_below hz26 kd_25
      have ks_26 : blk z26 n1 = some #[.int .u8 (v.toNat : Int)]:=blk_below hz26 ks_25
      have kt_26 : blk z26 n20 = some #[.int .i64 0,.int .i64 0]:=blk_below hz26 kt_25
      have kf_26 : blk z26 n25 = some #[.int .i64 0,.int .i64 0,.int .i64 0,.int .u64 0,.int .u64 0,.int .u64 0,.int .u64 0,.int .i64 0,.int .u64 0,.int .i64 0,.int .i64 0,.int .u64 0,.int .i64 0,.int .i64 0,.int .i64 0,.int .i64 0,.int .i64 0,.int .i64 0,.string ⟨#[]⟩]:=blk_below hz26 kf_25
      have Bz26 : Below w.heap.size w z26:=bt Bz25 hz26
      clear hz26
      refine hK.out _ _ (blk_cell ks_26 0) (fun hHeld => ?_)
      clear hK K
      (try simp only [Act.put,List.setIfInBounds_toArray,List.set_cons_zero,List.set_cons_succ,List.getElem_toArray,List.getElem_cons_succ,List.getElem_cons_zero])
      refine wpAnyH_take (i:=9) (oi:=_) (v:=?_) rfl (by kernel_rfl) (by kernel_rfl) (by kernel_rfl) (fun _ _ _ h => h) (Or.inl ⟨by rfl,?_⟩) (by assumption) ?_
      rotate_left
      · (intro W hSw;(try dsimp only at hSw);go_simp;(try with_reducible rfl))
      (try simp only [Act.put,List.setIfInBounds_toArray,List.set_cons_zero,List.set_cons_succ,List.getElem_toArray,List.getElem_cons_succ,List.getElem_cons_zero])
      refine wpAnyH_take (i:=10) (oi:=_) (v:=?_) rfl (by kernel_rfl) (by kernel_rfl) (by kernel_rfl) (fun _ _ _ h => h) (Or.inl ⟨by rfl,?_⟩) (by assumption) ?_
      rotate_left
      · (intro W hSw;(try dsimp only at hSw);go_simp;(try with_reducible rfl))
      (try simp only [Act.put,List.setIfInBounds_toArray,List.set_cons_zero,List.set_cons_succ,List.getElem_toArray,List.getElem_cons_succ,List.getElem_cons_zero])
      refine wpAnyH_take (i:=11) (oi:=_) (v:=?_) rfl (by kernel_rfl) (by kernel_rfl) (by kernel_rfl) (fun _ _ _ h => h) (Or.inl ⟨by rfl,?_⟩) (by assumption) ?_
      rotate_left
      · (intro W hSw;(try dsimp only at hSw);go_simp;(try with_reducible rfl))
      (try simp only [Act.put,List.setIfInBounds_toArray,List.set_cons_zero,List.set_cons_succ,List.getElem_toArray,List.getElem_cons_succ,List.getElem_cons_zero])
      refine wpAnyH_ready (rs:=[14]) (by kernel_rfl) (by simp) ?_
      refine AllReadyH.cons rfl (fun K hK => ?_) AllReadyH.nil
      rw [if_pos (by rfl)]
      obtain ⟨t8,hg8⟩:=blk_row kf_26
      refine wp_store_row 29 (.tmp 12) (.tmp 100) rfl n25 #[.int .i64 0,.int .i64 0,.int .i64 0,.int .u64 0,.int .u64 0,.int .u64 0,.int .u64 0,.int .i64 0,.int .u64 0,.int .i64 0,.int .i64 0,.int .u64 0,.int .i64 0,.int .i64 0,.int .i64 0,.int .i64 0,.int .i64 0,.int .i64 0,.string ⟨#[]⟩] rfl rfl t8 #[.int .i64 0,.int .i64 0,.int .i64 0,.int .u64 0,.int .u64 0,.int .u64 0,.int .u64 0,.int .i64 0,.int .u64 0,.int .i64 0,.int .i64 0,.int .u64 0,.int .i64 0,.int .i64 0,.int .i64 0,.int .i64 0,.int .i64 0,.int .i64 0,.string ⟨#[]⟩] hg8 (by kernel_rfl) rfl (by kernel_rfl) ?_
      rw [setRow_self z26 n25 #[.int .i64 0,.int .i64 0,.int .i64 0,.int .u64 0,.int .u64 0,.int .u64 0,.int .u64 0,.int .i64 0,.int .u64 0,.int .i64 0,.int .i64 0,.int .u64 0,.int .i64 0,.int .i64 0,.int .i64 0,.int .i64 0,.int .i64 0,.int .i64 0,.string ⟨#[]⟩] t8 (0,0) hg8]
      refine hK.out _ _ (blk_cell ks_26 0) (fun hHeld => ?_)
      clear hK K hg8
      (try simp only [Act.put,List.setIfInBounds_toArray,List.set_cons_zero,List.set_cons_succ,List.getElem_toArray,List.getElem_cons_succ,List.getElem_cons_zero])
      refine wpAnyH_ready (rs:=[15]) (by kernel_rfl) (by simp) ?_
      refine AllReadyH.cons rfl (fun K hK => ?_) AllReadyH.nil
      rw [if_pos (by rfl)]
      obtain ⟨t9,hg9⟩:=blk_row kt_26
      refine wp_store_row 32 (.tmp 13) (.tmp 101) rfl n20 #[.int .i64 10,.int .i64 7] rfl rfl t9 #[.int .i64 0,.int .i64 0] hg9 (by kernel_rfl) rfl (by kernel_rfl) ?_
      obtain ⟨z28,ez28⟩ : ∃ x,x = z26.setRow n20 #[.int .i64 10,.int .i64 7]:=⟨_,rfl⟩
      have kt_28 : blk z28 n20 = some #[.int .i64 10,.int .i64 7]:=(by rw [ez28];exact blk_setRow kt_26)
      have kd_28 : blk z28 y1.heap.size = some #[.int .i64 11,.int .i64 2]:=(by rw [ez28];exact (blk_kept (setRow_other z26 n20 y1.heap.size _ (by first|assumption|(apply Ne.symm;assumption)))).trans kd_26)
      have ks_28 : blk z28 n1 = some #[.int .u8 (v.toNat : Int)]:=(by rw [ez28];exact (blk_kept (setRow_other z26 n20 n1 _ (by first|assumption|(apply Ne.symm;assumption)))).trans ks_26)
      have Bz28 : Below w.heap.size w z28:=(by rw [ez28];exact below_setRowK Bz26 (by assumption) _)
      rw [← ez28]
      refine hK.out _ _ (blk_cell ks_28 0) (fun hHeld => ?_)
      clear hK K hg9 ez28
      (try simp only [Act.put,List.setIfInBounds_toArray,List.set_cons_zero,List.set_cons_succ,List.getElem_toArray,List.getElem_cons_succ,List.getElem_cons_zero])
      refine wpAnyH_done (by kernel_rfl) ?_ _
      go_wp2
      go_meet
      case rel => exact ⟨_,_,rfl,rfl,kt_28,kd_28,Bz28⟩
    refine AllReadyH.cons rfl (fun K hK => ?_) ?_
    · skip
      go_simp
      refine hK.out _ _ trivial (fun _ => ?_)
      clear hK K
      (try simp only [Act.put,List.setIfInBounds_toArray,List.set_cons_zero,List.set_cons_succ,List.getElem_toArray,List.getElem_cons_succ,List.getElem_cons_zero])
      obtain ⟨z29,ez29⟩ : ∃ x,x = v0.alloc (.cells #[.int .i64 0,.int .i64 0,.int .i64 0,.int .u64 0,.int .u64 0,.int .u64 0,.int .u64 0,.int .i64 0,.int .u64 0,.int .i64 0,.int .i64 0,.int .u64 0,.int .i64 0,.int .i64 0,.int .i64 0,.int .i64 0,.int .i64 0,.int .i64 0,.string ⟨#[]⟩] 29):=⟨_,rfl⟩
      obtain ⟨n29,en29⟩ : ∃ b,b = v0.heap.size:=⟨_,rfl⟩
      have dkd_0_29 : y1.heap.size ≠ n29:=(by rw [en29];have:=blk_lt kd_0;omega)
      have kf_29 : blk z29 n29 = some #[.int .i64 0,.int .i64 0,.int .i64 0,.int .u64 0,.int .u64 0,.int .u64 0,.int .u64 0,.int .i64 0,.int .u64 0,.int .i64 0,.int .i64 0,.int .u64 0,.int .i64 0,.int .i64 0,.int .i64 0,.int .i64 0,.int .i64 0,.int .i64 0,.string ⟨#[]⟩]:=(by rw [ez29];exact blk_alloc_new _ _ _ en29)
      have kd_29 : blk z29 y1.heap.size = some #[.int .i64 11,.int .i64 2]:=(by rw [ez29];exact blk_alloc kd_0 _)
      have Bz29 : Below w.heap.size w z29:=(by rw [ez29];exact Bv0.alloc Bv0.size _)
      have ln29 : w.heap.size ≤ n29:=(by rw [en29];exact Bv0.size)
      rw [← ez29,← en29]
      clear ez29 en29
      refine wpAnyH_ready (rs:=[5,13]) (by kernel_rfl) (by simp) ?_
      refine AllReadyH.cons rfl (fun K hK => ?_) ?_
      · skip
        go_simp
        refine hK.out _ _ trivial (fun _ => ?_)
        clear hK K
        (try simp only [Act.put,List.setIfInBounds_toArray,List.set_cons_zero,List.set_cons_succ,List.getElem_toArray,List.getElem_cons_succ,List.getElem_cons_zero])
        obtain ⟨z30,ez30⟩ : ∃ x,x = z29.alloc (.cells #[.int .u8 (v.toNat : Int)] 5):=⟨_,rfl⟩
        obtain ⟨n30,en30⟩ : ∃ b,b = z29.heap.size:=⟨_,rfl⟩
        have dkd_29_30 : y1.heap.size ≠ n30:=(by rw [en30];have:=blk_lt kd_29;omega)
        have dkf_29_30 : n29 ≠ n30:=(by rw [en30];have:=blk_lt kf_29;omega)
        have ks_30 : blk z30 n30 = some #[.int .u8 (v.toNat : Int)]:=(by rw [ez30];exact blk_alloc_new _ _ _ en30)
        have kd_30 : blk z30 y1.heap.size = some #[.int .i64 11,.int .i64 2]:=(by rw [ez30];exact blk_alloc kd_29 _)
        have kf_30 : blk z30 n29 = some #[.int .i64 0,.int .i64 0,.int .i64 0,.int .u64 0,.int .u64 0,.int .u64 0,.int .u64 0,.int .i64 0,.int .u64 0,.int .i64 0,.int .i64 0,.int .u64 0,.int .i64 0,.int .i64 0,.int .i64 0,.int .i64 0,.int .i64 0,.int .i64 0,.string ⟨#[]⟩]:=(by rw [ez30];exact blk_alloc kf_29 _)
        have Bz30 : Below w.heap.size w z30:=(by rw [ez30];exact Bz29.alloc Bz29.size _)
        have ln30 : w.heap.size ≤ n30:=(by rw [en30];exact Bz29.size)
        rw [← ez30,← en30]
        clear ez30 en30
        have cs30:=blk_cell ks_30 0
        refine wpAnyH_weaken (S2:=fun W => W.cell? ⟨n30,0,none⟩ = some (.int .u8 (v.toNat : Int))) (fun _ _ => trivial) _ _ _ _ ?_
        have hs30 : z30.cell? ⟨n30,0,none⟩ = some (.int .u8 (v.toNat : Int)):=cs30
        refine wpAnyH_take (i:=6) (oi:=_) (v:=?_) rfl (by kernel_rfl) (by kernel_rfl) (by kernel_rfl) (fun _ _ _ h => h) (Or.inl ⟨by rfl,?_⟩) (by assumption) ?_
        rotate_left
        · (intro W hSw;(try dsimp only at hSw);have hcv:=hoc.out W _ _ hSw;go_simp;(try with_reducible rfl))
        (try simp only [Act.put,List.setIfInBounds_toArray,List.set_cons_zero,List.set_cons_succ,List.getElem_toArray,List.getElem_cons_succ,List.getElem_cons_zero])
        refine wpAnyH_take (i:=7) (oi:=_) (v:=?_) rfl (by kernel_rfl) (by kernel_rfl) (by kernel_rfl) (fun _ _ _ h => h) (Or.inl ⟨by rfl,?_⟩) (by assumption) ?_
        rotate_left
        · (intro W hSw;(try dsimp only at hSw);go_simp;(try with_reducible rfl))
        (try simp only [Act.put,List.setIfInBounds_toArray,List.set_cons_zero,List.set_cons_succ,List.getElem_toArray,List.getElem_cons_succ,List.getElem_cons_zero])
        refine wpAnyH_ready (rs:=[8,13]) (by kernel_rfl) (by simp) ?_
        refine AllReadyH.cons rfl (fun K hK => ?_) ?_
        · skip
          go_simp
          go_at_call 11
          (with_reducible refine (gd2.out _ (HH.out.on Bz30) (HT.out.on Bz30)).mono ?_)
          rintro e z31 ⟨rfl,hz31⟩
          (try go_wp2_with fail)
          have kd_31 : blk z31 y1.heap.size = some #[.int .i64 11,.int .i64 2]:=blk_below hz31 kd_30
          have kf_31 : blk z31 n29 = some #[.int .i64 0,.int .i64 0,.int .i64 0,.int .u64 0,.int .u64 0,.int .u64 0,.int .u64 0,.int .i64 0,.int .u64 0,.int .i64 0,.int .i64 0,.int .u64 0,.int .i64 0,.int .i64 0,.int .i64 0,.int .i64 0,.int .i64 0,.int .i64 0,.string ⟨#[]⟩]:=blk_below hz31 kf_30
          have ks_31 : blk z31 n30 = some #[.int .u8 (v.toNat : Int)]:=blk_below hz31 ks_30
          have Bz31 : Below w.heap.size w z31:=bt Bz30 hz31
          clear hz31
          refine hK.out _ _ (blk_cell ks_31 0) (fun hHeld => ?_)
          clear hK K
          (try simp only [Act.put,List.setIfInBounds_toArray,List.set_cons_zero,List.set_cons_succ,List.getElem_toArray,List.getElem_cons_succ,List.getElem_cons_zero])
          refine wpAnyH_take (i:=9) (oi:=_) (v:=?_) rfl (by kernel_rfl) (by kernel_rfl) (by kernel_rfl) (fun _ _ _ h => h) (Or.inl ⟨by rfl,?_⟩) (by assumption) ?_
          rotate_left
          · (intro W hSw;(try dsimp only at hSw);go_simp;(try with_reducible rfl))
          (try simp only [Act.put,List.setIfInBounds_toArray,List.set_cons_zero,List.set_cons_succ,List.getElem_toArray,List.getElem_cons_succ,List.getElem_cons_zero])
          refine wpAnyH_take (i:=10) (oi:=_) (v:=?_) rfl (by kernel_rfl) (by kernel_rfl) (by kernel_rfl) (fun _ _ _ h => h) (Or.inl ⟨by rfl,?_⟩) (by assumption) ?_
          rotate_left
          · (intro W hSw;(try dsimp only at hSw);go_simp;(try with_reducible rfl))
          (try simp only [Act.put,List.setIfInBounds_toArray,List.set_cons_zero,List.set_cons_succ,List.getElem_toArray,List.getElem_cons_succ,List.getElem_cons_zero])
          refine wpAnyH_take (i:=11) (oi:=_) (v:=?_) rfl (by kernel_rfl) (by kernel_rfl) (by kernel_rfl) (fun _ _ _ h => h) (Or.inl ⟨by rfl,?_⟩) (by assumption) ?_
          rotate_left
          · (intro W hSw;(try dsimp only at hSw);go_simp;(try with_reducible rfl))
          (try simp only [Act.put,List.setIfInBounds_toArray,List.set_cons_zero,List.set_cons_succ,List.getElem_toArray,List.getElem_cons_succ,List.getElem_cons_zero])
          refine wpAnyH_ready (rs:=[13]) (by kernel_rfl) (by simp) ?_
          refine AllReadyH.cons rfl (fun K hK => ?_) AllReadyH.nil
          go_simp
          refine hK.out _ _ (blk_cell (blk_alloc ks_31 _) 0) (fun _ => ?_)
          clear hK K
          (try simp only [Act.put,List.setIfInBounds_toArray,List.set_cons_zero,List.set_cons_succ,List.getElem_toArray,List.getElem_cons_succ,List.getElem_cons_zero])
          obtain ⟨z32,ez32⟩ : ∃ x,x = z31.alloc (.cells #[.int .i64 0,.int .i64 0] 32):=⟨_,rfl⟩
          obtain ⟨n32,en32⟩ : ∃ b,b = z31.heap.size:=⟨_,rfl⟩
          have dkd_31_32 : y1.heap.size ≠ n32:=(by rw [en32];have:=blk_lt kd_31;omega)
          have dkf_31_32 : n29 ≠ n32:=(by rw [en32];have:=blk_lt kf_31;omega)
          have dks_31_32 : n30 ≠ n32:=(by rw [en32];have:=blk_lt ks_31;omega)
          have kt_32 : blk z32 n32 = some #[.int .i64 0,.int .i64 0]:=(by rw [ez32];exact blk_alloc_new _ _ _ en32)
          have kd_32 : blk z32 y1.heap.size = some #[.int .i64 11,.int .i64 2]:=(by rw [ez32];exact blk_alloc kd_31 _)
          have kf_32 : blk z32 n29 = some #[.int .i64 0,.int .i64 0,.int .i64 0,.int .u64 0,.int .u64 0,.int .u64 0,.int .u64 0,.int .i64 0,.int .u64 0,.int .i64 0,.int .i64 0,.int .u64 0,.int .i64 0,.int .i64 0,.int .i64 0,.int .i64 0,.int .i64 0,.int .i64 0,.string ⟨#[]⟩]:=(by rw [ez32];exact blk_alloc kf_31 _)
          have ks_32 : blk z32 n30 = some #[.int .u8 (v.toNat : Int)]:=(by rw [ez32];exact blk_alloc ks_31 _)
          have Bz32 : Below w.heap.size w z32:=(by rw [ez32];exact Bz31.alloc Bz31.size _)
          have ln32 : w.heap.size ≤ n32:=(by rw [en32];exact Bz31.size)
          rw [← ez32,← en32]
          clear ez32 en32
          refine wpAnyH_ready (rs:=[14]) (by kernel_rfl) (by simp) ?_
          refine AllReadyH.cons rfl (fun K hK => ?_) AllReadyH.nil
          rw [if_pos (by rfl)]
          obtain ⟨t8,hg8⟩:=blk_row kf_32
          refine wp_store_row 29 (.tmp 12) (.tmp 100) rfl n29 #[.int .i64 0,.int .i64 0,.int .i64 0,.int .u64 0,.int .u64 0,.int .u64 0,.int .u64 0,.int .i64 0,.int .u64 0,.int .i64 0,.int .i64 0,.int .u64 0,.int .i64 0,.int .i64 0,.int .i64 0,.int .i64 0,.int .i64 0,.int .i64 0,.string ⟨#[]⟩] rfl rfl t8 #[.int .i64 0,.int .i64 0,.int .i64 0,.int .u64 0,.int .u64 0,.int .u64 0,.int .u64 0,.int .i64 0,.int .u64 0,.int .i64 0,.int .i64 0,.int .u64 0,.int .i64 0,.int .i64 0,.int .i64 0,.int .i64 0,.int .i64 0,.int .i64 0,.string ⟨#[]⟩] hg8 (by kernel_rfl) rfl (by kernel_rfl) ?_
          rw [setRow_self z32 n29 #[.int .i64 0,.int .i64 0,.int .i64 0,.int .u64 0,.int .u64 0,.int .u64 0,.int .u64 0,.int .i64 0,.int .u64 0,.int .i64 0,.int .i64 0,.int .u64 0,.int .i64 0,.int .i64 0,.int .i64 0,.int .i64 0,.int .i64 0,.int .i64 0,.string ⟨#[]⟩] t8 (0,0) hg8]
          refine hK.out _ _ (blk_cell ks_32 0) (fun hHeld => ?_)
          clear hK K hg8
          (try simp only [Act.put,List.setIfInBounds_toArray,List.set_cons_zero,List.set_cons_succ,List.getElem_toArray,List.getElem_cons_succ,List.getElem_cons_zero])
          refine wpAnyH_ready (rs:=[15]) (by kernel_rfl) (by simp) ?_
          refine AllReadyH.cons rfl (fun K hK => ?_) AllReadyH.nil
          rw [if_pos (by rfl)]
          obtain ⟨t9,hg9⟩:=blk_row kt_32
          refine wp_store_row 32 (.tmp 13) (.tmp 101) rfl n32 #[.int .i64 10,.int .i64 7] rfl rfl t9 #[.int .i64 0,.int .i64 0] hg9 (by kernel_rfl) rfl (by kernel_rfl) ?_
          obtain ⟨z34,ez34⟩ : ∃ x,x = z32.setRow n32 #[.int .i64 10,.int .i64 7]:=⟨_,rfl⟩
          have kt_34 : blk z34 n32 = some #[.int .i64 10,.int .i64 7]:=(by rw [ez34];exact blk_setRow kt_32)
          have kd_34 : blk z34 y1.heap.size = some #[.int .i64 11,.int .i64 2]:=(by rw [ez34];exact (blk_kept (setRow_other z32 n32 y1.heap.size _ (by first|assumption|(apply Ne.symm;assumption)))).trans kd_32)
          have ks_34 : blk z34 n30 = some #[.int .u8 (v.toNat : Int)]:=(by rw [ez34];exact (blk_kept (setRow_other z32 n32 n30 _ (by first|assumption|(apply Ne.symm;assumption)))).trans ks_32)
          have Bz34 : Below w.heap.size w z34:=(by rw [ez34];exact below_setRowK Bz32 (by assumption) _)
          rw [← ez34]
          refine hK.out _ _ (blk_cell ks_34 0) (fun hHeld => ?_)
          clear hK K hg9 ez34
          (try simp only [Act.put,List.setIfInBounds_toArray,List.set_cons_zero,List.set_cons_succ,List.getElem_toArray,List.getElem_cons_succ,List.getElem_cons_zero])
          refine wpAnyH_done (by kernel_rfl) ?_ _
          go_wp2
          go_meet
          case rel => exact ⟨_,_,rfl,rfl,kt_34,kd_34,Bz34⟩
        refine AllReadyH.cons rfl (fun K hK => ?_) AllReadyH.nil
        go_simp
        refine hK.out _ _ (blk_cell (blk_alloc ks_30 _) 0) (fun _ => ?_)
        clear hK K
        (try simp only [Act.put,List.setIfInBounds_toArray,List.set_cons_zero,List.set_cons_succ,List.getElem_toArray,List.getElem_cons_succ,List.getElem_cons_zero])
        obtain ⟨z35,ez35⟩ : ∃ x,x = z30.alloc (.cells #[.int .i64 0,.int .i64 0] 32):=⟨_,rfl⟩
        obtain ⟨n35,en35⟩ : ∃ b,b = z30.heap.size:=⟨_,rfl⟩
        have dkd_30_35 : y1.heap.size ≠ n35:=(by rw [en35];have:=blk_lt kd_30;omega)
        have dkf_30_35 : n29 ≠ n35:=(by rw [en35];have:=blk_lt kf_30;omega)
        have dks_30_35 : n30 ≠ n35:=(by rw [en35];have:=blk_lt ks_30;omega)
        have kt_35 : blk z35 n35 = some #[.int .i64 0,.int .i64 0]:=(by rw [ez35];exact blk_alloc_new _ _ _ en35)
        have kd_35 : blk z35 y1.heap.size = some #[.int .i64 11,.int .i64 2]:=(by rw [ez35];exact blk_alloc kd_30 _)
        have kf_35 : blk z35 n29 = some #[.int .i64 0,.int .i64 0,.int .i64 0,.int .u64 0,.int .u64 0,.int .u64 0,.int .u64 0,.int .i64 0,.int .u64 0,.int .i64 0,.int .i64 0,.int .u64 0,.int .i64 0,.int .i64 0,.int .i64 0,.int .i64 0,.int .i64 0,.int .i64 0,.string ⟨#[]⟩]:=(by rw [ez35];exact blk_alloc kf_30 _)
        have ks_35 : blk z35 n30 = some #[.int .u8 (v.toNat : Int)]:=(by rw [ez35];exact blk_alloc ks_30 _)
        have Bz35 : Below w.heap.size w z35:=(by rw [ez35];exact Bz30.alloc Bz30.size _)
        have ln35 : w.heap.size ≤ n35:=(by rw [en35];exact Bz30.size)
        rw [← ez35,← en35]
        clear ez35 en35
        refine wpAnyH_ready (rs:=[8]) (by kernel_rfl) (by simp) ?_
        refine AllReadyH.cons rfl (fun K hK => ?_) AllReadyH.nil
        go_simp
        go_at_call 11
        (with_reducible refine (gd2.out _ (HH.out.on Bz35) (HT.out.on Bz35)).mono ?_)
        rintro e z36 ⟨rfl,hz36⟩
        (try go_wp2_with fail)
        have kd_36 : blk z36 y1.heap.size = some #[.int .i64 11,.int .i64 2]:=blk_below hz36 kd_35
        have kf_36 : blk z36 n29 = some #[.int .i64 0,.int .i64 0,.int .i64 0,.int .u64 0,.int .u64 0,.int .u64 0,.int .u64 0,.int .i64 0,.int .u64 0,.int .i64 0,.int .i64 0,.int .u64 0,.int .i64 0,.int .i64 0,.int .i64 0,.int .i64 0,.int .i64 0,.int .i64 0,.string ⟨#[]⟩]:=blk_below hz36 kf_35
        have ks_36 : blk z36 n30 = some #[.int .u8 (v.toNat : Int)]:=blk_below hz36 ks_35
        have kt_36 : blk z36 n35 = some #[.int .i64 0,.int .i64 0]:=blk_below hz36 kt_35
        have Bz36 : Below w.heap.size w z36:=bt Bz35 hz36
        clear hz36
        refine hK.out _ _ (blk_cell ks_36 0) (fun hHeld => ?_)
        clear hK K
        (try simp only [Act.put,List.setIfInBounds_toArray,List.set_cons_zero,List.set_cons_succ,List.getElem_toArray,List.getElem_cons_succ,List.getElem_cons_zero])
        refine wpAnyH_take (i:=9) (oi:=_) (v:=?_) rfl (by kernel_rfl) (by kernel_rfl) (by kernel_rfl) (fun _ _ _ h => h) (Or.inl ⟨by rfl,?_⟩) (by assumption) ?_
        rotate_left
        · (intro W hSw;(try dsimp only at hSw);go_simp;(try with_reducible rfl))
        (try simp only [Act.put,List.setIfInBounds_toArray,List.set_cons_zero,List.set_cons_succ,List.getElem_toArray,List.getElem_cons_succ,List.getElem_cons_zero])
        refine wpAnyH_take (i:=10) (oi:=_) (v:=?_) rfl (by kernel_rfl) (by kernel_rfl) (by kernel_rfl) (fun _ _ _ h => h) (Or.inl ⟨by rfl,?_⟩) (by assumption) ?_
        rotate_left
        · (intro W hSw;(try dsimp only at hSw);go_simp;(try with_reducible rfl))
        (try simp only [Act.put,List.setIfInBounds_toArray,List.set_cons_zero,List.set_cons_succ,List.getElem_toArray,List.getElem_cons_succ,List.getElem_cons_zero])
        refine wpAnyH_take (i:=11) (oi:=_) (v:=?_) rfl (by kernel_rfl) (by kernel_rfl) (by kernel_rfl) (fun _ _ _ h => h) (Or.inl ⟨by rfl,?_⟩) (by assumption) ?_
        rotate_left
        · (intro W hSw;(try dsimp only at hSw);go_simp;(try with_reducible rfl))
        (try simp only [Act.put,List.setIfInBounds_toArray,List.set_cons_zero,List.set_cons_succ,List.getElem_toArray,List.getElem_cons_succ,List.getElem_cons_zero])
        refine wpAnyH_ready (rs:=[14]) (by kernel_rfl) (by simp) ?_
        refine AllReadyH.cons rfl (fun K hK => ?_) AllReadyH.nil
        rw [if_pos (by rfl)]
        obtain ⟨t8,hg8⟩:=blk_row kf_36
        refine wp_store_row 29 (.tmp 12) (.tmp 100) rfl n29 #[.int .i64 0,.int .i64 0,.int .i64 0,.int .u64 0,.int .u64 0,.int .u64 0,.int .u64 0,.int .i64 0,.int .u64 0,.int .i64 0,.int .i64 0,.int .u64 0,.int .i64 0,.int .i64 0,.int .i64 0,.int .i64 0,.int .i64 0,.int .i64 0,.string ⟨#[]⟩] rfl rfl t8 #[.int .i64 0,.int .i64 0,.int .i64 0,.int .u64 0,.int .u64 0,.int .u64 0,.int .u64 0,.int .i64 0,.int .u64 0,.int .i64 0,.int .i64 0,.int .u64 0,.int .i64 0,.int .i64 0,.int .i64 0,.int .i64 0,.int .i64 0,.int .i64 0,.string ⟨#[]⟩] hg8 (by kernel_rfl) rfl (by kernel_rfl) ?_
        rw [setRow_self z36 n29 #[.int .i64 0,.int .i64 0,.int .i64 0,.int .u64 0,.int .u64 0,.int .u64 0,.int .u64 0,.int .i64 0,.int .u64 0,.int .i64 0,.int .i64 0,.int .u64 0,.int .i64 0,.int .i64 0,.int .i64 0,.int .i64 0,.int .i64 0,.int .i64 0,.string ⟨#[]⟩] t8 (0,0) hg8]
        refine hK.out _ _ (blk_cell ks_36 0) (fun hHeld => ?_)
        clear hK K hg8
        (try simp only [Act.put,List.setIfInBounds_toArray,List.set_cons_zero,List.set_cons_succ,List.getElem_toArray,List.getElem_cons_succ,List.getElem_cons_zero])
        refine wpAnyH_ready (rs:=[15]) (by kernel_rfl) (by simp) ?_
        refine AllReadyH.cons rfl (fun K hK => ?_) AllReadyH.nil
        rw [if_pos (by rfl)]
        obtain ⟨t9,hg9⟩:=blk_row kt_36
        refine wp_store_row 32 (.tmp 13) (.tmp 101) rfl n35 #[.int .i64 10,.int .i64 7] rfl rfl t9 #[.int .i64 0,.int .i64 0] hg9 (by kernel_rfl) rfl (by kernel_rfl) ?_
        obtain ⟨z38,ez38⟩ : ∃ x,x = z36.setRow n35 #[.int .i64 10,.int .i64 7]:=⟨_,rfl⟩
        have kt_38 : blk z38 n35 = some #[.int .i64 10,.int .i64 7]:=(by rw [ez38];exact blk_setRow kt_36)
        have kd_38 : blk z38 y1.heap.size = some #[.int .i64 11,.int .i64 2]:=(by rw [ez38];exact (blk_kept (setRow_other z36 n35 y1.heap.size _ (by first|assumption|(apply Ne.symm;assumption)))).trans kd_36)
        have ks_38 : blk z38 n30 = some #[.int .u8 (v.toNat : Int)]:=(by rw [ez38];exact (blk_kept (setRow_other z36 n35 n30 _ (by first|assumption|(apply Ne.symm;assumption)))).trans ks_36)
        have Bz38 : Below w.heap.size w z38:=(by rw [ez38];exact below_setRowK Bz36 (by assumption) _)
        rw [← ez38]
        refine hK.out _ _ (blk_cell ks_38 0) (fun hHeld => ?_)
        clear hK K hg9 ez38
        (try simp only [Act.put,List.setIfInBounds_toArray,List.set_cons_zero,List.set_cons_succ,List.getElem_toArray,List.getElem_cons_succ,List.getElem_cons_zero])
        refine wpAnyH_done (by kernel_rfl) ?_ _
        go_wp2
        go_meet
        case rel => exact ⟨_,_,rfl,rfl,kt_38,kd_38,Bz38⟩
      refine AllReadyH.cons rfl (fun K hK => ?_) AllReadyH.nil
      go_simp
      refine hK.out _ _ trivial (fun _ => ?_)
      clear hK K
      (try simp only [Act.put,List.setIfInBounds_toArray,List.set_cons_zero,List.set_cons_succ,List.getElem_toArray,List.getElem_cons_succ,List.getElem_cons_zero])
      obtain ⟨z39,ez39⟩ : ∃ x,x = z29.alloc (.cells #[.int .i64 0,.int .i64 0] 32):=⟨_,rfl⟩
      obtain ⟨n39,en39⟩ : ∃ b,b = z29.heap.size:=⟨_,rfl⟩
      have dkd_29_39 : y1.heap.size ≠ n39:=(by rw [en39];have:=blk_lt kd_29;omega)
      have dkf_29_39 : n29 ≠ n39:=(by rw [en39];have:=blk_lt kf_29;omega)
      have kt_39 : blk z39 n39 = some #[.int .i64 0,.int .i64 0]:=(by rw [ez39];exact blk_alloc_new _ _ _ en39)
      have kd_39 : blk z39 y1.heap.size = some #[.int .i64 11,.int .i64 2]:=(by rw [ez39];exact blk_alloc kd_29 _)
      have kf_39 : blk z39 n29 = some #[.int .i64 0,.int .i64 0,.int .i64 0,.int .u64 0,.int .u64 0,.int .u64 0,.int .u64 0,.int .i64 0,.int .u64 0,.int .i64 0,.int .i64 0,.int .u64 0,.int .i64 0,.int .i64 0,.int .i64 0,.int .i64 0,.int .i64 0,.int .i64 0,.string ⟨#[]⟩]:=(by rw [ez39];exact blk_alloc kf_29 _)
      have Bz39 : Below w.heap.size w z39:=(by rw [ez39];exact Bz29.alloc Bz29.size _)
      have ln39 : w.heap.size ≤ n39:=(by rw [en39];exact Bz29.size)
      rw [← ez39,← en39]
      clear ez39 en39
      refine wpAnyH_ready (rs:=[5]) (by kernel_rfl) (by simp) ?_
      refine AllReadyH.cons rfl (fun K hK => ?_) AllReadyH.nil
      go_simp
      refine hK.out _ _ trivial (fun _ => ?_)
      clear hK K
      (try simp only [Act.put,List.setIfInBounds_toArray,List.set_cons_zero,List.set_cons_succ,List.getElem_toArray,List.getElem_cons_succ,List.getElem_cons_zero])
      obtain ⟨z40,ez40⟩ : ∃ x,x = z39.alloc (.cells #[.int .u8 (v.toNat : Int)] 5):=⟨_,rfl⟩
      obtain ⟨n40,en40⟩ : ∃ b,b = z39.heap.size:=⟨_,rfl⟩
      have dkd_39_40 : y1.heap.size ≠ n40:=(by rw [en40];have:=blk_lt kd_39;omega)
      have dkf_39_40 : n29 ≠ n40:=(by rw [en40];have:=blk_lt kf_39;omega)
      have dkt_39_40 : n39 ≠ n40:=(by rw [en40];have:=blk_lt kt_39;omega)
      have ks_40 : blk z40 n40 = some #[.int .u8 (v.toNat : Int)]:=(by rw [ez40];exact blk_alloc_new _ _ _ en40)
      have kd_40 : blk z40 y1.heap.size = some #[.int .i64 11,.int .i64 2]:=(by rw [ez40];exact blk_alloc kd_39 _)
      have kf_40 : blk z40 n29 = some #[.int .i64 0,.int .i64 0,.int .i64 0,.int .u64 0,.int .u64 0,.int .u64 0,.int .u64 0,.int .i64 0,.int .u64 0,.int .i64 0,.int .i64 0,.int .u64 0,.int .i64 0,.int .i64 0,.int .i64 0,.int .i64 0,.int .i64 0,.int .i64 0,.string ⟨#[]⟩]:=(by rw [ez40];exact blk_alloc kf_39 _)
      have kt_40 : blk z40 n39 = some #[.int .i64 0,.int .i64 0]:=(by rw [ez40];exact blk_alloc kt_39 _)
      have Bz40 : Below w.heap.size w z40:=(by rw [ez40];exact Bz39.alloc Bz39.size _)
      have ln40 : w.heap.size ≤ n40:=(by rw [en40];exact Bz39.size)
      rw [← ez40,← en40]
      clear ez40 en40
      have cs40:=blk_cell ks_40 0
      refine wpAnyH_weaken (S2:=fun W => W.cell? ⟨n40,0,none⟩ = some (.int .u8 (v.toNat : Int))) (fun _ _ => trivial) _ _ _ _ ?_
      have hs40 : z40.cell? ⟨n40,0,none⟩ = some (.int .u8 (v.toNat : Int)):=cs40
      refine wpAnyH_take (i:=6) (oi:=_) (v:=?_) rfl (by kernel_rfl) (by kernel_rfl) (by kernel_rfl) (fun _ _ _ h => h) (Or.inl ⟨by rfl,?_⟩) (by assumption) ?_
      rotate_left
      · (intro W hSw;(try dsimp only at hSw);have hcv:=hoc.out W _ _ hSw;go_simp;(try with_reducible rfl))
      (try simp only [Act.put,List.setIfInBounds_toArray,List.set_cons_zero,List.set_cons_succ,List.getElem_toArray,List.getElem_cons_succ,List.getElem_cons_zero])
      refine wpAnyH_take (i:=7) (oi:=_) (v:=?_) rfl (by kernel_rfl) (by kernel_rfl) (by kernel_rfl) (fun _ _ _ h => h) (Or.inl ⟨by rfl,?_⟩) (by assumption) ?_
      rotate_left
      · (intro W hSw;(try dsimp only at hSw);go_simp;(try with_reducible rfl))
      (try simp only [Act.put,List.setIfInBounds_toArray,List.set_cons_zero,List.set_cons_succ,List.getElem_toArray,List.getElem_cons_succ,List.getElem_cons_zero])
      refine wpAnyH_ready (rs:=[8]) (by kernel_rfl) (by simp) ?_
      refine AllReadyH.cons rfl (fun K hK => ?_) AllReadyH.nil
      go_simp
      go_at_call 11
      (with_reducible refine (gd2.out _ (HH.out.on Bz40) (HT.out.on Bz40)).mono ?_)
      rintro e z41 ⟨rfl,hz41⟩
      (try go_wp2_with fail)
      have kd_41 : blk z41 y1.heap.size = some #[.int .i64 11,.int .i64 2]:=blk_below hz41 kd_40
      have kf_41 : blk z41 n29 = some #[.int .i64 0,.int .i64 0,.int .i64 0,.int .u64 0,.int .u64 0,.int .u64 0,.int .u64 0,.int .i64 0,.int .u64 0,.int .i64 0,.int .i64 0,.int .u64 0,.int .i64 0,.int .i64 0,.int .i64 0,.int .i64 0,.int .i64 0,.int .i64 0,.string ⟨#[]⟩]:=blk_below hz41 kf_40
      have kt_41 : blk z41 n39 = some #[.int .i64 0,.int .i64 0]:=blk_below hz41 kt_40
      have ks_41 : blk z41 n40 = some #[.int .u8 (v.toNat : Int)]:=blk_below hz41 ks_40
      have Bz41 : Below w.heap.size w z41:=bt Bz40 hz41
      clear hz41
      refine hK.out _ _ (blk_cell ks_41 0) (fun hHeld => ?_)
      clear hK K
      (try simp only [Act.put,List.setIfInBounds_toArray,List.set_cons_zero,List.set_cons_succ,List.getElem_toArray,List.getElem_cons_succ,List.getElem_cons_zero])
      refine wpAnyH_take (i:=9) (oi:=_) (v:=?_) rfl (by kernel_rfl) (by kernel_rfl) (by kernel_rfl) (fun _ _ _ h => h) (Or.inl ⟨by rfl,?_⟩) (by assumption) ?_
      rotate_left
      · (intro W hSw;(try dsimp only at hSw);go_simp;(try with_reducible rfl))
      (try simp only [Act.put,List.setIfInBounds_toArray,List.set_cons_zero,List.set_cons_succ,List.getElem_toArray,List.getElem_cons_succ,List.getElem_cons_zero])
      refine wpAnyH_take (i:=10) (oi:=_) (v:=?_) rfl (by kernel_rfl) (by kernel_rfl) (by kernel_rfl) (fun _ _ _ h => h) (Or.inl ⟨by rfl,?_⟩) (by assumption) ?_
      rotate_left
      · (intro W hSw;(try dsimp only at hSw);go_simp;(try with_reducible rfl))
      (try simp only [Act.put,List.setIfInBounds_toArray,List.set_cons_zero,List.set_cons_succ,List.getElem_toArray,List.getElem_cons_succ,List.getElem_cons_zero])
      refine wpAnyH_take (i:=11) (oi:=_) (v:=?_) rfl (by kernel_rfl) (by kernel_rfl) (by kernel_rfl) (fun _ _ _ h => h) (Or.inl ⟨by rfl,?_⟩) (by assumption) ?_
      rotate_left
      · (intro W hSw;(try dsimp only at hSw);go_simp;(try with_reducible rfl))
      (try simp only [Act.put,List.setIfInBounds_toArray,List.set_cons_zero,List.set_cons_succ,List.getElem_toArray,List.getElem_cons_succ,List.getElem_cons_zero])
      refine wpAnyH_ready (rs:=[14]) (by kernel_rfl) (by simp) ?_
      refine AllReadyH.cons rfl (fun K hK => ?_) AllReadyH.nil
      rw [if_pos (by rfl)]
      obtain ⟨t8,hg8⟩:=blk_row kf_41
      refine wp_store_row 29 (.tmp 12) (.tmp 100) rfl n29 #[.int .i64 0,.int .i64 0,.int .i64 0,.int .u64 0,.int .u64 0,.int .u64 0,.int .u64 0,.int .i64 0,.int .u64 0,.int .i64 0,.int .i64 0,.int .u64 0,.int .i64 0,.int .i64 0,.int .i64 0,.int .i64 0,.int .i64 0,.int .i64 0,.string ⟨#[]⟩] rfl rfl t8 #[.int .i64 0,.int .i64 0,.int .i64 0,.int .u64 0,.int .u64 0,.int .u64 0,.int .u64 0,.int .i64 0,.int .u64 0,.int .i64 0,.int .i64 0,.int .u64 0,.int .i64 0,.int .i64 0,.int .i64 0,.int .i64 0,.int .i64 0,.int .i64 0,.string ⟨#[]⟩] hg8 (by kernel_rfl) rfl (by kernel_rfl) ?_
      rw [setRow_self z41 n29 #[.int .i64 0,.int .i64 0,.int .i64 0,.int .u64 0,.int .u64 0,.int .u64 0,.int .u64 0,.int .i64 0,.int .u64 0,.int .i64 0,.int .i64 0,.int .u64 0,.int .i64 0,.int .i64 0,.int .i64 0,.int .i64 0,.int .i64 0,.int .i64 0,.string ⟨#[]⟩] t8 (0,0) hg8]
      refine hK.out _ _ (blk_cell ks_41 0) (fun hHeld => ?_)
      clear hK K hg8
      (try simp only [Act.put,List.setIfInBounds_toArray,List.set_cons_zero,List.set_cons_succ,List.getElem_toArray,List.getElem_cons_succ,List.getElem_cons_zero])
      refine wpAnyH_ready (rs:=[15]) (by kernel_rfl) (by simp) ?_
      refine AllReadyH.cons rfl (fun K hK => ?_) AllReadyH.nil
      rw [if_pos (by rfl)]
      obtain ⟨t9,hg9⟩:=blk_row kt_41
      refine wp_store_row 32 (.tmp 13) (.tmp 101) rfl n39 #[.int .i64 10,.int .i64 7] rfl rfl t9 #[.int .i64 0,.int .i64 0] hg9 (by kernel_rfl) rfl (by kernel_rfl) ?_
      obtain ⟨z43,ez43⟩ : ∃ x,x = z41.setRow n39 #[.int .i64 10,.int .i64 7]:=⟨_,rfl⟩
      have kt_43 : blk z43 n39 = some #[.int .i64 10,.int .i64 7]:=(by rw [ez43];exact blk_setRow kt_41)
      have kd_43 : blk z43 y1.heap.size = some #[.int .i64 11,.int .i64 2]:=(by rw [ez43];exact (blk_kept (setRow_other z41 n39 y1.heap.size _ (by first|assumption|(apply Ne.symm;assumption)))).trans kd_41)
      have ks_43 : blk z43 n40 = some #[.int .u8 (v.toNat : Int)]:=(by rw [ez43];exact (blk_kept (setRow_other z41 n39 n40 _ (by first|assumption|(apply Ne.symm;assumption)))).trans ks_41)
      have Bz43 : Below w.heap.size w z43:=(by rw [ez43];exact below_setRowK Bz41 (by assumption) _)
      rw [← ez43]
      refine hK.out _ _ (blk_cell ks_43 0) (fun hHeld => ?_)
      clear hK K hg9 ez43
      (try simp only [Act.put,List.setIfInBounds_toArray,List.set_cons_zero,List.set_cons_succ,List.getElem_toArray,List.getElem_cons_succ,List.getElem_cons_zero])
      refine wpAnyH_done (by kernel_rfl) ?_ _
      go_wp2
      go_meet
      case rel => exact ⟨_,_,rfl,rfl,kt_43,kd_43,Bz43⟩
    refine AllReadyH.cons rfl (fun K hK => ?_) AllReadyH.nil
    go_simp
    refine hK.out _ _ trivial (fun _ => ?_)
    clear hK K
    (try simp only [Act.put,List.setIfInBounds_toArray,List.set_cons_zero,List.set_cons_succ,List.getElem_toArray,List.getElem_cons_succ,List.getElem_cons_zero])
    obtain ⟨z44,ez44⟩ : ∃ x,x = v0.alloc (.cells #[.int .i64 0,.int .i64 0] 32):=⟨_,rfl⟩
    obtain ⟨n44,en44⟩ : ∃ b,b = v0.heap.size:=⟨_,rfl⟩
    have dkd_0_44 : y1.heap.size ≠ n44:=(by rw [en44];have:=blk_lt kd_0;omega)
    have kt_44 : blk z44 n44 = some #[.int .i64 0,.int .i64 0]:=(by rw [ez44];exact blk_alloc_new _ _ _ en44)
    have kd_44 : blk z44 y1.heap.size = some #[.int .i64 11,.int .i64 2]:=(by rw [ez44];exact blk_alloc kd_0 _)
    have Bz44 : Below w.heap.size w z44:=(by rw [ez44];exact Bv0.alloc Bv0.size _)
    have ln44 : w.heap.size ≤ n44:=(by rw [en44];exact Bv0.size)
    rw [← ez44,← en44]
    clear ez44 en44
    refine wpAnyH_ready (rs:=[5,12]) (by kernel_rfl) (by simp) ?_
    refine AllReadyH.cons rfl (fun K hK => ?_) ?_
    · skip
      go_simp
      refine hK.out _ _ trivial (fun _ => ?_)
      clear hK K
      (try simp only [Act.put,List.setIfInBounds_toArray,List.set_cons_zero,List.set_cons_succ,List.getElem_toArray,List.getElem_cons_succ,List.getElem_cons_zero])
      obtain ⟨z45,ez45⟩ : ∃ x,x = z44.alloc (.cells #[.int .u8 (v.toNat : Int)] 5):=⟨_,rfl⟩
      obtain ⟨n45,en45⟩ : ∃ b,b = z44.heap.size:=⟨_,rfl⟩
      have dkd_44_45 : y1.heap.size ≠ n45:=(by rw [en45];have:=blk_lt kd_44;omega)
      have dkt_44_45 : n44 ≠ n45:=(by rw [en45];have:=blk_lt kt_44;omega)
      have ks_45 : blk z45 n45 = some #[.int .u8 (v.toNat : Int)]:=(by rw [ez45];exact blk_alloc_new _ _ _ en45)
      have kd_45 : blk z45 y1.heap.size = some #[.int .i64 11,.int .i64 2]:=(by rw [ez45];exact blk_alloc kd_44 _)
      have kt_45 : blk z45 n44 = some #[.int .i64 0,.int .i64 0]:=(by rw [ez45];exact blk_alloc kt_44 _)
      have Bz45 : Below w.heap.size w z45:=(by rw [ez45];exact Bz44.alloc Bz44.size _)
      have ln45 : w.heap.size ≤ n45:=(by rw [en45];exact Bz44.size)
      rw [← ez45,← en45]
      clear ez45 en45
      have cs45:=blk_cell ks_45 0
      refine wpAnyH_weaken (S2:=fun W => W.cell? ⟨n45,0,none⟩ = some (.int .u8 (v.toNat : Int))) (fun _ _ => trivial) _ _ _ _ ?_
      have hs45 : z45.cell? ⟨n45,0,none⟩ = some (.int .u8 (v.toNat : Int)):=cs45
      refine wpAnyH_take (i:=6) (oi:=_) (v:=?_) rfl (by kernel_rfl) (by kernel_rfl) (by kernel_rfl) (fun _ _ _ h => h) (Or.inl ⟨by rfl,?_⟩) (by assumption) ?_
      rotate_left
      · (intro W hSw;(try dsimp only at hSw);have hcv:=hoc.out W _ _ hSw;go_simp;(try with_reducible rfl))
      (try simp only [Act.put,List.setIfInBounds_toArray,List.set_cons_zero,List.set_cons_succ,List.getElem_toArray,List.getElem_cons_succ,List.getElem_cons_zero])
      refine wpAnyH_take (i:=7) (oi:=_) (v:=?_) rfl (by kernel_rfl) (by kernel_rfl) (by kernel_rfl) (fun _ _ _ h => h) (Or.inl ⟨by rfl,?_⟩) (by assumption) ?_
      rotate_left
      · (intro W hSw;(try dsimp only at hSw);go_simp;(try with_reducible rfl))
      (try simp only [Act.put,List.setIfInBounds_toArray,List.set_cons_zero,List.set_cons_succ,List.getElem_toArray,List.getElem_cons_succ,List.getElem_cons_zero])
      refine wpAnyH_ready (rs:=[8,12]) (by kernel_rfl) (by simp) ?_
      refine AllReadyH.cons rfl (fun K hK => ?_) ?_
      · skip
        go_simp
        go_at_call 11
        (with_reducible refine (gd2.out _ (HH.out.on Bz45) (HT.out.on Bz45)).mono ?_)
        rintro e z46 ⟨rfl,hz46⟩
        (try go_wp2_with fail)
        have kd_46 : blk z46 y1.heap.size = some #[.int .i64 11,.int .i64 2]:=blk_below hz46 kd_45
        have kt_46 : blk z46 n44 = some #[.int .i64 0,.int .i64 0]:=blk_below hz46 kt_45
        have ks_46 : blk z46 n45 = some #[.int .u8 (v.toNat : Int)]:=blk_below hz46 ks_45
        have Bz46 : Below w.heap.size w z46:=bt Bz45 hz46
        clear hz46
        refine hK.out _ _ (blk_cell ks_46 0) (fun hHeld => ?_)
        clear hK K
        (try simp only [Act.put,List.setIfInBounds_toArray,List.set_cons_zero,List.set_cons_succ,List.getElem_toArray,List.getElem_cons_succ,List.getElem_cons_zero])
        refine wpAnyH_take (i:=9) (oi:=_) (v:=?_) rfl (by kernel_rfl) (by kernel_rfl) (by kernel_rfl) (fun _ _ _ h => h) (Or.inl ⟨by rfl,?_⟩) (by assumption) ?_
        rotate_left
        · (intro W hSw;(try dsimp only at hSw);go_simp;(try with_reducible rfl))
        (try simp only [Act.put,List.setIfInBounds_toArray,List.set_cons_zero,List.set_cons_succ,List.getElem_toArray,List.getElem_cons_succ,List.getElem_cons_zero])
        refine wpAnyH_take (i:=10) (oi:=_) (v:=?_) rfl (by kernel_rfl) (by kernel_rfl) (by kernel_rfl) (fun _ _ _ h => h) (Or.inl ⟨by rfl,?_⟩) (by assumption) ?_
        rotate_left
        · (intro W hSw;(try dsimp only at hSw);go_simp;(try with_reducible rfl))
        (try simp only [Act.put,List.setIfInBounds_toArray,List.set_cons_zero,List.set_cons_succ,List.getElem_toArray,List.getElem_cons_succ,List.getElem_cons_zero])
        refine wpAnyH_take (i:=11) (oi:=_) (v:=?_) rfl (by kernel_rfl) (by kernel_rfl) (by kernel_rfl) (fun _ _ _ h => h) (Or.inl ⟨by rfl,?_⟩) (by assumption) ?_
        rotate_left
        · (intro W hSw;(try dsimp only at hSw);go_simp;(try with_reducible rfl))
        (try simp only [Act.put,List.setIfInBounds_toArray,List.set_cons_zero,List.set_cons_succ,List.getElem_toArray,List.getElem_cons_succ,List.getElem_cons_zero])
        refine wpAnyH_ready (rs:=[12]) (by kernel_rfl) (by simp) ?_
        refine AllReadyH.cons rfl (fun K hK => ?_) AllReadyH.nil
        go_simp
        refine hK.out _ _ (blk_cell (blk_alloc ks_46 _) 0) (fun _ => ?_)
        clear hK K
        (try simp only [Act.put,List.setIfInBounds_toArray,List.set_cons_zero,List.set_cons_succ,List.getElem_toArray,List.getElem_cons_succ,List.getElem_cons_zero])
        obtain ⟨z47,ez47⟩ : ∃ x,x = z46.alloc (.cells #[.int .i64 0,.int .i64 0,.int .i64 0,.int .u64 0,.int .u64 0,.int .u64 0,.int .u64 0,.int .i64 0,.int .u64 0,.int .i64 0,.int .i64 0,.int .u64 0,.int .i64 0,.int .i64 0,.int .i64 0,.int .i64 0,.int .i64 0,.int .i64 0,.string ⟨#[]⟩] 29):=⟨_,rfl⟩
        obtain ⟨n47,en47⟩ : ∃ b,b = z46.heap.size:=⟨_,rfl⟩
        have dkd_46_47 : y1.heap.size ≠ n47:=(by rw [en47];have:=blk_lt kd_46;omega)
        have dkt_46_47 : n44 ≠ n47:=(by rw [en47];have:=blk_lt kt_46;omega)
        have dks_46_47 : n45 ≠ n47:=(by rw [en47];have:=blk_lt ks_46;omega)
        have kf_47 : blk z47 n47 = some #[.int .i64 0,.int .i64 0,.int .i64 0,.int .u64 0,.int .u64 0,.int .u64 0,.int .u64 0,.int .i64 0,.int .u64 0,.int .i64 0,.int .i64 0,.int .u64 0,.int .i64 0,.int .i64 0,.int .i64 0,.int .i64 0,.int .i64 0,.int .i64 0,.string ⟨#[]⟩]:=(by rw [ez47];exact blk_alloc_new _ _ _ en47)
        have kd_47 : blk z47 y1.heap.size = some #[.int .i64 11,.int .i64 2]:=(by rw [ez47];exact blk_alloc kd_46 _)
        have kt_47 : blk z47 n44 = some #[.int .i64 0,.int .i64 0]:=(by rw [ez47];exact blk_alloc kt_46 _)
        have ks_47 : blk z47 n45 = some #[.int .u8 (v.toNat : Int)]:=(by rw [ez47];exact blk_alloc ks_46 _)
        have Bz47 : Below w.heap.size w z47:=(by rw [ez47];exact Bz46.alloc Bz46.size _)
        have ln47 : w.heap.size ≤ n47:=(by rw [en47];exact Bz46.size)
        rw [← ez47,← en47]
        clear ez47 en47
        refine wpAnyH_ready (rs:=[14]) (by kernel_rfl) (by simp) ?_
        refine AllReadyH.cons rfl (fun K hK => ?_) AllReadyH.nil
        rw [if_pos (by rfl)]
        obtain ⟨t8,hg8⟩:=blk_row kf_47
        refine wp_store_row 29 (.tmp 12) (.tmp 100) rfl n47 #[.int .i64 0,.int .i64 0,.int .i64 0,.int .u64 0,.int .u64 0,.int .u64 0,.int .u64 0,.int .i64 0,.int .u64 0,.int .i64 0,.int .i64 0,.int .u64 0,.int .i64 0,.int .i64 0,.int .i64 0,.int .i64 0,.int .i64 0,.int .i64 0,.string ⟨#[]⟩] rfl rfl t8 #[.int .i64 0,.int .i64 0,.int .i64 0,.int .u64 0,.int .u64 0,.int .u64 0,.int .u64 0,.int .i64 0,.int .u64 0,.int .i64 0,.int .i64 0,.int .u64 0,.int .i64 0,.int .i64 0,.int .i64 0,.int .i64 0,.int .i64 0,.int .i64 0,.string ⟨#[]⟩] hg8 (by kernel_rfl) rfl (by kernel_rfl) ?_
        rw [setRow_self z47 n47 #[.int .i64 0,.int .i64 0,.int .i64 0,.int .u64 0,.int .u64 0,.int .u64 0,.int .u64 0,.int .i64 0,.int .u64 0,.int .i64 0,.int .i64 0,.int .u64 0,.int .i64 0,.int .i64 0,.int .i64 0,.int .i64 0,.int .i64 0,.int .i64 0,.string ⟨#[]⟩] t8 (0,0) hg8]
        refine hK.out _ _ (blk_cell ks_47 0) (fun hHeld => ?_)
        clear hK K hg8
        (try simp only [Act.put,List.setIfInBounds_toArray,List.set_cons_zero,List.set_cons_succ,List.getElem_toArray,List.getElem_cons_succ,List.getElem_cons_zero])
        refine wpAnyH_ready (rs:=[15]) (by kernel_rfl) (by simp) ?_
        refine AllReadyH.cons rfl (fun K hK => ?_) AllReadyH.nil
        rw [if_pos (by rfl)]
        obtain ⟨t9,hg9⟩:=blk_row kt_47
        refine wp_store_row 32 (.tmp 13) (.tmp 101) rfl n44 #[.int .i64 10,.int .i64 7] rfl rfl t9 #[.int .i64 0,.int .i64 0] hg9 (by kernel_rfl) rfl (by kernel_rfl) ?_
        obtain ⟨z49,ez49⟩ : ∃ x,x = z47.setRow n44 #[.int .i64 10,.int .i64 7]:=⟨_,rfl⟩
        have kt_49 : blk z49 n44 = some #[.int .i64 10,.int .i64 7]:=(by rw [ez49];exact blk_setRow kt_47)
        have kd_49 : blk z49 y1.heap.size = some #[.int .i64 11,.int .i64 2]:=(by rw [ez49];exact (blk_kept (setRow_other z47 n44 y1.heap.size _ (by first|assumption|(apply Ne.symm;assumption)))).trans kd_47)
        have ks_49 : blk z49 n45 = some #[.int .u8 (v.toNat : Int)]:=(by rw [ez49];exact (blk_kept (setRow_other z47 n44 n45 _ (by first|assumption|(apply Ne.symm;assumption)))).trans ks_47)
        have Bz49 : Below w.heap.size w z49:=(by rw [ez49];exact below_setRowK Bz47 (by assumption) _)
        rw [← ez49]
        refine hK.out _ _ (blk_cell ks_49 0) (fun hHeld => ?_)
        clear hK K hg9 ez49
        (try simp only [Act.put,List.setIfInBounds_toArray,List.set_cons_zero,List.set_cons_succ,List.getElem_toArray,List.getElem_cons_succ,List.getElem_cons_zero])
        refine wpAnyH_done (by kernel_rfl) ?_ _
        go_wp2
        go_meet
        case rel => exact ⟨_,_,rfl,rfl,kt_49,kd_49,Bz49⟩
      refine AllReadyH.cons rfl (fun K hK => ?_) AllReadyH.nil
      go_simp
      refine hK.out _ _ (blk_cell (blk_alloc ks_45 _) 0) (fun _ => ?_)
      clear hK K
      (try simp only [Act.put,List.setIfInBounds_toArray,List.set_cons_zero,List.set_cons_succ,List.getElem_toArray,List.getElem_cons_succ,List.getElem_cons_zero])
      obtain ⟨z50,ez50⟩ : ∃ x,x = z45.alloc (.cells #[.int .i64 0,.int .i64 0,.int .i64 0,.int .u64 0,.int .u64 0,.int .u64 0,.int .u64 0,.int .i64 0,.int .u64 0,.int .i64 0,.int .i64 0,.int .u64 0,.int .i64 0,.int .i64 0,.int .i64 0,.int .i64 0,.int .i64 0,.int .i64 0,.string ⟨#[]⟩] 29):=⟨_,rfl⟩
      obtain ⟨n50,en50⟩ : ∃ b,b = z45.heap.size:=⟨_,rfl⟩
      have dkd_45_50 : y1.heap.size ≠ n50:=(by rw [en50];have:=blk_lt kd_45;omega)
      have dkt_45_50 : n44 ≠ n50:=(by rw [en50];have:=blk_lt kt_45;omega)
      have dks_45_50 : n45 ≠ n50:=(by rw [en50];have:=blk_lt ks_45;omega)
      have kf_50 : blk z50 n50 = some #[.int .i64 0,.int .i64 0,.int .i64 0,.int .u64 0,.int .u64 0,.int .u64 0,.int .u64 0,.int .i64 0,.int .u64 0,.int .i64 0,.int .i64 0,.int .u64 0,.int .i64 0,.int .i64 0,.int .i64 0,.int .i64 0,.int .i64 0,.int .i64 0,.string ⟨#[]⟩]:=(by rw [ez50];exact blk_alloc_new _ _ _ en50)
      have kd_50 : blk z50 y1.heap.size = some #[.int .i64 11,.int .i64 2]:=(by rw [ez50];exact blk_alloc kd_45 _)
      have kt_50 : blk z50 n44 = some #[.int .i64 0,.int .i64 0]:=(by rw [ez50];exact blk_alloc kt_45 _)
      have ks_50 : blk z50 n45 = some #[.int .u8 (v.toNat : Int)]:=(by rw [ez50];exact blk_alloc ks_45 _)
      have Bz50 : Below w.heap.size w z50:=(by rw [ez50];exact Bz45.alloc Bz45.size _)
      have ln50 : w.heap.size ≤ n50:=(by rw [en50];exact Bz45.size)
      rw [← ez50,← en50]
      clear ez50 en50
      refine wpAnyH_ready (rs:=[8]) (by kernel_rfl) (by simp) ?_
      refine AllReadyH.cons rfl (fun K hK => ?_) AllReadyH.nil
      go_simp
      go_at_call 11
      (with_reducible refine (gd2.out _ (HH.out.on Bz50) (HT.out.on Bz50)).mono ?_)
      rintro e z51 ⟨rfl,hz51⟩
      (try go_wp2_with fail)
      have kd_51 : blk z51 y1.heap.size = some #[.int .i64 11,.int .i64 2]:=blk_below hz51 kd_50
      have kt_51 : blk z51 n44 = some #[.int .i64 0,.int .i64 0]:=blk_below hz51 kt_50
      have ks_51 : blk z51 n45 = some #[.int .u8 (v.toNat : Int)]:=blk_below hz51 ks_50
      have kf_51 : blk z51 n50 = some #[.int .i64 0,.int .i64 0,.int .i64 0,.int .u64 0,.int .u64 0,.int .u64 0,.int .u64 0,.int .i64 0,.int .u64 0,.int .i64 0,.int .i64 0,.int .u64 0,.int .i64 0,.int .i64 0,.int .i64 0,.int .i64 0,.int .i64 0,.int .i64 0,.string ⟨#[]⟩]:=blk_below hz51 kf_50
      have Bz51 : Below w.heap.size w z51:=bt Bz50 hz51
      clear hz51
      refine hK.out _ _ (blk_cell ks_51 0) (fun hHeld => ?_)
      clear hK K
      (try simp only [Act.put,List.setIfInBounds_toArray,List.set_cons_zero,List.set_cons_succ,List.getElem_toArray,List.getElem_cons_succ,List.getElem_cons_zero])
      refine wpAnyH_take (i:=9) (oi:=_) (v:=?_) rfl (by kernel_rfl) (by kernel_rfl) (by kernel_rfl) (fun _ _ _ h => h) (Or.inl ⟨by rfl,?_⟩) (by assumption) ?_
      rotate_left
      · (intro W hSw;(try dsimp only at hSw);go_simp;(try with_reducible rfl))
      (try simp only [Act.put,List.setIfInBounds_toArray,List.set_cons_zero,List.set_cons_succ,List.getElem_toArray,List.getElem_cons_succ,List.getElem_cons_zero])
      refine wpAnyH_take (i:=10) (oi:=_) (v:=?_) rfl (by kernel_rfl) (by kernel_rfl) (by kernel_rfl) (fun _ _ _ h => h) (Or.inl ⟨by rfl,?_⟩) (by assumption) ?_
      rotate_left
      · (intro W hSw;(try dsimp only at hSw);go_simp;(try with_reducible rfl))
      (try simp only [Act.put,List.setIfInBounds_toArray,List.set_cons_zero,List.set_cons_succ,List.getElem_toArray,List.getElem_cons_succ,List.getElem_cons_zero])
      refine wpAnyH_take (i:=11) (oi:=_) (v:=?_) rfl (by kernel_rfl) (by kernel_rfl) (by kernel_rfl) (fun _ _ _ h => h) (Or.inl ⟨by rfl,?_⟩) (by assumption) ?_
      rotate_left
      · (intro W hSw;(try dsimp only at hSw);go_simp;(try with_reducible rfl))
      (try simp only [Act.put,List.setIfInBounds_toArray,List.set_cons_zero,List.set_cons_succ,List.getElem_toArray,List.getElem_cons_succ,List.getElem_cons_zero])
      refine wpAnyH_ready (rs:=[14]) (by kernel_rfl) (by simp) ?_
      refine AllReadyH.cons rfl (fun K hK => ?_) AllReadyH.nil
      rw [if_pos (by rfl)]
      obtain ⟨t8,hg8⟩:=blk_row kf_51
      refine wp_store_row 29 (.tmp 12) (.tmp 100) rfl n50 #[.int .i64 0,.int .i64 0,.int .i64 0,.int .u64 0,.int .u64 0,.int .u64 0,.int .u64 0,.int .i64 0,.int .u64 0,.int .i64 0,.int .i64 0,.int .u64 0,.int .i64 0,.int .i64 0,.int .i64 0,.int .i64 0,.int .i64 0,.int .i64 0,.string ⟨#[]⟩] rfl rfl t8 #[.int .i64 0,.int .i64 0,.int .i64 0,.int .u64 0,.int .u64 0,.int .u64 0,.int .u64 0,.int .i64 0,.int .u64 0,.int .i64 0,.int .i64 0,.int .u64 0,.int .i64 0,.int .i64 0,.int .i64 0,.int .i64 0,.int .i64 0,.int .i64 0,.string ⟨#[]⟩] hg8 (by kernel_rfl) rfl (by kernel_rfl) ?_
      rw [setRow_self z51 n50 #[.int .i64 0,.int .i64 0,.int .i64 0,.int .u64 0,.int .u64 0,.int .u64 0,.int .u64 0,.int .i64 0,.int .u64 0,.int .i64 0,.int .i64 0,.int .u64 0,.int .i64 0,.int .i64 0,.int .i64 0,.int .i64 0,.int .i64 0,.int .i64 0,.string ⟨#[]⟩] t8 (0,0) hg8]
      refine hK.out _ _ (blk_cell ks_51 0) (fun hHeld => ?_)
      clear hK K hg8
      (try simp only [Act.put,List.setIfInBounds_toArray,List.set_cons_zero,List.set_cons_succ,List.getElem_toArray,List.getElem_cons_succ,List.getElem_cons_zero])
      refine wpAnyH_ready (rs:=[15]) (by kernel_rfl) (by simp) ?_
      refine AllReadyH.cons rfl (fun K hK => ?_) AllReadyH.nil
      rw [if_pos (by rfl)]
      obtain ⟨t9,hg9⟩:=blk_row kt_51
      refine wp_store_row 32 (.tmp 13) (.tmp 101) rfl n44 #[.int .i64 10,.int .i64 7] rfl rfl t9 #[.int .i64 0,.int .i64 0] hg9 (by kernel_rfl) rfl (by kernel_rfl) ?_
      obtain ⟨z53,ez53⟩ : ∃ x,x = z51.setRow n44 #[.int .i64 10,.int .i64 7]:=⟨_,rfl⟩
      have kt_53 : blk z53 n44 = some #[.int .i64 10,.int .i64 7]:=(by rw [ez53];exact blk_setRow kt_51)
      have kd_53 : blk z53 y1.heap.size = some #[.int .i64 11,.int .i64 2]:=(by rw [ez53];exact (blk_kept (setRow_other z51 n44 y1.heap.size _ (by first|assumption|(apply Ne.symm;assumption)))).trans kd_51)
      have ks_53 : blk z53 n45 = some #[.int .u8 (v.toNat : Int)]:=(by rw [ez53];exact (blk_kept (setRow_other z51 n44 n45 _ (by first|assumption|(apply Ne.symm;assumption)))).trans ks_51)
      have Bz53 : Below w.heap.size w z53:=(by rw [ez53];exact below_setRowK Bz51 (by assumption) _)
      rw [← ez53]
      refine hK.out _ _ (blk_cell ks_53 0) (fun hHeld => ?_)
      clear hK K hg9 ez53
      (try simp only [Act.put,List.setIfInBounds_toArray,List.set_cons_zero,List.set_cons_succ,List.getElem_toArray,List.getElem_cons_succ,List.getElem_cons_zero])
      refine wpAnyH_done (by kernel_rfl) ?_ _
      go_wp2
      go_meet
      case rel => exact ⟨_,_,rfl,rfl,kt_53,kd_53,Bz53⟩
    refine AllReadyH.cons rfl (fun K hK => ?_) AllReadyH.nil
    go_simp
    refine hK.out _ _ trivial (fun _ => ?_)
    clear hK K
    (try simp only [Act.put,List.setIfInBounds_toArray,List.set_cons_zero,List.set_cons_succ,List.getElem_toArray,List.getElem_cons_succ,List.getElem_cons_zero])
    obtain ⟨z54,ez54⟩ : ∃ x,x = z44.alloc (.cells #[.int .i64 0,.int .i64 0,.int .i64 0,.int .u64 0,.int .u64 0,.int .u64 0,.int .u64 0,.int .i64 0,.int .u64 0,.int .i64 0,.int .i64 0,.int .u64 0,.int .i64 0,.int .i64 0,.int .i64 0,.int .i64 0,.int .i64 0,.int .i64 0,.string ⟨#[]⟩] 29):=⟨_,rfl⟩
    obtain ⟨n54,en54⟩ : ∃ b,b = z44.heap.size:=⟨_,rfl⟩
    have dkd_44_54 : y1.heap.size ≠ n54:=(by rw [en54];have:=blk_lt kd_44;omega)
    have dkt_44_54 : n44 ≠ n54:=(by rw [en54];have:=blk_lt kt_44;omega)
    have kf_54 : blk z54 n54 = some #[.int .i64 0,.int .i64 0,.int .i64 0,.int .u64 0,.int .u64 0,.int .u64 0,.int .u64 0,.int .i64 0,.int .u64 0,.int .i64 0,.int .i64 0,.int .u64 0,.int .i64 0,.int .i64 0,.int .i64 0,.int .i64 0,.int .i64 0,.int .i64 0,.string ⟨#[]⟩]:=(by rw [ez54];exact blk_alloc_new _ _ _ en54)
    have kd_54 : blk z54 y1.heap.size = some #[.int .i64 11,.int .i64 2]:=(by rw [ez54];exact blk_alloc kd_44 _)
    have kt_54 : blk z54 n44 = some #[.int .i64 0,.int .i64 0]:=(by rw [ez54];exact blk_alloc kt_44 _)
    have Bz54 : Below w.heap.size w z54:=(by rw [ez54];exact Bz44.alloc Bz44.size _)
    have ln54 : w.heap.size ≤ n54:=(by rw [en54];exact Bz44.size)
    rw [← ez54,← en54]
    clear ez54 en54
    refine wpAnyH_ready (rs:=[5]) (by kernel_rfl) (by simp) ?_
    refine AllReadyH.cons rfl (fun K hK => ?_) AllReadyH.nil
    go_simp
    refine hK.out _ _ trivial (fun _ => ?_)
    clear hK K
    (try simp only [Act.put,List.setIfInBounds_toArray,List.set_cons_zero,List.set_cons_succ,List.getElem_toArray,List.getElem_cons_succ,List.getElem_cons_zero])
    obtain ⟨z55,ez55⟩ : ∃ x,x = z54.alloc (.cells #[.int .u8 (v.toNat : Int)] 5):=⟨_,rfl⟩
    obtain ⟨n55,en55⟩ : ∃ b,b = z54.heap.size:=⟨_,rfl⟩
    have dkd_54_55 : y1.heap.size ≠ n55:=(by rw [en55];have:=blk_lt kd_54;omega)
    have dkt_54_55 : n44 ≠ n55:=(by rw [en55];have:=blk_lt kt_54;omega)
    have dkf_54_55 : n54 ≠ n55:=(by rw [en55];have:=blk_lt kf_54;omega)
    have ks_55 : blk z55 n55 = some #[.int .u8 (v.toNat : Int)]:=(by rw [ez55];exact blk_alloc_new _ _ _ en55)
    have kd_55 : blk z55 y1.heap.size = some #[.int .i64 11,.int .i64 2]:=(by rw [ez55];exact blk_alloc kd_54 _)
    have kt_55 : blk z55 n44 = some #[.int .i64 0,.int .i64 0]:=(by rw [ez55];exact blk_alloc kt_54 _)
    have kf_55 : blk z55 n54 = some #[.int .i64 0,.int .i64 0,.int .i64 0,.int .u64 0,.int .u64 0,.int .u64 0,.int .u64 0,.int .i64 0,.int .u64 0,.int .i64 0,.int .i64 0,.int .u64 0,.int .i64 0,.int .i64 0,.int .i64 0,.int .i64 0,.int .i64 0,.int .i64 0,.string ⟨#[]⟩]:=(by rw [ez55];exact blk_alloc kf_54 _)
    have Bz55 : Below w.heap.size w z55:=(by rw [ez55];exact Bz54.alloc Bz54.size _)
    have ln55 : w.heap.size ≤ n55:=(by rw [en55];exact Bz54.size)
    rw [← ez55,← en55]
    clear ez55 en55
    have cs55:=blk_cell ks_55 0
    refine wpAnyH_weaken (S2:=fun W => W.cell? ⟨n55,0,none⟩ = some (.int .u8 (v.toNat : Int))) (fun _ _ => trivial) _ _ _ _ ?_
    have hs55 : z55.cell? ⟨n55,0,none⟩ = some (.int .u8 (v.toNat : Int)):=cs55
    refine wpAnyH_take (i:=6) (oi:=_) (v:=?_) rfl (by kernel_rfl) (by kernel_rfl) (by kernel_rfl) (fun _ _ _ h => h) (Or.inl ⟨by rfl,?_⟩) (by assumption) ?_
    rotate_left
    · (intro W hSw;(try dsimp only at hSw);have hcv:=hoc.out W _ _ hSw;go_simp;(try with_reducible rfl))
    (try simp only [Act.put,List.setIfInBounds_toArray,List.set_cons_zero,List.set_cons_succ,List.getElem_toArray,List.getElem_cons_succ,List.getElem_cons_zero])
    refine wpAnyH_take (i:=7) (oi:=_) (v:=?_) rfl (by kernel_rfl) (by kernel_rfl) (by kernel_rfl) (fun _ _ _ h => h) (Or.inl ⟨by rfl,?_⟩) (by assumption) ?_
    rotate_left
    · (intro W hSw;(try dsimp only at hSw);go_simp;(try with_reducible rfl))
    (try simp only [Act.put,List.setIfInBounds_toArray,List.set_cons_zero,List.set_cons_succ,List.getElem_toArray,List.getElem_cons_succ,List.getElem_cons_zero])
    refine wpAnyH_ready (rs:=[8]) (by kernel_rfl) (by simp) ?_
    refine AllReadyH.cons rfl (fun K hK => ?_) AllReadyH.nil
    go_simp
    go_at_call 11
    (with_reducible refine (gd2.out _ (HH.out.on Bz55) (HT.out.on Bz55)).mono ?_)
    rintro e z56 ⟨rfl,hz56⟩
    (try go_wp2_with fail)
    have kd_56 : blk z56 y1.heap.size = some #[.int .i64 11,.int .i64 2]:=blk_below hz56 kd_55
    have kt_56 : blk z56 n44 = some #[.int .i64 0,.int .i64 0]:=blk_below hz56 kt_55
    have kf_56 : blk z56 n54 = some #[.int .i64 0,.int .i64 0,.int .i64 0,.int .u64 0,.int .u64 0,.int .u64 0,.int .u64 0,.int .i64 0,.int .u64 0,.int .i64 0,.int .i64 0,.int .u64 0,.int .i64 0,.int .i64 0,.int .i64 0,.int .i64 0,.int .i64 0,.int .i64 0,.string ⟨#[]⟩]:=blk_below hz56 kf_55
    have ks_56 : blk z56 n55 = some #[.int .u8 (v.toNat : Int)]:=blk_below hz56 ks_55
    have Bz56 : Below w.heap.size w z56:=bt Bz55 hz56
    clear hz56
    refine hK.out _ _ (blk_cell ks_56 0) (fun hHeld => ?_)
    clear hK K
    (try simp only [Act.put,List.setIfInBounds_toArray,List.set_cons_zero,List.set_cons_succ,List.getElem_toArray,List.getElem_cons_succ,List.getElem_cons_zero])
    refine wpAnyH_take (i:=9) (oi:=_) (v:=?_) rfl (by kernel_rfl) (by kernel_rfl) (by kernel_rfl) (fun _ _ _ h => h) (Or.inl ⟨by rfl,?_⟩) (by assumption) ?_
    rotate_left
    · (intro W hSw;(try dsimp only at hSw);go_simp;(try with_reducible rfl))
    (try simp only [Act.put,List.setIfInBounds_toArray,List.set_cons_zero,List.set_cons_succ,List.getElem_toArray,List.getElem_cons_succ,List.getElem_cons_zero])
    refine wpAnyH_take (i:=10) (oi:=_) (v:=?_) rfl (by kernel_rfl) (by kernel_rfl) (by kernel_rfl) (fun _ _ _ h => h) (Or.inl ⟨by rfl,?_⟩) (by assumption) ?_
    rotate_left
    · (intro W hSw;(try dsimp only at hSw);go_simp;(try with_reducible rfl))
    (try simp only [Act.put,List.setIfInBounds_toArray,List.set_cons_zero,List.set_cons_succ,List.getElem_toArray,List.getElem_cons_succ,List.getElem_cons_zero])
    refine wpAnyH_take (i:=11) (oi:=_) (v:=?_) rfl (by kernel_rfl) (by kernel_rfl) (by kernel_rfl) (fun _ _ _ h => h) (Or.inl ⟨by rfl,?_⟩) (by assumption) ?_
    rotate_left
    · (intro W hSw;(try dsimp only at hSw);go_simp;(try with_reducible rfl))
    (try simp only [Act.put,List.setIfInBounds_toArray,List.set_cons_zero,List.set_cons_succ,List.getElem_toArray,List.getElem_cons_succ,List.getElem_cons_zero])
    refine wpAnyH_ready (rs:=[14]) (by kernel_rfl) (by simp) ?_
    refine AllReadyH.cons rfl (fun K hK => ?_) AllReadyH.nil
    rw [if_pos (by rfl)]
    obtain ⟨t8,hg8⟩:=blk_row kf_56
    refine wp_store_row 29 (.tmp 12) (.tmp 100) rfl n54 #[.int .i64 0,.int .i64 0,.int .i64 0,.int .u64 0,.int .u64 0,.int .u64 0,.int .u64 0,.int .i64 0,.int .u64 0,.int .i64 0,.int .i64 0,.int .u64 0,.int .i64 0,.int .i64 0,.int .i64 0,.int .i64 0,.int .i64 0,.int .i64 0,.string ⟨#[]⟩] rfl rfl t8 #[.int .i64 0,.int .i64 0,.int .i64 0,.int .u64 0,.int .u64 0,.int .u64 0,.int .u64 0,.int .i64 0,.int .u64 0,.int .i64 0,.int .i64 0,.int .u64 0,.int .i64 0,.int .i64 0,.int .i64 0,.int .i64 0,.int .i64 0,.int .i64 0,.string ⟨#[]⟩] hg8 (by kernel_rfl) rfl (by kernel_rfl) ?_
    rw [setRow_self z56 n54 #[.int .i64 0,.int .i64 0,.int .i64 0,.int .u64 0,.int .u64 0,.int .u64 0,.int .u64 0,.int .i64 0,.int .u64 0,.int .i64 0,.int .i64 0,.int .u64 0,.int .i64 0,.int .i64 0,.int .i64 0,.int .i64 0,.int .i64 0,.int .i64 0,.string ⟨#[]⟩] t8 (0,0) hg8]
    refine hK.out _ _ (blk_cell ks_56 0) (fun hHeld => ?_)
    clear hK K hg8
    (try simp only [Act.put,List.setIfInBounds_toArray,List.set_cons_zero,List.set_cons_succ,List.getElem_toArray,List.getElem_cons_succ,List.getElem_cons_zero])
    refine wpAnyH_ready (rs:=[15]) (by kernel_rfl) (by simp) ?_
    refine AllReadyH.cons rfl (fun K hK => ?_) AllReadyH.nil
    rw [if_pos (by rfl)]
    obtain ⟨t9,hg9⟩:=blk_row kt_56
    refine wp_store_row 32 (.tmp 13) (.tmp 101) rfl n44 #[.int .i64 10,.int .i64 7] rfl rfl t9 #[.int .i64 0,.int .i64 0] hg9 (by kernel_rfl) rfl (by kernel_rfl) ?_
    obtain ⟨z58,ez58⟩ : ∃ x,x = z56.setRow n44 #[.int .i64 10,.int .i64 7]:=⟨_,rfl⟩
    have kt_58 : blk z58 n44 = some #[.int .i64 10,.int .i64 7]:=(by rw [ez58];exact blk_setRow kt_56)
    have kd_58 : blk z58 y1.heap.size = some #[.int .i64 11,.int .i64 2]:=(by rw [ez58];exact (blk_kept (setRow_other z56 n44 y1.heap.size _ (by first|assumption|(apply Ne.symm;assumption)))).trans kd_56)
    have ks_58 : blk z58 n55 = some #[.int .u8 (v.toNat : Int)]:=(by rw [ez58];exact (blk_kept (setRow_other z56 n44 n55 _ (by first|assumption|(apply Ne.symm;assumption)))).trans ks_56)
    have Bz58 : Below w.heap.size w z58:=(by rw [ez58];exact below_setRowK Bz56 (by assumption) _)
    rw [← ez58]
    refine hK.out _ _ (blk_cell ks_58 0) (fun hHeld => ?_)
    clear hK K hg9 ez58
    (try simp only [Act.put,List.setIfInBounds_toArray,List.set_cons_zero,List.set_cons_succ,List.getElem_toArray,List.getElem_cons_succ,List.getElem_cons_zero])
    refine wpAnyH_done (by kernel_rfl) ?_ _
    go_wp2
    go_meet
    case rel => exact ⟨_,_,rfl,rfl,kt_58,kd_58,Bz58⟩
  case rest =>
  obtain ⟨b8,b9,rfl,rfl,k13,k10,B21⟩:=hcut
  rename World => w21
  have s21:=B21.size
  have n13:=kn k13
  have n10:=kn k10
  clear gd2 ge gz gt
  go_wp2_with fail
  (with_reducible refine (gdat.out _).mono ?_)
  rintro e w22 ⟨rfl,hw22⟩
  have kk3 : blk w22 (b9) = some #[.int .i64 10,.int .i64 7]:=(by (apply jt;(focus repeat(first|(with_reducible first|assumption|apply jd|apply js)|((with_reducible apply jo);first|focus(dsimp only;assumption)|focus(simp;done)|focus(dsimp only;omega))|((with_reducible apply jn);first|with_reducible rfl|focus(simp;done)|focus(simp;omega))|(with_reducible apply ja)|((with_reducible apply jb);with_reducible assumption)));rfl))
  have kk4 : blk w22 (y1.heap.size) = some #[.int .i64 11,.int .i64 2]:=(by (apply jt;(focus repeat(first|(with_reducible first|assumption|apply jd|apply js)|((with_reducible apply jo);first|focus(dsimp only;assumption)|focus(simp;done)|focus(dsimp only;omega))|((with_reducible apply jn);first|with_reducible rfl|focus(simp;done)|focus(simp;omega))|(with_reducible apply ja)|((with_reducible apply jb);with_reducible assumption)));rfl))
  have kn3:=kn kk3
  have kn4:=kn kk4
  have bw22 : Below w.heap.size w w22:=(by (repeat(first|(with_reducible first|assumption|exact Below.refl _ _|refine je ?_|refine jl ?_)|((with_reducible refine jp ?_ ?_);first|focus(dsimp only;assumption)|focus(simp;done)|focus(dsimp only;omega))|(with_reducible refine bt ?_ (by assumption)))))
  have sw22:=bw22.size
  clear hw22
  clear k13 k10 n13 n10 B21
  go_wp2_with fail
  (with_reducible refine (ga5.out _).mono ?_)
  rintro e w23 ⟨rfl,hw23⟩
  have kk5 : blk w23 (b9) = some #[.int .i64 10,.int .i64 7]:=(by (apply jt;(focus repeat(first|(with_reducible first|assumption|apply jd|apply js)|((with_reducible apply jo);first|focus(dsimp only;assumption)|focus(simp;done)|focus(dsimp only;omega))|((with_reducible apply jn);first|with_reducible rfl|focus(simp;done)|focus(simp;omega))|(with_reducible apply ja)|((with_reducible apply jb);with_reducible assumption)));rfl))
  have kk6 : blk w23 (y1.heap.size) = some #[.int .i64 11,.int .i64 2]:=(by (apply jt;(focus repeat(first|(with_reducible first|assumption|apply jd|apply js)|((with_reducible apply jo);first|focus(dsimp only;assumption)|focus(simp;done)|focus(dsimp only;omega))|((with_reducible apply jn);first|with_reducible rfl|focus(simp;done)|focus(simp;omega))|(with_reducible apply ja)|((with_reducible apply jb);with_reducible assumption)));rfl))
  clear kk3 kn3 kk4 kn4
  have kn5:=kn kk5
  have kn6:=kn kk6
  have bw23 : Below w.heap.size w w23:=(by (repeat(first|(with_reducible first|assumption|exact Below.refl _ _|refine je ?_|refine jl ?_)|((with_reducible refine jp ?_ ?_);first|focus(dsimp only;assumption)|focus(simp;done)|focus(dsimp only;omega))|(with_reducible refine bt ?_ (by assumption)))))
  have sw23:=bw23.size
  clear hw23 bw22
  go_wp2_with fail
  (with_reducible refine (an1.out _).mono ?_)
  rintro e w24 ⟨rfl,hw24⟩
  have kk7 : blk w24 (b9) = some #[.int .i64 10,.int .i64 7]:=(by (apply jt;(focus repeat(first|(with_reducible first|assumption|apply jd|apply js)|((with_reducible apply jo);first|focus(dsimp only;assumption)|focus(simp;done)|focus(dsimp only;omega))|((with_reducible apply jn);first|with_reducible rfl|focus(simp;done)|focus(simp;omega))|(with_reducible apply ja)|((with_reducible apply jb);with_reducible assumption)));rfl))
  have kk8 : blk w24 (y1.heap.size) = some #[.int .i64 11,.int .i64 2]:=(by (apply jt;(focus repeat(first|(with_reducible first|assumption|apply jd|apply js)|((with_reducible apply jo);first|focus(dsimp only;assumption)|focus(simp;done)|focus(dsimp only;omega))|((with_reducible apply jn);first|with_reducible rfl|focus(simp;done)|focus(simp;omega))|(with_reducible apply ja)|((with_reducible apply jb);with_reducible assumption)));rfl))
  clear kk5 kn5 kk6 kn6
  have kn7:=kn kk7
  have kn8:=kn kk8
  have bw24 : Below w.heap.size w w24:=(by (repeat(first|(with_reducible first|assumption|exact Below.refl _ _|refine je ?_|refine jl ?_)|((with_reducible refine jp ?_ ?_);first|focus(dsimp only;assumption)|focus(simp;done)|focus(dsimp only;omega))|(with_reducible refine bt ?_ (by assumption)))))
  have sw24:=bw24.size
  clear hw24 bw23
  go_wp2_with fail
  (with_reducible refine (gdat.out _).mono ?_)
  rintro e w25 ⟨rfl,hw25⟩
  have kk9 : blk w25 (b9) = some #[.int .i64 10,.int .i64 7]:=(by (apply jt;(focus repeat(first|(with_reducible first|assumption|apply jd|apply js)|((with_reducible apply jo);first|focus(dsimp only;assumption)|focus(simp;done)|focus(dsimp only;omega))|((with_reducible apply jn);first|with_reducible rfl|focus(simp;done)|focus(simp;omega))|(with_reducible apply ja)|((with_reducible apply jb);with_reducible assumption)));rfl))
  have kk10 : blk w25 (y1.heap.size) = some #[.int .i64 11,.int .i64 2]:=(by (apply jt;(focus repeat(first|(with_reducible first|assumption|apply jd|apply js)|((with_reducible apply jo);first|focus(dsimp only;assumption)|focus(simp;done)|focus(dsimp only;omega))|((with_reducible apply jn);first|with_reducible rfl|focus(simp;done)|focus(simp;omega))|(with_reducible apply ja)|((with_reducible apply jb);with_reducible assumption)));rfl))
  clear kk7 kn7 kk8 kn8
  have kn9:=kn kk9
  have kn10:=kn kk10
  have bw25 : Below w.heap.size w w25:=(by (repeat(first|(with_reducible first|assumption|exact Below.refl _ _|refine je ?_|refine jl ?_)|((with_reducible refine jp ?_ ?_);first|focus(dsimp only;assumption)|focus(simp;done)|focus(dsimp only;omega))|(with_reducible refine bt ?_ (by assumption)))))
  have sw25:=bw25.size
  clear hw25 bw24
  go_wp2_with fail
  (with_reducible refine (ga6.out _).mono ?_)
  rintro e w26 ⟨rfl,hw26⟩
  have kk11 : blk w26 (b9) = some #[.int .i64 10,.int .i64 7]:=(by (apply jt;(focus repeat(first|(with_reducible first|assumption|apply jd|apply js)|((with_reducible apply jo);first|focus(dsimp only;assumption)|focus(simp;done)|focus(dsimp only;omega))|((with_reducible apply jn);first|with_reducible rfl|focus(simp;done)|focus(simp;omega))|(with_reducible apply ja)|((with_reducible apply jb);with_reducible assumption)));rfl))
  have kk12 : blk w26 (y1.heap.size) = some #[.int .i64 11,.int .i64 2]:=(by (apply jt;(focus repeat(first|(with_reducible first|assumption|apply jd|apply js)|((with_reducible apply jo);first|focus(dsimp only;assumption)|focus(simp;done)|focus(dsimp only;omega))|((with_reducible apply jn);first|with_reducible rfl|focus(simp;done)|focus(simp;omega))|(with_reducible apply ja)|((with_reducible apply jb);with_reducible assumption)));rfl))
  clear kk9 kn9 kk10 kn10
  have kn11:=kn kk11
  have kn12:=kn kk12
  have bw26 : Below w.heap.size w w26:=(by (repeat(first|(with_reducible first|assumption|exact Below.refl _ _|refine je ?_|refine jl ?_)|((with_reducible refine jp ?_ ?_);first|focus(dsimp only;assumption)|focus(simp;done)|focus(dsimp only;omega))|(with_reducible refine bt ?_ (by assumption)))))
  have sw26:=bw26.size
  clear hw26 bw25
  go_wp2_with fail
  (with_reducible refine (an2.out _).mono ?_)
  rintro e w27 ⟨rfl,hw27⟩
  have kk13 : blk w27 (b9) = some #[.int .i64 10,.int .i64 7]:=(by (apply jt;(focus repeat(first|(with_reducible first|assumption|apply jd|apply js)|((with_reducible apply jo);first|focus(dsimp only;assumption)|focus(simp;done)|focus(dsimp only;omega))|((with_reducible apply jn);first|with_reducible rfl|focus(simp;done)|focus(simp;omega))|(with_reducible apply ja)|((with_reducible apply jb);with_reducible assumption)));rfl))
  have kk14 : blk w27 (y1.heap.size) = some #[.int .i64 11,.int .i64 2]:=(by (apply jt;(focus repeat(first|(with_reducible first|assumption|apply jd|apply js)|((with_reducible apply jo);first|focus(dsimp only;assumption)|focus(simp;done)|focus(dsimp only;omega))|((with_reducible apply jn);first|with_reducible rfl|focus(simp;done)|focus(simp;omega))|(with_reducible apply ja)|((with_reducible apply jb);with_reducible assumption)));rfl))
  clear kk11 kn11 kk12 kn12
  have kn13:=kn kk13
  have kn14:=kn kk14
  have bw27 : Below w.heap.size w w27:=(by (repeat(first|(with_reducible first|assumption|exact Below.refl _ _|refine je ?_|refine jl ?_)|((with_reducible refine jp ?_ ?_);first|focus(dsimp only;assumption)|focus(simp;done)|focus(dsimp only;omega))|(with_reducible refine bt ?_ (by assumption)))))
  have sw27:=bw27.size
  clear hw27 bw26
  go_wp2_with fail
  (with_reducible refine (gg.out _).mono ?_)
  rintro e w28 ⟨rfl,hw28⟩
  have kk15 : blk w28 (b9) = some #[.int .i64 10,.int .i64 7]:=(by (apply jt;(focus repeat(first|(with_reducible first|assumption|apply jd|apply js)|((with_reducible apply jo);first|focus(dsimp only;assumption)|focus(simp;done)|focus(dsimp only;omega))|((with_reducible apply jn);first|with_reducible rfl|focus(simp;done)|focus(simp;omega))|(with_reducible apply ja)|((with_reducible apply jb);with_reducible assumption)));rfl))
  have kk16 : blk w28 (y1.heap.size) = some #[.int .i64 11,.int .i64 2]:=(by (apply jt;(focus repeat(first|(with_reducible first|assumption|apply jd|apply js)|((with_reducible apply jo);first|focus(dsimp only;assumption)|focus(simp;done)|focus(dsimp only;omega))|((with_reducible apply jn);first|with_reducible rfl|focus(simp;done)|focus(simp;omega))|(with_reducible apply ja)|((with_reducible apply jb);with_reducible assumption)));rfl))
  clear kk13 kn13 kk14 kn14
  have kn15:=kn kk15
  have kn16:=kn kk16
  have bw28 : Below w.heap.size w w28:=(by (repeat(first|(with_reducible first|assumption|exact Below.refl _ _|refine je ?_|refine jl ?_)|((with_reducible refine jp ?_ ?_);first|focus(dsimp only;assumption)|focus(simp;done)|focus(dsimp only;omega))|(with_reducible refine bt ?_ (by assumption)))))
  have sw28:=bw28.size
  clear hw28 bw27
  go_wp2_with fail
  (with_reducible refine (ga5.out _).mono ?_)
  rintro e w29 ⟨rfl,hw29⟩
  have kk17 : blk w29 (b9) = some #[.int .i64 10,.int .i64 7]:=(by (apply jt;(focus repeat(first|(with_reducible first|assumption|apply jd|apply js)|((with_reducible apply jo);first|focus(dsimp only;assumption)|focus(simp;done)|focus(dsimp only;omega))|((with_reducible apply jn);first|with_reducible rfl|focus(simp;done)|focus(simp;omega))|(with_reducible apply ja)|((with_reducible apply jb);with_reducible assumption)));rfl))
  have kk18 : blk w29 (y1.heap.size) = some #[.int .i64 11,.int .i64 2]:=(by (apply jt;(focus repeat(first|(with_reducible first|assumption|apply jd|apply js)|((with_reducible apply jo);first|focus(dsimp only;assumption)|focus(simp;done)|focus(dsimp only;omega))|((with_reducible apply jn);first|with_reducible rfl|focus(simp;done)|focus(simp;omega))|(with_reducible apply ja)|((with_reducible apply jb);with_reducible assumption)));rfl))
  clear kk15 kn15 kk16 kn16
  have kn17:=kn kk17
  have kn18:=kn kk18
  have bw29 : Below w.heap.size w w29:=(by (repeat(first|(with_reducible first|assumption|exact Below.refl _ _|refine je ?_|refine jl ?_)|((with_reducible refine jp ?_ ?_);first|focus(dsimp only;assumption)|focus(simp;done)|focus(dsimp only;omega))|(with_reducible refine bt ?_ (by assumption)))))
  have sw29:=bw29.size
  clear hw29 bw28
  go_wp2_with fail
  (with_reducible refine (an3.out _).mono ?_)
  rintro e w30 ⟨rfl,hw30⟩
  have kk19 : blk w30 (b9) = some #[.int .i64 10,.int .i64 7]:=(by (apply jt;(focus repeat(first|(with_reducible first|assumption|apply jd|apply js)|((with_reducible apply jo);first|focus(dsimp only;assumption)|focus(simp;done)|focus(dsimp only;omega))|((with_reducible apply jn);first|with_reducible rfl|focus(simp;done)|focus(simp;omega))|(with_reducible apply ja)|((with_reducible apply jb);with_reducible assumption)));rfl))
  have kk20 : blk w30 (y1.heap.size) = some #[.int .i64 11,.int .i64 2]:=(by (apply jt;(focus repeat(first|(with_reducible first|assumption|apply jd|apply js)|((with_reducible apply jo);first|focus(dsimp only;assumption)|focus(simp;done)|focus(dsimp only;omega))|((with_reducible apply jn);first|with_reducible rfl|focus(simp;done)|focus(simp;omega))|(with_reducible apply ja)|((with_reducible apply jb);with_reducible assumption)));rfl))
  clear kk17 kn17 kk18 kn18
  have kn19:=kn kk19
  have kn20:=kn kk20
  have bw30 : Below w.heap.size w w30:=(by (repeat(first|(with_reducible first|assumption|exact Below.refl _ _|refine je ?_|refine jl ?_)|((with_reducible refine jp ?_ ?_);first|focus(dsimp only;assumption)|focus(simp;done)|focus(dsimp only;omega))|(with_reducible refine bt ?_ (by assumption)))))
  have sw30:=bw30.size
  clear hw30 bw29
  go_wp2_with (go_at_call 10;(with_reducible refine (ga.out _ (HH.out.on (by (repeat(first|(with_reducible first|assumption|exact Below.refl _ _|refine je ?_|refine jl ?_)|((with_reducible refine jp ?_ ?_);first|focus(dsimp only;assumption)|focus(simp;done)|focus(dsimp only;omega))|(with_reducible refine bt ?_ (by assumption)))))) (HT.out.on (by (repeat(first|(with_reducible first|assumption|exact Below.refl _ _|refine je ?_|refine jl ?_)|((with_reducible refine jp ?_ ?_);first|focus(dsimp only;assumption)|focus(simp;done)|focus(dsimp only;omega))|(with_reducible refine bt ?_ (by assumption))))))).mono ?_);rintro e wa ⟨rfl,ha⟩)
  go_ret
  exact ⟨rfl,by (repeat(first|(with_reducible first|assumption|exact Below.refl _ _|refine je ?_|refine jl ?_)|((with_reducible refine jp ?_ ?_);first|focus(dsimp only;assumption)|focus(simp;done)|focus(dsimp only;omega))|(with_reducible refine bt ?_ (by assumption))))⟩
theorem frameKnown_walk (w : World) (T0 : Lib.TabIs Tryd.prog w sumNm .u32 sumTab) (T1 : Lib.TabIs Tryd.prog w headsNm .u8 headsTab) (T2 : Lib.TabIs Tryd.prog w tabNm .u64 Lib.pow10Tab) (T3 : Lib.TabIs Tryd.prog w blanksNm .u8 Lib.asciiSpaceTab) :
    Calls Tryd.prog 9 #[] w fun e w' => e = .returned (.bool true) ∧ Below w.heap.size w w' :=
  frameKnown_at w (htab_of T1) (stab_of T0) (tab_of T2) (stabA_of T3)
end Go.Proofs.YtaiofjffoboicaaDoor
