/- Parts of a proof, printed by a program of mine out of my texts: FxText. -/
import Derived.Deep.Cut
import Derived.Test.YtaiofjffoboicaaDoorCFrChkAll
import Derived.Test.YtaiofjffoboicaaDoorCFx
import Derived.Test.YtaiofjffoboicaaDoorCSum
import Derived.Test.YtaiofjffoboicaaDoorCX9
set_option linter.unusedSimpArgs false
set_option linter.unusedVariables false
namespace Go.Proofs.YtaiofjffoboicaaDoor
open Go.RowKit
set_option maxRecDepth 100000 in
set_option maxHeartbeats 3200000 in
theorem text_ok (f : Fr) (hC : frC f = 0) (hn : NN f) (w : World) (hT : Tab w) (hS : STabA w) : Calls Tryd.prog 20 #[frv f] w fun e w' => e = .returned (.tuple #[.string (joinB (partsF f)),.int .i64 0]) ∧ Below w.heap.size w w':=by
  have gc : ∀ w,Calls Tryd.prog 17 #[.agg #[.int .i64 f.k,.int .i64 f.fr,.int .i64 f.to_,.int .u64 f.mi,.int .u64 f.yo,.int .u64 f.a,.int .u64 f.b,.int .i64 f.ino,.int .u64 f.isq,.int .i64 f.iof,.int .i64 f.bno,.int .u64 f.bsq,.int .i64 f.bof,.int .i64 f.bde,.int .i64 f.bpr,.int .i64 f.bbo,.int .i64 f.bli,.int .i64 f.bto,.string f.da]] w fun e w' => e = .returned (.int .i64 0) ∧ Below w.heap.size w w':=fun w => by
    have:=fcheck_any f (da_of hC) hn.b.1 w
    rw [hC] at this
    exact this
  obtain ⟨hk,⟨r1,r2,r3,r4,r5,r6,r7,r8,r9,r10,r11,r12⟩,hb,_⟩:=frC_ok hC
  have n1:=hn.mi;have n2:=hn.yo;have n3:=hn.a;have n4:=hn.b
  have gu : ∀ w,Calls Tryd.prog 25 #[.int .i64 f.k] w fun e w' => e = .returned (.tuple #[.agg #[.bool (hasA f.k),.bool (hasB f.k),.bool (hasD f.k),.bool (hasI f.k)],.bool true]) ∧ Below w.heap.size w w':=fun w => by
    have:=uses_any f.k w
    have hb : kindB f.k = true:=decide_eq_true hk
    rwa [show usesV f.k = .tuple #[.agg #[.bool (hasA f.k),.bool (hasB f.k),.bool (hasD f.k),.bool (hasI f.k)],.bool true] by unfold usesV;rw [hb];rfl] at this
  have HT : Hid (∀ W,Below w.heap.size w W → Tab W):=Lib.hid fun W h => hT.on h
  have HS : Hid (∀ W,Below w.heap.size w W → STabA W):=Lib.hid fun W h => hS.on h
  have g1:=fun W t => itoaI f.fr (by omega) (by omega) W t
  have g2:=fun W t => itoaI f.to_ (by omega) (by omega) W t
  have g3:=fun W t => digitsF f.mi (by omega) (by omega) W t
  have g4:=fun W t => digitsF f.yo (by omega) (by omega) W t
  have g5:=fun W t => digitsF f.a (by omega) (by omega) W t
  have g6:=fun W t => digitsF f.b (by omega) (by omega) W t
  have gk : (hasD f.k || hasI f.k) = true → ∀ W,Tab W → Calls Tryd.prog 47 #[idF f] W fun e w' => e = .returned (.tuple #[.string (keyF f),.int .i64 0]) ∧ Below W.heap.size W w':=fun h W t => keyF_any f hC hn h W t
  have ga : ∀ W,Calls Tryd.prog 48 #[.agg #[.int .i64 f.k,.int .i64 f.fr,.int .i64 f.to_,.int .u64 f.mi,.int .u64 f.yo,.int .u64 f.a,.int .u64 f.b,.int .i64 f.ino,.int .u64 f.isq,.int .i64 f.iof,.int .i64 f.bno,.int .u64 f.bsq,.int .i64 f.bof,.int .i64 f.bde,.int .i64 f.bpr,.int .i64 f.bbo,.int .i64 f.bli,.int .i64 f.bto,.string f.da]] W fun e w' => e = .returned (idF f) ∧ Below W.heap.size W w':=fun W => about_any f W
  have gf:=words_any
  obtain ⟨C7,hC7⟩ : ∃ c : Array Value,#[.string ⟨#[104,101,108,108,111]⟩,.string ⟨#[103,114,97,110,116]⟩,.string ⟨#[100,97,116,97]⟩,.string ⟨#[114,101,112,111,114,116]⟩,.string ⟨#[97,99,107]⟩,.string ⟨#[114,101,102,117,115,101]⟩,.string ⟨#[114,101,99,108,97,105,109]⟩] = c:=⟨_,rfl⟩
  rw [hC7] at gf
  have z1:=(numB_size f.fr.toNat (by omega)).2
  have z2:=(numB_size f.to_.toNat (by omega)).2
  have z3:=(numB_size f.mi.toNat (by omega)).2
  have z4:=(numB_size f.yo.toNat (by omega)).2
  have z5:=(numB_size f.a.toNat (by omega)).2
  have z6:=(numB_size f.b.toNat (by omega)).2
  have z7:=keyF_size f hC hn
  have hnm:=name_at f.k hk
  rw [show (f.k - 1).toNat = f.k.toNat - 1 by omega] at hnm
  have z8:=name_size f.k
  rw [hC7] at hnm
  clear hC7
  have hP : partsF f = [numB f.fr.toNat ++ ⟨#[62]⟩ ++ numB f.to_.toNat,numB f.mi.toNat ++ ⟨#[47]⟩ ++ numB f.yo.toNat,nameB f.k] ++ optL (hasA f.k) (numB f.a.toNat) ++ optL (hasB f.k) (numB f.b.toNat) ++ optL (hasD f.k || hasI f.k) (keyF f):=rfl
  rw [hP]
  clear hP
  have y1 : IntKind.i64.wrap (f.k - 1) = f.k - 1:=IntWalk.i64_in _ (by omega)
  obtain ⟨x1,e1⟩ : ∃ x,numB f.fr.toNat = x:=⟨_,rfl⟩
  obtain ⟨x2,e2⟩ : ∃ x,numB f.to_.toNat = x:=⟨_,rfl⟩
  obtain ⟨x3,e3⟩ : ∃ x,numB f.mi.toNat = x:=⟨_,rfl⟩
  obtain ⟨x4,e4⟩ : ∃ x,numB f.yo.toNat = x:=⟨_,rfl⟩
  obtain ⟨x5,e5⟩ : ∃ x,numB f.a.toNat = x:=⟨_,rfl⟩
  obtain ⟨x6,e6⟩ : ∃ x,numB f.b.toNat = x:=⟨_,rfl⟩
  obtain ⟨x7,e7⟩ : ∃ x,keyF f = x:=⟨_,rfl⟩
  obtain ⟨x8,e8⟩ : ∃ x,nameB f.k = x:=⟨_,rfl⟩
  rw [e1] at g1 z1;rw [e2] at g2 z2;rw [e3] at g3 z3;rw [e4] at g4 z4;rw [e5] at g5 z5;rw [e6] at g6 z6;rw [e7] at gk z7;rw [e8] at hnm z8
  rw [e1,e2,e3,e4,e5,e6,e7,e8]
  clear e1 e2 e3 e4 e5 e6 e7 e8 r1 r2 r3 r4 r5 r6 r7 r8 r9 r10 r11 r12 hb n1 n2 n3 n4 hC hn hT hS
  obtain ⟨Aq,hA⟩ : ∃ A,hasA f.k = A:=⟨_,rfl⟩
  obtain ⟨Bq,hB⟩ : ∃ A,hasB f.k = A:=⟨_,rfl⟩
  obtain ⟨Dq,hD⟩ : ∃ A,hasD f.k = A:=⟨_,rfl⟩
  obtain ⟨Iq,hI⟩ : ∃ A,hasI f.k = A:=⟨_,rfl⟩
  rw [hA,hB,hD,hI] at gu
  rw [hD,hI] at gk z7
  rw [hA,hB,hD,hI]
  clear hA hB hD hI
  obtain ⟨V,hV⟩ : ∃ V,V = joinB ([x1 ++ ⟨#[62]⟩ ++ x2,x3 ++ ⟨#[47]⟩ ++ x4,x8] ++ optL Aq x5 ++ optL Bq x6 ++ optL (Dq || Iq) x7):=⟨_,rfl⟩
  rw [← hV]
  replace hV:=Lib.hid hV
  obtain ⟨idv',hid⟩ : ∃ x,idF f = x:=⟨_,rfl⟩
  rw [hid] at gk ga
  clear hid
  have a1 : ¬ (9223372036854775807 < x1.size + 1):=by omega
  have a2 : ¬ (9223372036854775807 < x1.size + 1 + x2.size):=by omega
  have a3 : ¬ (9223372036854775807 < x3.size + 1):=by omega
  have a4 : ¬ (9223372036854775807 < x3.size + 1 + x4.size):=by omega
  have i1 : f.k - 1 < 7:=by omega
  have i2 : 0 ≤ f.k - 1:=by omega
  have zs : ∀ x ∈ [x1 ++ ⟨#[62]⟩ ++ x2,x3 ++ ⟨#[47]⟩ ++ x4,x8] ++ optL Aq x5 ++ optL Bq x6 ++ optL (Dq || Iq) x7,x.size ≤ 100:=by
    have s1 : (x1 ++ ⟨#[62]⟩ ++ x2).size ≤ 100:=by rw [ByteArray.size_append,ByteArray.size_append];have : (⟨#[62]⟩ : ByteArray).size = 1:=rfl;omega
    have s2 : (x3 ++ ⟨#[47]⟩ ++ x4).size ≤ 100:=by rw [ByteArray.size_append,ByteArray.size_append];have : (⟨#[47]⟩ : ByteArray).size = 1:=rfl;omega
    intro x hx
    simp only [List.mem_append,List.mem_cons,List.not_mem_nil,or_false] at hx
    rcases hx with ((hx|hx)|hx)|hx
    · rcases hx with rfl|rfl|rfl
      · exact s1
      · exact s2
      · omega
    · cases Aq
      · exact absurd hx List.not_mem_nil
      · obtain rfl:=List.mem_singleton.1 hx;omega
    · cases Bq
      · exact absurd hx List.not_mem_nil
      · obtain rfl:=List.mem_singleton.1 hx;omega
    · obtain ⟨Q,hQ⟩ : ∃ Q,(Dq || Iq) = Q:=⟨_,rfl⟩
      rw [hQ] at hx z7
      cases Q
      · exact absurd hx List.not_mem_nil
      · have:=z7 rfl;obtain rfl:=List.mem_singleton.1 hx;omega
  replace zs:=Lib.hid zs
  obtain ⟨i0,hi,hz0,hz1,hz2⟩:=info_parts infoStr
  have Hi:=Lib.hid hi;clear hi
  have Hz0:=Lib.hid hz0;clear hz0
  have Hz1:=Lib.hid hz1;clear hz1
  have Hz2:=Lib.hid hz2;clear hz2
  replace g1:=Lib.hid g1;replace g2:=Lib.hid g2;replace g3:=Lib.hid g3;replace g4:=Lib.hid g4;replace g5:=Lib.hid g5;replace g6:=Lib.hid g6;replace gk:=Lib.hid gk;replace ga:=Lib.hid ga;replace gc:=Lib.hid gc;replace gu:=Lib.hid gu;replace gf:=Lib.hid gf
  obtain ⟨hk1,hk2⟩:=hk
  go_enter Tryd.func20,Tryd.ntmps20
  go_upto_region 1 with fail
  refine wp_region_lit ?_
  refine wpList_load_blk 29 (.tmp 1) w.heap.size #[.int .i64 f.k,.int .i64 f.fr,.int .i64 f.to_,.int .u64 f.mi,.int .u64 f.yo,.int .u64 f.a,.int .u64 f.b,.int .i64 f.ino,.int .u64 f.isq,.int .i64 f.iof,.int .i64 f.bno,.int .u64 f.bsq,.int .i64 f.bof,.int .i64 f.bde,.int .i64 f.bpr,.int .i64 f.bbo,.int .i64 f.bli,.int .i64 f.bto,.string f.da] (by (apply jt;(focus repeat(first|(with_reducible first|assumption|apply jd|apply js)|((with_reducible apply jo);first|focus(dsimp only;assumption)|focus(simp;done)|focus(dsimp only;omega))|((with_reducible apply jn);first|with_reducible rfl|focus(simp;done)|focus(simp;omega))|(with_reducible apply ja)|((with_reducible apply jb);with_reducible assumption)));rfl)) _ rfl rfl rfl Tryd.underlying29 rfl (by kernel_rfl) ?_
  conv => arg 5;simp [Act.put]
  go_wp2_with fail
  (with_reducible refine (gc.out _).mono ?_)
  rintro e w1 ⟨rfl,h1⟩
  have kf1 : blk w1 w.heap.size = some #[.int .i64 f.k,.int .i64 f.fr,.int .i64 f.to_,.int .u64 f.mi,.int .u64 f.yo,.int .u64 f.a,.int .u64 f.b,.int .i64 f.ino,.int .u64 f.isq,.int .i64 f.iof,.int .i64 f.bno,.int .u64 f.bsq,.int .i64 f.bof,.int .i64 f.bde,.int .i64 f.bpr,.int .i64 f.bbo,.int .i64 f.bli,.int .i64 f.bto,.string f.da]:=(by (apply jt;(focus repeat(first|(with_reducible first|assumption|apply jd|apply js)|((with_reducible apply jo);first|focus(dsimp only;assumption)|focus(simp;done)|focus(dsimp only;omega))|((with_reducible apply jn);first|with_reducible rfl|focus(simp;done)|focus(simp;omega))|(with_reducible apply ja)|((with_reducible apply jb);with_reducible assumption)));rfl))
  have b1 : Below w.heap.size w w1:=by (repeat(first|(with_reducible first|assumption|exact Below.refl _ _|refine je ?_|refine jl ?_)|((with_reducible refine jp ?_ ?_);first|focus(dsimp only;assumption)|focus(simp;done)|focus(dsimp only;omega))|(with_reducible refine bt ?_ (by assumption))))
  have nf1:=kn kf1
  clear h1 gc
  go_upto_region 6 with (go_at_call 25;(with_reducible refine (gu.out _).mono ?_);rintro e w2 ⟨rfl,h2⟩;have kf2:=blk_below h2 kf1;have b2 : Below w.heap.size w w2:=bt b1 h2)
  have l2:=blk_lt kf2
  refine wp_fresh w.heap.size w2.heap.size #[.int .i64 f.k,.int .i64 f.fr,.int .i64 f.to_,.int .u64 f.mi,.int .u64 f.yo,.int .u64 f.a,.int .u64 f.b,.int .i64 f.ino,.int .u64 f.isq,.int .i64 f.iof,.int .i64 f.bno,.int .u64 f.bsq,.int .i64 f.bof,.int .i64 f.bde,.int .i64 f.bpr,.int .i64 f.bbo,.int .i64 f.bli,.int .i64 f.bto,.string f.da] #[.bool Aq,.bool Bq,.bool Dq,.bool Iq] (by (apply jt;(focus repeat(first|(with_reducible first|assumption|apply jd|apply js)|((with_reducible apply jo);first|focus(dsimp only;assumption)|focus(simp;done)|focus(dsimp only;omega))|((with_reducible apply jn);first|with_reducible rfl|focus(simp;done)|focus(simp;omega))|(with_reducible apply ja)|((with_reducible apply jb);with_reducible assumption)));rfl)) (by (apply jt;(focus repeat(first|(with_reducible first|assumption|apply jd|apply js)|((with_reducible apply jo);first|focus(dsimp only;assumption)|focus(simp;done)|focus(dsimp only;omega))|((with_reducible apply jn);first|with_reducible rfl|focus(simp;done)|focus(simp;omega))|(with_reducible apply ja)|((with_reducible apply jb);with_reducible assumption)));rfl)) (by (repeat(first|(with_reducible first|assumption|exact Below.refl _ _|refine je ?_|refine jl ?_)|((with_reducible refine jp ?_ ?_);first|focus(dsimp only;assumption)|focus(simp;done)|focus(dsimp only;omega))|(with_reducible refine bt ?_ (by assumption)))) : Below w.heap.size w _) ?_
  intro w3 kf3 ku3 b3
  clear b2 kf2 h2 b1 kf1 nf1 gu
  have sw3:=b3.size
  have lf3:=blk_lt kf3
  have lu3:=blk_lt ku3
  go_cut [8] from 10 (fun s8 wq => wq.ownsRow w3.heap.size 9 1 s8 3 [.string (x1 ++ ⟨#[62]⟩ ++ x2),.string (x3 ++ ⟨#[47]⟩ ++ x4),.string x8] ∧ Below w3.heap.size w3 wq)
  case first =>
    refine wp_region_held_drew (S:=fun W => ∀ o,W.cell? ⟨w.heap.size,o,none⟩ = (#[.int .i64 f.k,.int .i64 f.fr,.int .i64 f.to_,.int .u64 f.mi,.int .u64 f.yo,.int .u64 f.a,.int .u64 f.b,.int .i64 f.ino,.int .u64 f.isq,.int .i64 f.iof,.int .i64 f.bno,.int .u64 f.bsq,.int .i64 f.bof,.int .i64 f.bde,.int .i64 f.bpr,.int .i64 f.bbo,.int .i64 f.bli,.int .i64 f.bto,.string f.da] : Array Value)[o]?) (by kernel_rfl) (fun o => blk_cell (by (apply jt;(focus repeat(first|(with_reducible first|assumption|apply jd|apply js)|((with_reducible apply jo);first|focus(dsimp only;assumption)|focus(simp;done)|focus(dsimp only;omega))|((with_reducible apply jn);first|with_reducible rfl|focus(simp;done)|focus(simp;omega))|(with_reducible apply ja)|((with_reducible apply jb);with_reducible assumption)));rfl)) o) (fun hHeld => ?_)
    refine wpAnyH_take (i:=0) (oi:=_) (v:=?_) rfl (by kernel_rfl) (by kernel_rfl) (by kernel_rfl) (fun _ _ _ h => h) (Or.inl ⟨by rfl,?_⟩) (by assumption) ?_
    rotate_left
    focus (intro W hSw;(try dsimp only at hSw);go_simp;(try with_reducible rfl))
    (try simp only [Act.put,List.setIfInBounds_toArray,List.set_cons_zero,List.set_cons_succ])
    refine wpAnyH_take (i:=1) (oi:=_) (v:=?_) rfl (by kernel_rfl) (by kernel_rfl) (by kernel_rfl) (fun _ _ _ h => h) (Or.inl ⟨by rfl,?_⟩) (by assumption) ?_
    rotate_left
    focus (intro W hSw;(try dsimp only at hSw);go_simp;(try with_reducible rfl))
    (try simp only [Act.put,List.setIfInBounds_toArray,List.set_cons_zero,List.set_cons_succ])
    refine wpAnyH_take (i:=4) (oi:=_) (v:=?_) rfl (by kernel_rfl) (by kernel_rfl) (by kernel_rfl) (fun _ _ _ h => h) (Or.inl ⟨by rfl,?_⟩) (by assumption) ?_
    rotate_left
    focus (intro W hSw;(try dsimp only at hSw);go_simp;(try with_reducible rfl))
    (try simp only [Act.put,List.setIfInBounds_toArray,List.set_cons_zero,List.set_cons_succ])
    refine wpAnyH_take (i:=5) (oi:=_) (v:=?_) rfl (by kernel_rfl) (by kernel_rfl) (by kernel_rfl) (fun _ _ _ h => h) (Or.inl ⟨by rfl,?_⟩) (by assumption) ?_
    rotate_left
    focus (intro W hSw;(try dsimp only at hSw);go_simp;(try with_reducible rfl))
    (try simp only [Act.put,List.setIfInBounds_toArray,List.set_cons_zero,List.set_cons_succ])
    refine wpAnyH_take (i:=8) (oi:=_) (v:=?_) rfl (by kernel_rfl) (by kernel_rfl) (by kernel_rfl) (fun _ _ _ h => h) (Or.inl ⟨by rfl,?_⟩) (by assumption) ?_
    rotate_left
    focus (intro W hSw;(try dsimp only at hSw);go_simp;(try with_reducible rfl))
    (try simp only [Act.put,List.setIfInBounds_toArray,List.set_cons_zero,List.set_cons_succ])
    refine wpAnyH_take (i:=9) (oi:=_) (v:=?_) rfl (by kernel_rfl) (by kernel_rfl) (by kernel_rfl) (fun _ _ _ h => h) (Or.inl ⟨by rfl,?_⟩) (by assumption) ?_
    rotate_left
    focus (intro W hSw;(try dsimp only at hSw);go_simp;(try with_reducible rfl))
    (try simp only [Act.put,List.setIfInBounds_toArray,List.set_cons_zero,List.set_cons_succ])
    refine wpAnyH_take (i:=10) (oi:=_) (v:=?_) rfl (by kernel_rfl) (by kernel_rfl) (by kernel_rfl) (fun _ _ _ h => h) (Or.inl ⟨by rfl,?_⟩) (by assumption) ?_
    rotate_left
    focus (intro W hSw;(try dsimp only at hSw);go_simp;(try with_reducible rfl))
    (try simp only [Act.put,List.setIfInBounds_toArray,List.set_cons_zero,List.set_cons_succ])
    refine wpAnyH_take (i:=13) (oi:=_) (v:=?_) rfl (by kernel_rfl) (by kernel_rfl) (by kernel_rfl) (fun _ _ _ h => h) (Or.inl ⟨by rfl,?_⟩) (by assumption) ?_
    rotate_left
    focus (intro W hSw;(try dsimp only at hSw);go_simp;(try with_reducible rfl))
    (try simp only [Act.put,List.setIfInBounds_toArray,List.set_cons_zero,List.set_cons_succ])
    refine wpAnyH_take (i:=14) (oi:=_) (v:=?_) rfl (by kernel_rfl) (by kernel_rfl) (by kernel_rfl) (fun _ _ _ h => h) (Or.inl ⟨by rfl,?_⟩) (by assumption) ?_
    rotate_left
    focus (intro W hSw;(try dsimp only at hSw);go_simp;(try with_reducible rfl))
    (try simp only [Act.put,List.setIfInBounds_toArray,List.set_cons_zero,List.set_cons_succ])
    refine wpAnyH_take (i:=15) (oi:=_) (v:=?_) rfl (by kernel_rfl) (by kernel_rfl) (by kernel_rfl) (fun _ _ _ h => h) (Or.inl ⟨by rfl,?_⟩) (by assumption) ?_
    rotate_left
    focus (intro W hSw;(try dsimp only at hSw);go_simp;(try with_reducible rfl))
    (try simp only [Act.put,List.setIfInBounds_toArray,List.set_cons_zero,List.set_cons_succ])
    refine wpAnyH_take (i:=19) (oi:=_) (v:=?_) rfl (by kernel_rfl) (by kernel_rfl) (by kernel_rfl) (fun _ _ _ h => h) (Or.inl ⟨by rfl,?_⟩) (by assumption) ?_
    rotate_left
    focus (intro W hSw;(try dsimp only at hSw);go_simp;(try with_reducible rfl))
    (try simp only [Act.put,List.setIfInBounds_toArray,List.set_cons_zero,List.set_cons_succ])
    refine wpAnyH_take (i:=20) (oi:=_) (v:=?_) rfl (by kernel_rfl) (by kernel_rfl) (by kernel_rfl) (fun _ _ _ h => h) (Or.inl ⟨by rfl,?_⟩) (by assumption) ?_
    rotate_left
    focus (intro W hSw;(try dsimp only at hSw);go_simp;(try with_reducible rfl))
    (try simp only [Act.put,List.setIfInBounds_toArray,List.set_cons_zero,List.set_cons_succ])
    refine wpAnyH_take (i:=21) (oi:=_) (v:=?_) rfl (by kernel_rfl) (by kernel_rfl) (by kernel_rfl) (fun _ _ _ h => h) (Or.inl ⟨by rfl,?_⟩) (by assumption) ?_
    rotate_left
    focus (intro W hSw;(try dsimp only at hSw);go_simp;(try with_reducible rfl))
    (try simp only [Act.put,List.setIfInBounds_toArray,List.set_cons_zero,List.set_cons_succ])
    refine wpAnyH_ready (rs:=[2]) (by kernel_rfl) (by simp) ?_
    refine AllReadyH.cons rfl (fun K hK => ?_) AllReadyH.nil
    go_simp
    go_at_call 45
    (with_reducible refine (g1.out _ ?_).mono ?_)
    · exact HT.out _ (by (repeat(first|(with_reducible first|assumption|exact Below.refl _ _|refine je ?_|refine jl ?_)|((with_reducible refine jp ?_ ?_);first|focus(dsimp only;assumption)|focus(simp;done)|focus(dsimp only;omega))|(with_reducible refine bt ?_ (by assumption)))))
    rintro e wa ⟨rfl,ha⟩
    (try go_wp2_with fail)
    refine hK.out _ _ ?_ (fun hHeld => ?_)
    · exact fun o => blk_cell (by (apply jt;(focus repeat(first|(with_reducible first|assumption|apply jd|apply js)|((with_reducible apply jo);first|focus(dsimp only;assumption)|focus(simp;done)|focus(dsimp only;omega))|((with_reducible apply jn);first|with_reducible rfl|focus(simp;done)|focus(simp;omega))|(with_reducible apply ja)|((with_reducible apply jb);with_reducible assumption)));rfl)) o
    clear hK K
    (try simp only [Act.put,List.setIfInBounds_toArray,List.set_cons_zero,List.set_cons_succ])
    refine wpAnyH_take (i:=3) (oi:=_) (v:=?_) rfl (by kernel_rfl) (by kernel_rfl) (by kernel_rfl) (fun _ _ _ h => h) (Or.inl ⟨by rfl,?_⟩) (by assumption) ?_
    rotate_left
    focus (intro W hSw;(try dsimp only at hSw);go_simp;(try with_reducible rfl))
    (try simp only [Act.put,List.setIfInBounds_toArray,List.set_cons_zero,List.set_cons_succ])
    refine wpAnyH_ready (rs:=[6]) (by kernel_rfl) (by simp) ?_
    refine AllReadyH.cons rfl (fun K hK => ?_) AllReadyH.nil
    go_simp
    go_at_call 45
    (with_reducible refine (g2.out _ ?_).mono ?_)
    · exact HT.out _ (by (repeat(first|(with_reducible first|assumption|exact Below.refl _ _|refine je ?_|refine jl ?_)|((with_reducible refine jp ?_ ?_);first|focus(dsimp only;assumption)|focus(simp;done)|focus(dsimp only;omega))|(with_reducible refine bt ?_ (by assumption)))))
    rintro e wb ⟨rfl,hb⟩
    (try go_wp2_with fail)
    refine hK.out _ _ ?_ (fun hHeld => ?_)
    · exact fun o => blk_cell (by (apply jt;(focus repeat(first|(with_reducible first|assumption|apply jd|apply js)|((with_reducible apply jo);first|focus(dsimp only;assumption)|focus(simp;done)|focus(dsimp only;omega))|((with_reducible apply jn);first|with_reducible rfl|focus(simp;done)|focus(simp;omega))|(with_reducible apply ja)|((with_reducible apply jb);with_reducible assumption)));rfl)) o
    clear hK K
    (try simp only [Act.put,List.setIfInBounds_toArray,List.set_cons_zero,List.set_cons_succ])
    refine wpAnyH_take (i:=7) (oi:=_) (v:=?_) rfl (by kernel_rfl) (by kernel_rfl) (by kernel_rfl) (fun _ _ _ h => h) (Or.inl ⟨by rfl,?_⟩) (by assumption) ?_
    rotate_left
    focus (intro W hSw;(try dsimp only at hSw);go_simp;(try with_reducible rfl))
    (try simp only [Act.put,List.setIfInBounds_toArray,List.set_cons_zero,List.set_cons_succ])
    refine wpAnyH_ready (rs:=[11]) (by kernel_rfl) (by simp) ?_
    refine AllReadyH.cons rfl (fun K hK => ?_) AllReadyH.nil
    go_simp
    go_at_call 43
    (with_reducible refine (g3.out _ ?_).mono ?_)
    · exact HT.out _ (by (repeat(first|(with_reducible first|assumption|exact Below.refl _ _|refine je ?_|refine jl ?_)|((with_reducible refine jp ?_ ?_);first|focus(dsimp only;assumption)|focus(simp;done)|focus(dsimp only;omega))|(with_reducible refine bt ?_ (by assumption)))))
    rintro e wc ⟨rfl,hc⟩
    (try go_wp2_with fail)
    refine hK.out _ _ ?_ (fun hHeld => ?_)
    · exact fun o => blk_cell (by (apply jt;(focus repeat(first|(with_reducible first|assumption|apply jd|apply js)|((with_reducible apply jo);first|focus(dsimp only;assumption)|focus(simp;done)|focus(dsimp only;omega))|((with_reducible apply jn);first|with_reducible rfl|focus(simp;done)|focus(simp;omega))|(with_reducible apply ja)|((with_reducible apply jb);with_reducible assumption)));rfl)) o
    clear hK K
    (try simp only [Act.put,List.setIfInBounds_toArray,List.set_cons_zero,List.set_cons_succ])
    refine wpAnyH_take (i:=12) (oi:=_) (v:=?_) rfl (by kernel_rfl) (by kernel_rfl) (by kernel_rfl) (fun _ _ _ h => h) (Or.inl ⟨by rfl,?_⟩) (by assumption) ?_
    rotate_left
    focus (intro W hSw;(try dsimp only at hSw);go_simp;(try with_reducible rfl))
    (try simp only [Act.put,List.setIfInBounds_toArray,List.set_cons_zero,List.set_cons_succ])
    refine wpAnyH_ready (rs:=[16]) (by kernel_rfl) (by simp) ?_
    refine AllReadyH.cons rfl (fun K hK => ?_) AllReadyH.nil
    go_simp
    go_at_call 43
    (with_reducible refine (g4.out _ ?_).mono ?_)
    · exact HT.out _ (by (repeat(first|(with_reducible first|assumption|exact Below.refl _ _|refine je ?_|refine jl ?_)|((with_reducible refine jp ?_ ?_);first|focus(dsimp only;assumption)|focus(simp;done)|focus(dsimp only;omega))|(with_reducible refine bt ?_ (by assumption)))))
    rintro e wd ⟨rfl,hd⟩
    (try go_wp2_with fail)
    refine hK.out _ _ ?_ (fun hHeld => ?_)
    · exact fun o => blk_cell (by (apply jt;(focus repeat(first|(with_reducible first|assumption|apply jd|apply js)|((with_reducible apply jo);first|focus(dsimp only;assumption)|focus(simp;done)|focus(dsimp only;omega))|((with_reducible apply jn);first|with_reducible rfl|focus(simp;done)|focus(simp;omega))|(with_reducible apply ja)|((with_reducible apply jb);with_reducible assumption)));rfl)) o
    clear hK K
    (try simp only [Act.put,List.setIfInBounds_toArray,List.set_cons_zero,List.set_cons_succ])
    refine wpAnyH_take (i:=17) (oi:=_) (v:=?_) rfl (by kernel_rfl) (by kernel_rfl) (by kernel_rfl) (fun _ _ _ h => h) (Or.inl ⟨by rfl,?_⟩) (by assumption) ?_
    rotate_left
    focus (intro W hSw;(try dsimp only at hSw);go_simp;(try with_reducible rfl))
    (try simp only [Act.put,List.setIfInBounds_toArray,List.set_cons_zero,List.set_cons_succ])
    refine wpAnyH_ready (rs:=[18]) (by kernel_rfl) (by simp) ?_
    refine AllReadyH.cons rfl (fun K hK => ?_) AllReadyH.nil
    go_simp
    go_at_call 46
    (with_reducible refine (gf.out _ ?_).mono ?_)
    · exact HS.out _ (by (repeat(first|(with_reducible first|assumption|exact Below.refl _ _|refine je ?_|refine jl ?_)|((with_reducible refine jp ?_ ?_);first|focus(dsimp only;assumption)|focus(simp;done)|focus(dsimp only;omega))|(with_reducible refine bt ?_ (by assumption)))))
    rintro e we ⟨rfl,rfl⟩
    (try go_wp2_with fail)
    refine hK.out _ _ ?_ (fun hHeld => ?_)
    · exact fun o => blk_cell (by (apply jt;(focus repeat(first|(with_reducible first|assumption|apply jd|apply js)|((with_reducible apply jo);first|focus(dsimp only;assumption)|focus(simp;done)|focus(dsimp only;omega))|((with_reducible apply jn);first|with_reducible rfl|focus(simp;done)|focus(simp;omega))|(with_reducible apply ja)|((with_reducible apply jb);with_reducible assumption)));rfl)) o
    clear hK K
    (try simp only [Act.put,List.setIfInBounds_toArray,List.set_cons_zero,List.set_cons_succ])
    have hN : (wd.alloc (.cells C7 9)).cell? ⟨wd.heap.size,f.k.toNat - 1,none⟩ = some (.string x8):=(blk_cell (blk_alloc_new _ _ _ rfl) _).trans hnm
    refine wpAnyH_weaken (S2:=fun W => (∀ o,W.cell? ⟨w.heap.size,o,none⟩ = (#[.int .i64 f.k,.int .i64 f.fr,.int .i64 f.to_,.int .u64 f.mi,.int .u64 f.yo,.int .u64 f.a,.int .u64 f.b,.int .i64 f.ino,.int .u64 f.isq,.int .i64 f.iof,.int .i64 f.bno,.int .u64 f.bsq,.int .i64 f.bof,.int .i64 f.bde,.int .i64 f.bpr,.int .i64 f.bbo,.int .i64 f.bli,.int .i64 f.bto,.string f.da] : Array Value)[o]?) ∧ W.cell? ⟨wd.heap.size,f.k.toNat - 1,none⟩ = some (.string x8)) (fun _ h => h.1) _ _ _ _ ?_
    have hHeld2:=And.intro hHeld hN
    clear hHeld
    refine wpAnyH_take (i:=22) (oi:=_) (v:=?_) rfl (by kernel_rfl) (by kernel_rfl) (by kernel_rfl) (fun _ _ _ h => h) (Or.inl ⟨by rfl,?_⟩) (by assumption) ?_
    rotate_left
    focus (intro W hSw;(try dsimp only at hSw);go_simp;(try with_reducible rfl))
    (try simp only [Act.put,List.setIfInBounds_toArray,List.set_cons_zero,List.set_cons_succ])
    refine wpAnyH_take (i:=23) (oi:=_) (v:=?_) rfl (by kernel_rfl) (by kernel_rfl) (by kernel_rfl) (fun _ _ _ h => h) (Or.inl ⟨by rfl,?_⟩) (by assumption) ?_
    rotate_left
    focus (intro W hSw;(try dsimp only at hSw);go_simp;(try with_reducible rfl))
    (try simp only [Act.put,List.setIfInBounds_toArray,List.set_cons_zero,List.set_cons_succ])
    refine wpAnyH_ready (rs:=[24]) (by kernel_rfl) (by simp) ?_
    refine AllReadyH.cons rfl (fun K hK => ?_) AllReadyH.nil
    go_simp
    refine hK.out _ _ ?_ (fun hHeld => ?_)
    · exact ⟨fun o => blk_cell (by (apply jt;(focus repeat(first|(with_reducible first|assumption|apply jd|apply js)|((with_reducible apply jo);first|focus(dsimp only;assumption)|focus(simp;done)|focus(dsimp only;omega))|((with_reducible apply jn);first|with_reducible rfl|focus(simp;done)|focus(simp;omega))|(with_reducible apply ja)|((with_reducible apply jb);with_reducible assumption)));rfl)) o,(blk_cell (c:=C7) (by (apply jt;(focus repeat(first|(with_reducible first|assumption|apply jd|apply js)|((with_reducible apply jo);first|focus(dsimp only;assumption)|focus(simp;done)|focus(dsimp only;omega))|((with_reducible apply jn);first|with_reducible rfl|focus(simp;done)|focus(simp;omega))|(with_reducible apply ja)|((with_reducible apply jb);with_reducible assumption)));rfl)) _).trans hnm⟩
    clear hK K hHeld2 hN
    (try simp only [Act.put,List.setIfInBounds_toArray,List.set_cons_zero,List.set_cons_succ])
    refine wpAnyH_take (i:=25) (oi:=_) (v:=?_) rfl (by kernel_rfl) (by kernel_rfl) (by kernel_rfl) (fun _ _ _ h => h) (Or.inl ⟨by rfl,?_⟩) (by assumption) ?_
    rotate_left
    focus (intro W hSw;(try dsimp only at hSw);go_simp;(try with_reducible rfl))
    (try simp only [Act.put,List.setIfInBounds_toArray,List.set_cons_zero,List.set_cons_succ])
    refine wpAnyH_done (by kernel_rfl) ?_ _
    have Wa : Below w3.heap.size w3 wd:=(by (repeat(first|(with_reducible first|assumption|exact Below.refl _ _|refine je ?_|refine jl ?_)|((with_reducible refine jp ?_ ?_);first|focus(dsimp only;assumption)|focus(simp;done)|focus(dsimp only;omega))|(with_reducible refine bt ?_ (by assumption)))))
    have oN:=owns_new (wd.alloc (.cells C7 9)) #[.string (x1 ++ ⟨#[62]⟩ ++ x2),.string (x3 ++ ⟨#[47]⟩ ++ x4),.string x8] 9 w3.heap.size (by have:=Wa.size;simp;omega) (by show 3 ≤ maxLen;decide)
    rw [show (wd.alloc (.cells C7 9)).heap.size = wd.heap.size + 1 by simp] at oN
    replace oN:=Lib.hid oN
    go_wp2
    go_meet
    case rel => exact ⟨oN.out,by (repeat(first|(with_reducible first|assumption|exact Below.refl _ _|refine je ?_|refine jl ?_)|((with_reducible refine jp ?_ ?_);first|focus(dsimp only;assumption)|focus(simp;done)|focus(dsimp only;omega))|(with_reducible refine bt ?_ (by assumption))))⟩
  case rest =>
  obtain ⟨own6,B6⟩:=hcut
  rename World => w6
  replace own6:=Lib.hid own6
  have kf6:=blk_below B6 kf3
  have ku6:=blk_below B6 ku3
  have nf6:=kn kf6
  have nu6:=kn ku6
  have s6:=B6.size
  obtain ⟨L6,hL6⟩ : ∃ L : List ByteArray,[x1 ++ ⟨#[62]⟩ ++ x2,x3 ++ ⟨#[47]⟩ ++ x4,x8] = L:=⟨_,rfl⟩
  have l6 : L6.length = 3:=by rw [← hL6];rfl
  have own6' : w6.ownsRow w3.heap.size 9 1 u8 L6.length (L6.map Value.string):=(by rw [← hL6];exact own6.out)
  rw [hL6] at zs
  replace hL6:=Lib.hid hL6
  clear own6
  replace own6':=Lib.hid own6'
  have kf3':=kf3;have ku3':=ku3
  clear kf3 ku3
  go_upto_if 48 with fail
  go_cut [8] from 10 (fun s8 wq => wq.ownsRow w3.heap.size 9 1 s8 (L6 ++ optL Aq x5).length ((L6 ++ optL Aq x5).map Value.string) ∧ Below w3.heap.size w3 wq)
  case first =>
    cases Aq
    · go_wp2
      go_meet
      case rel => exact ⟨by simpa [optL] using own6'.out,B6⟩
    · go_wp2_with (first|(go_at_call 43;(with_reducible refine (g5.out _ ?_).mono ?_);exact HT.out _ (b3.trans (B6.mono sw3));rintro e wa ⟨rfl,ha⟩;have owa:=owns_below own6'.out ha;have Owa:=Lib.hid owa;clear owa;have Ba : Below w3.heap.size w3 wa:=bt B6 ha;have swa:=Ba.size)|(at_builtin;refine wpList_append_own _ rfl _ _ 88 rfl w3.heap.size 9 i0 (.string ⟨#[]⟩) 1 16 Tryd.underlying88 Hi.out Hz0.out Hz1.out Hz2.out rfl (by decide) _ _ _ rfl (Owa.out.alloc _) ⟨wa.heap.size,0,none⟩ 1 1 [.string x5] rfl rfl (cell_one_new _ _ _) (by simp [Value.oneCell']) (by unfold maxLen;omega) (by omega) (by simp;omega) ?_;intro v' wb hown2 hgrow2 _))
      go_meet
      case rel => exact ⟨by simpa [optL] using hown2,(Ba.alloc Ba.size _).grown hgrow2 (by simp;omega) (fun k e => (Owa.out.lt k e).1)⟩
  case rest =>
  obtain ⟨own7,B7⟩:=hcut
  rename World => w7
  have kf7:=blk_below B7 kf3'
  have ku7:=blk_below B7 ku3'
  clear own6' kf6 ku6 nf6 nu6 s6
  have nf7:=kn kf7
  have nu7:=kn ku7
  have s7:=B7.size
  obtain ⟨L7,hL7⟩ : ∃ L : List ByteArray,L6 ++ optL Aq x5 = L:=⟨_,rfl⟩
  have l7 : L7.length ≤ 4 ∧ 1 ≤ L7.length:=(by rw [← hL7,List.length_append];have : (optL Aq x5).length ≤ 1:=(by cases Aq <;> simp [optL]);omega)
  rw [hL7] at own7 zs
  have own7':=Lib.hid own7
  replace hL7:=Lib.hid hL7
  clear own7 l6
  go_upto_if 57 with fail
  go_cut [8] from 10 (fun s8 wq => wq.ownsRow w3.heap.size 9 1 s8 (L7 ++ optL Bq x6).length ((L7 ++ optL Bq x6).map Value.string) ∧ Below w3.heap.size w3 wq)
  case first =>
    cases Bq
    · go_wp2
      go_meet
      case rel => exact ⟨by simpa [optL] using own7'.out,B7⟩
    · go_wp2_with (first|(go_at_call 43;(with_reducible refine (g6.out _ ?_).mono ?_);exact HT.out _ (b3.trans (B7.mono sw3));rintro e wa ⟨rfl,ha⟩;have owa:=owns_below own7'.out ha;have Owa:=Lib.hid owa;clear owa;have Ba : Below w3.heap.size w3 wa:=bt B7 ha;have swa:=Ba.size)|(at_builtin;refine wpList_append_own _ rfl _ _ 88 rfl w3.heap.size 9 i0 (.string ⟨#[]⟩) 1 16 Tryd.underlying88 Hi.out Hz0.out Hz1.out Hz2.out rfl (by decide) _ _ _ rfl (Owa.out.alloc _) ⟨wa.heap.size,0,none⟩ 1 1 [.string x6] rfl rfl (cell_one_new _ _ _) (by simp [Value.oneCell']) (by unfold maxLen;omega) (by omega) (by simp;omega) ?_;intro v' wb hown2 hgrow2 _))
      go_meet
      case rel => exact ⟨by simpa [optL] using hown2,(Ba.alloc Ba.size _).grown hgrow2 (by simp;omega) (fun k e => (Owa.out.lt k e).1)⟩
  case rest =>
  obtain ⟨own8,B8⟩:=hcut
  rename World => w8
  have kf8:=blk_below B8 kf3'
  have ku8:=blk_below B8 ku3'
  clear own7' kf7 ku7 nf7 nu7 s7
  have nf8:=kn kf8
  have nu8:=kn ku8
  have s8:=B8.size
  obtain ⟨L8,hL8⟩ : ∃ L : List ByteArray,L7 ++ optL Bq x6 = L:=⟨_,rfl⟩
  have l8 : L8.length ≤ 5 ∧ 1 ≤ L8.length:=(by rw [← hL8,List.length_append];have : (optL Bq x6).length ≤ 1:=(by cases Bq <;> simp [optL]);omega)
  rw [hL8] at own8 zs
  have own8':=Lib.hid own8
  replace hL8:=Lib.hid hL8
  clear own8 l7
  go_upto_region 11 with fail
  go_cut [70] from 71 (fun s70 wq => s70 = .bool (Dq || Iq) ∧ wq = w8)
  case first =>
    cases Dq <;> (go_wp2;go_meet;case rel => exact ⟨rfl,rfl⟩)
  case rest =>
  obtain ⟨rfl,rfl⟩:=hcut
  obtain ⟨Qq,hQ⟩ : ∃ Q,(Dq || Iq) = Q:=⟨_,rfl⟩
  rw [hQ] at gk zs ⊢
  replace hQ:=Lib.hid hQ
  go_upto_if 70 with fail
  go_cut [8] from 10 (fun s8 wq => wq.ownsRow w3.heap.size 9 1 s8 (L8 ++ optL Qq x7).length ((L8 ++ optL Qq x7).map Value.string) ∧ Below w3.heap.size w3 wq)
  case first =>
    cases Qq
    · go_wp2
      go_meet
      case rel => exact ⟨by simpa [optL] using own8'.out,B8⟩
    · have gk2:=Lib.hid (gk.out rfl)
      go_upto_region 12 with fail
      refine wp_region_lit ?_
      refine wpList_load_blk 29 (.tmp 1) w.heap.size #[.int .i64 f.k,.int .i64 f.fr,.int .i64 f.to_,.int .u64 f.mi,.int .u64 f.yo,.int .u64 f.a,.int .u64 f.b,.int .i64 f.ino,.int .u64 f.isq,.int .i64 f.iof,.int .i64 f.bno,.int .u64 f.bsq,.int .i64 f.bof,.int .i64 f.bde,.int .i64 f.bpr,.int .i64 f.bbo,.int .i64 f.bli,.int .i64 f.bto,.string f.da] kf8 _ rfl rfl rfl Tryd.underlying29 rfl (by kernel_rfl) ?_
      conv => arg 5;simp [Act.put]
      go_wp2_with (first|(go_at_call 48;(with_reducible refine (ga.out _).mono ?_);rintro e wd ⟨rfl,hd⟩;have Bd : Below w3.heap.size w3 wd:=bt B8 hd;have Owd:=Lib.hid (owns_below own8'.out hd))|(go_at_call 47;(with_reducible refine (gk2.out _ ?_).mono ?_);exact HT.out _ (b3.trans (Bd.mono sw3));rintro e wa ⟨rfl,ha⟩;have Owa:=Lib.hid (owns_below Owd.out ha);have Ba : Below w3.heap.size w3 wa:=bt Bd ha;have swa:=Ba.size)|(at_builtin;refine wpList_append_own _ rfl _ _ 88 rfl w3.heap.size 9 i0 (.string ⟨#[]⟩) 1 16 Tryd.underlying88 Hi.out Hz0.out Hz1.out Hz2.out rfl (by decide) _ _ _ rfl (Owa.out.alloc _) ⟨wa.heap.size,0,none⟩ 1 1 [.string x7] rfl rfl (cell_one_new _ _ _) (by simp [Value.oneCell']) (by unfold maxLen;omega) (by omega) (by simp;omega) ?_;intro v' wb hown2 hgrow2 _))
      go_meet
      case rel => exact ⟨by simpa [optL] using hown2,(Ba.alloc Ba.size _).grown hgrow2 (by simp;omega) (fun k e => (Owa.out.lt k e).1)⟩
  case rest =>
  obtain ⟨own9,B9⟩:=hcut
  rename World => w9
  obtain ⟨L9,hL9⟩ : ∃ L : List ByteArray,L8 ++ optL Qq x7 = L:=⟨_,rfl⟩
  have l9 : L9.length ≤ 6 ∧ 1 ≤ L9.length:=(by rw [← hL9,List.length_append];have : (optL Qq x7).length ≤ 1:=(by cases Qq <;> simp [optL]);omega)
  rw [hL9] at own9 zs
  replace hL9:=Lib.hid hL9
  clear own8' kf8 ku8 nf8 nu8 s8 l8
  obtain ⟨g,cap,rfl,hcap,hg,hcells⟩:=own_form own9 (List.length_pos_iff.1 (by omega))
  have gj:=Tryd.strings_Join g 0 cap L9 ⟨#[32]⟩ w9 hcells hg (by omega) hcap (Nat.le_trans (joinB_len L9 zs.out (by omega)) (by decide))
  have gj : Calls Tryd.prog 49 #[.slice (some ⟨g,0,none⟩) L9.length cap,.string ⟨#[32]⟩] w9 fun e w' => e = .returned (.string (joinB L9)) ∧ Below w9.heap.size w9 w':=gj
  replace gj:=Lib.hid gj
  obtain ⟨J,hJ⟩ : ∃ J,joinB L9 = J:=⟨_,rfl⟩
  rw [hJ] at gj
  replace hJ:=Lib.hid hJ
  clear hcells own9
  go_wp2_with (go_at_call 49;(with_reducible refine gj.out.mono ?_);rintro e wj ⟨rfl,hj⟩)
  go_ret2
  exact ⟨by rw [hV.out,hL6.out,hL7.out,hL8.out,hQ.out,hL9.out,hJ.out];rfl,b3.trans ((bt B9 hj).mono sw3)⟩
end Go.Proofs.YtaiofjffoboicaaDoor
