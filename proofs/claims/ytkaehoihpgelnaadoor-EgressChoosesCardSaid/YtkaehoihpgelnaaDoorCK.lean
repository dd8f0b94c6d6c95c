/- Parts of a proof, printed by a program of mine out of my texts: EgAwk, EgAwk2. -/
import Derived.Test.YtkaehoihpgelnaaDoorCF
import Derived.Test.YtkaehoihpgelnaaDoorCI
import Derived.Test.YtkaehoihpgelnaaDoorCW
set_option linter.unusedSimpArgs false
set_option linter.unusedVariables false
set_option maxRecDepth 100000
namespace Go.Proofs.YtkaehoihpgelnaaDoor
open Go.RowKit
def fstR : Rr:=⟨[1,2,4],[0,0,4800],1200,2⟩
set_option maxHeartbeats 1600000 in
theorem first_any (w : World) : Calls Tryd.prog 12 #[] w fun e w' => ∃ a1 c1 a2 c2 a3 c3,e = .returned (.agg #[.slice a1 3 c1,.int .i64 1200,.slice a2 3 c2,.int .i64 2,.slice a3 3 c3]) ∧ SRow ic 1 w' a1 c1 [1,2,4] ∧ SRow ic 1 w' a2 c2 [0,0,4800] ∧ SRow ic 1 w' a3 c3 [0,0,0] ∧ upR w.heap.size a1 ∧ upR w.heap.size a2 ∧ upR w.heap.size a3 ∧ Below w.heap.size w w':=by
  have G : ∀ W,Calls Tryd.prog 19 #[.agg #[.int .i64 1,.int .i64 2,.int .i64 4]] W fun e w' => ∃ a1 c1 a2 c2 a3 c3,e = .returned (.tuple #[.agg #[.slice a1 3 c1,.int .i64 1200,.slice a2 3 c2,.int .i64 2,.slice a3 3 c3],.int .i64 0]) ∧ SRow ic 1 w' a1 c1 [1,2,4] ∧ SRow ic 1 w' a2 c2 [0,0,4800] ∧ SRow ic 1 w' a3 c3 [0,0,0] ∧ upR W.heap.size a1 ∧ upR W.heap.size a2 ∧ upR W.heap.size a3 ∧ Below W.heap.size W w':=fun W => by
    refine (xnew_ok 1 2 4 W (by decide)).mono ?_
    rintro e w' ⟨h1,⟨h2,_⟩|⟨_,a1,c1,a2,c2,a3,c3,h3,h4,h5,h6,h7,h8,h9⟩⟩
    · exact absurd (by decide) h2
    · exact ⟨a1,c1,a2,c2,a3,c3,h3,h4,h5,h6,h7,h8,h9,h1⟩
  replace G:=Lib.hid G
  go_enter Tryd.func12,Tryd.ntmps12
  go_wp2_with (go_at_call 19;(with_reducible refine (G.out _).mono ?_);rintro e u2 ⟨a1,c1,a2,c2,a3,c3,rfl,R1,R2,R3,U1,U2,U3,h2⟩;(have z2:=blk_below h2 (blk_alloc_new w #[.slice none 0 0,.int .i64 0,.slice none 0 0,.int .i64 0,.slice none 0 0] 28 rfl));(have n2:=kn z2);(have b2 : Below w.heap.size w u2:=by (repeat(first|(with_reducible first|assumption|exact Below.refl _ _|refine je ?_|refine jl ?_)|((with_reducible refine jp ?_ ?_);first|focus(dsimp only;assumption)|focus(simp;done)|focus(dsimp only;omega))|(with_reducible refine bt ?_ (by assumption)))));(have hX:=Lib.hid h2);clear h2)
  refine ret_blk (b:=w.heap.size) (c:=#[.slice a1 3 c1,.int .i64 1200,.slice a2 3 c2,.int .i64 2,.slice a3 3 c3]) (v:=.agg #[.slice a1 3 c1,.int .i64 1200,.slice a2 3 c2,.int .i64 2,.slice a3 3 c3]) (by (apply jt;(focus repeat(first|(with_reducible first|assumption|apply jd|apply js)|((with_reducible apply jo);first|focus(dsimp only;assumption)|focus(simp;done)|focus(dsimp only;omega))|((with_reducible apply jn);first|with_reducible rfl|focus(simp;done)|focus(simp;omega))|(with_reducible apply ja)|((with_reducible apply jb);with_reducible assumption)));rfl)) (fun W' hc => by simp [results,Tryd.results12,go_sem,hc]) rfl ?_
  have lt : (w.alloc (.cells #[.slice none 0 0,.int .i64 0,.slice none 0 0,.int .i64 0,.slice none 0 0] 28)).heap.size = w.heap.size + 1:=by simp
  rw [lt] at U1 U2 U3
  refine ⟨a1,c1,a2,c2,a3,c3,rfl,?_,?_,?_,U1.mono (Nat.le_succ _),U2.mono (Nat.le_succ _),U3.mono (Nat.le_succ _),?_⟩
  · exact (R1.sameB (g:=w.heap.size) (by (repeat (first|(with_reducible exact SameB.refl _ _)|(with_reducible refine SameB.set ?_ _ _)))) (U1.neA (Nat.lt_succ_self _) _)).below ((Below.refl _ _).alloc (Nat.le_refl _) _)
  · exact (R2.sameB (g:=w.heap.size) (by (repeat (first|(with_reducible exact SameB.refl _ _)|(with_reducible refine SameB.set ?_ _ _)))) (U2.neA (Nat.lt_succ_self _) _)).below ((Below.refl _ _).alloc (Nat.le_refl _) _)
  · exact (R3.sameB (g:=w.heap.size) (by (repeat (first|(with_reducible exact SameB.refl _ _)|(with_reducible refine SameB.set ?_ _ _)))) (U3.neA (Nat.lt_succ_self _) _)).below ((Below.refl _ _).alloc (Nat.le_refl _) _)
  · (repeat(first|(with_reducible first|assumption|exact Below.refl _ _|refine je ?_|refine jl ?_)|((with_reducible refine jp ?_ ?_);first|focus(dsimp only;assumption)|focus(simp;done)|focus(dsimp only;omega))|(with_reducible refine bt ?_ (by assumption))))
theorem first_exit {a1 c1 a2 c2 a3 c3 : _} {w w' : World} (S : Nat → Prop) (hS : ∀ b,S b → b < w.heap.size) (h1 : SRow ic 1 w' a1 c1 [1,2,4]) (h2 : SRow ic 1 w' a2 c2 [0,0,4800]) (h3 : SRow ic 1 w' a3 c3 [0,0,0]) (u1 : upR w.heap.size a1) (u2 : upR w.heap.size a2) (u3 : upR w.heap.size a3) :
    ExitS S w' #[.slice a1 3 c1,.int .i64 1200,.slice a2 3 c2,.int .i64 2,.slice a3 3 c3] fstR [0,0,0]:=⟨a1,c1,a2,c2,a3,c3,rfl,h1,h2,h3,u1.neS hS _,u2.neS hS _,u3.neS hS _⟩
def szK (n pr : Int) (k : Nat) : Int:=(sizeC 1 n 0 2 pr 1 1000 k k).1
def lenAt (W : World) (b : Nat) : Nat:=match W.cell? ⟨b,8,none⟩ with
  | some (.string s) => s.size
  | _ => 0
set_option maxHeartbeats 1600000 in
theorem sized_any (n : Nat) (pr sz : Int) (K : Nat) (hn : n ≤ 100) (hpr : 0 ≤ pr ∧ pr ≤ 2) (hK1 : 1 ≤ K) (hK : K < 1000) (hge : sz ≤ szK n pr K) (hlt : ∀ j,1 ≤ j → j < K → szK n pr j < sz) (w : World) :
    Calls Tryd.prog 32 #[.int .i64 n,.int .i64 pr,.int .i64 sz] w fun e w' => ∃ da : ByteArray,da.size = K ∧ e = .returned (.agg #[.int .i64 1,.int .u64 n,.int .i64 0,.int .i64 2,.int .i64 pr,.int .i64 1,.int .i64 1000,.int .i64 K,.string da]) ∧ Below w.heap.size w w':=by
  have HG:=Lib.hid hge;have HL:=Lib.hid hlt
  have m1 : IntKind.u64.wrap (n : Int) = n:=IntWalk.u64_in _ (by omega)
  have GZ : ∀ (k : Nat) (da : ByteArray),da.size = k → k ≤ 1000 → ∀ W,Calls Tryd.prog 54 #[.agg #[.int .i64 1,.int .u64 n,.int .i64 0,.int .i64 2,.int .i64 pr,.int .i64 1,.int .i64 1000,.int .i64 k,.string da]] W fun e w' => ∃ z,e = .returned (.tuple #[.int .i64 (szK n pr k),.int .i64 z]) ∧ Below W.heap.size W w':=fun k da hk h1 W => by
    have h9:=refSizeB_any 1 n 0 2 pr 1 1000 k da (by unfold maxLen;omega) (by omega) W
    rw [hk] at h9
    exact h9.mono fun e w' h => ⟨_,h.1,h.2⟩
  replace GZ:=Lib.hid GZ
  clear hge hlt
  go_enter Tryd.func32,Tryd.ntmps32
  go_wp2
  go_loopw [8] (fun v wr => ∃ (k : Nat) (da : ByteArray),1 ≤ k ∧ k ≤ K ∧ da.size = k ∧ Below w.heap.size w wr ∧ blk wr w.heap.size = some #[.int .i64 0,.int .u64 0,.int .i64 0,.int .i64 0,.int .i64 0,.int .i64 0,.int .i64 0,.int .i64 0,.string ⟨#[]⟩] ∧ blk wr (w.heap.size + 1) = some #[.int .i64 1,.int .u64 n,.int .i64 0,.int .i64 2,.int .i64 pr,.int .i64 1,.int .i64 1000,.int .i64 k,.string da]) (fun _ wr => K - lenAt wr (w.heap.size + 1))
  case atStart => exact ⟨1,⟨#[97]⟩,Nat.le_refl _,hK1,rfl,by (repeat(first|(with_reducible first|exact Below.refl _ _|refine je ?_|refine jl ?_)|((with_reducible refine jp ?_ ?_);first|focus(dsimp only;assumption)|focus(simp;done)|focus(dsimp only;omega))|(with_reducible refine bt ?_ (by assumption)))),by (apply jt;(focus repeat(first|(with_reducible first|assumption|apply jd|apply js)|((with_reducible apply jo);first|focus(dsimp only;assumption)|focus(simp;done)|focus(dsimp only;omega))|((with_reducible apply jn);first|with_reducible rfl|focus(simp;done)|focus(simp;omega))|(with_reducible apply ja)|((with_reducible apply jb);with_reducible assumption)));rfl),by (apply jt;(focus repeat(first|(with_reducible first|assumption|apply jd|apply js)|((with_reducible apply jo);first|focus(dsimp only;assumption)|focus(simp;done)|focus(dsimp only;omega))|((with_reducible apply jn);first|with_reducible rfl|focus(simp;done)|focus(simp;omega))|(with_reducible apply ja)|((with_reducible apply jb);with_reducible assumption)));rfl)⟩
  case round =>
    obtain ⟨k,da,k1,k2,rfl,hB,kz,kb⟩:=hrel
    obtain ⟨k,hk⟩ : ∃ k,da.size = k:=⟨_,rfl⟩
    rw [hk] at k1 k2 kb
    have nz:=kn kz
    have nb:=kn kb
    obtain ⟨s,hs⟩ : ∃ s,szK n pr k = s:=⟨_,rfl⟩
    have GZ2 : Hid (∀ W,Calls Tryd.prog 54 #[.agg #[.int .i64 1,.int .u64 n,.int .i64 0,.int .i64 2,.int .i64 pr,.int .i64 1,.int .i64 1000,.int .i64 k,.string da]] W fun e w' => ∃ z,e = .returned (.tuple #[.int .i64 s,.int .i64 z]) ∧ Below W.heap.size W w'):=Lib.hid (fun W => by rw [← hs];exact GZ.out k da hk (by omega) W)
    have HS:=Lib.hid hs
    have KB:=Lib.hid kb
    have HK:=Lib.hid hk
    have l1 : ¬ (1000 : Int) ≤ (da.size : Int):=by omega
    have d1 : decide ((1000 : Int) ≤ (da.size : Int)) = false:=decide_eq_false l1
    have d2 : ¬ 2 ^ 63 - 1 < da.size + 1:=by omega
    clear hs
    by_cases hkK : k = K
    · subst hkK
      have t1 : decide (sz ≤ s) = true:=decide_eq_true (by have:=HG.out;rw [HS.out] at this;exact this)
      have l2 : sz ≤ s:=by simpa using t1
      have hun : undef = Value.tuple #[]:=rfl
      go_wp2_with (go_at_call 54;(with_reducible refine (GZ2.out _).mono ?_);rintro e u2 ⟨z,rfl,h2⟩;(have b2:=bt hB h2);(have kz2:=blk_below h2 kz);(have kb2:=blk_below h2 kb);(have nz2:=kn kz2);(have nb2:=kn kb2);clear h2 nz nb kz kb hB)
      refine ret_blk (b:=w.heap.size) (c:=#[.int .i64 1,.int .u64 n,.int .i64 0,.int .i64 2,.int .i64 pr,.int .i64 1,.int .i64 1000,.int .i64 k,.string da]) (v:=.agg #[.int .i64 1,.int .u64 n,.int .i64 0,.int .i64 2,.int .i64 pr,.int .i64 1,.int .i64 1000,.int .i64 k,.string da]) (by (apply jt;(focus repeat(first|(with_reducible first|assumption|apply jd|apply js)|((with_reducible apply jo);first|focus(dsimp only;assumption)|focus(simp;done)|focus(dsimp only;omega))|((with_reducible apply jn);first|with_reducible rfl|focus(simp;done)|focus(simp;omega))|(with_reducible apply ja)|((with_reducible apply jb);with_reducible assumption)));rfl)) (fun W' hc => by simp [results,Tryd.results32,go_sem,hc]) rfl ?_
      exact ⟨da,hk,rfl,by (repeat(first|(with_reducible first|assumption|exact Below.refl _ _|refine je ?_|refine jl ?_)|((with_reducible refine jp ?_ ?_);first|focus(dsimp only;assumption)|focus(simp;done)|focus(dsimp only;omega))|(with_reducible refine bt ?_ (by assumption))))⟩
    · have t1 : decide (sz ≤ s) = false:=decide_eq_false (by have:=HL.out k k1 (by omega);rw [HS.out] at this;omega)
      have l2 : ¬ sz ≤ s:=by simpa using t1
      go_wp2_with (go_at_call 54;(with_reducible refine (GZ2.out _).mono ?_);rintro e u2 ⟨z,rfl,h2⟩;(have b2:=bt hB h2);(have kz2:=blk_below h2 kz);(have kb2:=blk_below h2 kb);(have nz2:=kn kz2);(have nb2:=kn kb2);clear h2 nz nb kz kb hB)
      refine ⟨⟨k + 1,da ++ ⟨#[97]⟩,by omega,by omega,by rw [ByteArray.size_append,hk];rfl,by (repeat(first|(with_reducible first|assumption|exact Below.refl _ _|refine je ?_|refine jl ?_)|((with_reducible refine jp ?_ ?_);first|focus(dsimp only;assumption)|focus(simp;done)|focus(dsimp only;omega))|(with_reducible refine bt ?_ (by assumption)))),by (apply jt;(focus repeat(first|(with_reducible first|assumption|apply jd|apply js)|((with_reducible apply jo);first|focus(dsimp only;assumption)|focus(simp;done)|focus(dsimp only;omega))|((with_reducible apply jn);first|with_reducible rfl|focus(simp;done)|focus(simp;omega))|(with_reducible apply ja)|((with_reducible apply jb);with_reducible assumption)));rfl),?_⟩,?_⟩
      · (apply jt;(focus repeat(first|(with_reducible first|assumption|apply jd|apply js)|((with_reducible apply jo);first|focus(dsimp only;assumption)|focus(simp;done)|focus(dsimp only;omega))|((with_reducible apply jn);first|with_reducible rfl|focus(simp;done)|focus(simp;omega))|(with_reducible apply ja)|((with_reducible apply jb);with_reducible assumption)));rfl)
      · have e1 : lenAt wr (w.heap.size + 1) = k:=by unfold lenAt;rw [blk_cell KB.out 8];exact hk
        have e2 : ∀ v,lenAt ((u2.setCell { block:=w.heap.size + 1,off:=8 } (Value.string (da ++ { data:=#[97] }))).setCell { block:=w.heap.size + 1,off:=7 } v) (w.heap.size + 1) = k + 1:=fun v => by
          have h9 : blk ((u2.setCell { block:=w.heap.size + 1,off:=8 } (Value.string (da ++ { data:=#[97] }))).setCell { block:=w.heap.size + 1,off:=7 } v) (w.heap.size + 1) = some #[.int .i64 1,.int .u64 n,.int .i64 0,.int .i64 2,.int .i64 pr,.int .i64 1,.int .i64 1000,v,.string (da ++ ⟨#[97]⟩)]:=by (apply jt;(focus repeat(first|(with_reducible first|assumption|apply jd|apply js)|((with_reducible apply jo);first|focus(dsimp only;assumption)|focus(simp;done)|focus(dsimp only;omega))|((with_reducible apply jn);first|with_reducible rfl|focus(simp;done)|focus(simp;omega))|(with_reducible apply ja)|((with_reducible apply jb);with_reducible assumption)));rfl)
          unfold lenAt;rw [blk_cell h9 8]
          show (da ++ ⟨#[97]⟩).size = k + 1
          rw [ByteArray.size_append,hk];rfl
        rw [e1,e2];omega
def sb (n pr : Int) (K : Nat) (da : ByteArray) : Bn:=⟨1,n,0,2,pr,1,1000,K,da⟩
theorem srow_of_blk {α : Type} {enc : α → List Value} {k : Nat} (hk : ∀ x,(enc x).length = k) {w : World} {g cap : Nat} {l : List α} {sp : List Value} (hb : blk w g = some (rowC enc l ++ sp).toArray) (hc : l.length ≤ cap) (hm : cap ≤ maxLen) : SRow enc k w (some ⟨g,0,none⟩) cap l :=
  ⟨hc,hm,(fun h => by cases h),fun _ => ⟨g,0,rfl,blk_lt hb,fun i hi => by rw [Nat.zero_add];exact range_row hk hb (List.getElem?_eq_getElem hi)⟩⟩
theorem srow_blkI {w : World} {g : Nat} {l : List Int} {c : Array Value} (hb : blk w g = some c) (e : c = (rowC ic l).toArray) (hm : l.length ≤ 1000) : SRow ic 1 w (some ⟨g,0,none⟩) l.length l :=
  srow_of_blk (sp:=[]) ic_len (by rw [List.append_nil,← e];exact hb) (Nat.le_refl _) (by unfold maxLen;omega)
theorem lt_all {n pr sz : Int} {K : Nat} (h : (List.range K).all (fun j => decide (j = 0) || decide (szK n pr j < sz)) = true) : ∀ j,1 ≤ j → j < K → szK n pr j < sz:=fun j h1 h2 => by
  have:=List.all_eq_true.1 h j (List.mem_range.2 h2)
  simp only [Bool.or_eq_true,decide_eq_true_eq] at this
  omega
theorem sized_1 (w : World) : Calls Tryd.prog 32 #[.int .i64 1,.int .i64 2,.int .i64 300] w fun e w' => ∃ da : ByteArray,da.size = 287 ∧ e = .returned (.agg #[.int .i64 1,.int .u64 1,.int .i64 0,.int .i64 2,.int .i64 2,.int .i64 1,.int .i64 1000,.int .i64 287,.string da]) ∧ Below w.heap.size w w' :=
  sized_any 1 2 300 287 (by decide) (by decide) (by decide) (by decide) (by decide +kernel) (lt_all (by decide +kernel)) w
theorem sized_2 (w : World) : Calls Tryd.prog 32 #[.int .i64 2,.int .i64 2,.int .i64 200] w fun e w' => ∃ da : ByteArray,da.size = 187 ∧ e = .returned (.agg #[.int .i64 1,.int .u64 2,.int .i64 0,.int .i64 2,.int .i64 2,.int .i64 1,.int .i64 1000,.int .i64 187,.string da]) ∧ Below w.heap.size w w' :=
  sized_any 2 2 200 187 (by decide) (by decide) (by decide) (by decide) (by decide +kernel) (lt_all (by decide +kernel)) w
theorem sized_3 (w : World) : Calls Tryd.prog 32 #[.int .i64 3,.int .i64 0,.int .i64 100] w fun e w' => ∃ da : ByteArray,da.size = 88 ∧ e = .returned (.agg #[.int .i64 1,.int .u64 3,.int .i64 0,.int .i64 2,.int .i64 0,.int .i64 1,.int .i64 1000,.int .i64 88,.string da]) ∧ Below w.heap.size w w' :=
  sized_any 3 0 100 88 (by decide) (by decide) (by decide) (by decide) (by decide +kernel) (lt_all (by decide +kernel)) w
def T3 (a b c : ByteArray) : List Bn:=[sb 1 2 287 a,sb 2 2 187 b,sb 3 0 88 c]
set_option maxHeartbeats 1600000 in
theorem three_any (w : World) : Calls Tryd.prog 31 #[] w fun e w' => ∃ (g : Nat) (a b c : ByteArray),e = .returned (.slice (some ⟨g,0,none⟩) 3 3) ∧ w.heap.size ≤ g ∧ a.size = 287 ∧ b.size = 187 ∧ c.size = 88 ∧ SRow bn 9 w' (some ⟨g,0,none⟩) 3 (T3 a b c) ∧ Below w.heap.size w w':=by
  go_enter Tryd.func31,Tryd.ntmps31
  go_wp2_with (go_at_call 32;first
    | (with_reducible refine (sized_1 _).mono ?_;rintro e w1 ⟨da,ha,rfl,h1⟩)
    | (with_reducible refine (sized_2 _).mono ?_;rintro e w2 ⟨db,hb,rfl,h2⟩)
    | (with_reducible refine (sized_3 _).mono ?_;rintro e w3 ⟨dc,hc,rfl,h3⟩))
  go_ret
  have b3:=bt (bt h1 h2) h3
  refine ⟨w3.heap.size,da,db,dc,rfl,b3.size,ha,hb,hc,srow_of_blk (sp:=[]) bn_len (blk_alloc_new _ _ _ rfl) (Nat.le_refl 3) (by unfold maxLen;omega),b3.alloc b3.size _⟩
set_option maxHeartbeats 1600000 in
theorem all_any (l : List Bn) (al : Option Addr) (cl : Nat) (us bu by' passed : Int) (want : List Int) (y : Wy) (aw : Option Addr) (cw : Nat) (h : OpnG fstR [0,0,0] l us bu by') (hA : allS (l.length + 1) (opnW fstR [0,0,0] l us bu by') = (want,y)) (hy : y.ps.length = 3) (hp : at3 y.ps 2 = passed) (hwl : want.length ≤ 100)
    (w : World) (hT : HTab w) (hrow : SRow bn 9 w al cl l) (hw : SRow ic 1 w aw cw want) :
    Calls Tryd.prog 33 #[.slice al l.length cl,.int .u64 us,.int .i64 bu,.int .i64 by',.int .i64 passed,.slice aw want.length cw] w fun e w' => e = .returned (.bool true) ∧ Below w.heap.size w w':=by
  have GA:=Lib.hid (fun W c (hB : Below w.heap.size w W) (hX : ExitS (fun _ => False) W c fstR [0,0,0]) => (show Calls Tryd.prog 11 #[.agg c,.slice al l.length cl,.int .u64 us,.int .i64 bu,.int .i64 by'] W fun e w' => RetAl (fun _ => False) want y W e w' from by
    have h9:=allX_any h (l.length + 1) (Nat.lt_succ_self _) c al cl W (hT.on hB) (fun _ => False) (fun _ h => h.elim) hX (hrow.below hB) (fun _ _ _ _ h => h)
    rw [hA] at h9
    exact h9))
  have GS:=Lib.hid (fun W a c (hB : Below w.heap.size w W) (hR : SRow ic 1 W a c want) => (show Calls Tryd.prog 26 #[.slice a want.length c,.slice aw want.length cw] W fun e w' => e = .returned (.bool true) ∧ Below W.heap.size W w' from by
    have h9:=sameZ_any a aw c cw want want (by omega) (by omega) W hR (hw.below hB)
    rw [decide_eq_true rfl] at h9
    exact h9))
  obtain ⟨p0,p1,p2,hps⟩:=list3 hy
  rw [hps] at hp
  have hp : p2 = passed:=hp
  subst hp
  obtain ⟨ps,hps2⟩ : ∃ v,v = y.ps:=⟨_,rfl⟩
  obtain ⟨yr,hyr⟩ : ∃ v,v = y.dr:=⟨_,rfl⟩
  have HPS:=Lib.hid (hps2.trans hps)
  unfold RetAl at GA
  rw [← hps2,← hyr] at GA
  obtain ⟨n,hn⟩ : ∃ v,v = l.length:=⟨_,rfl⟩
  obtain ⟨m,hm⟩ : ∃ v,v = want.length:=⟨_,rfl⟩
  rw [← hn,← hm] at GA ⊢
  rw [← hm] at GS
  have t1 : ((0 : Int) == 0) = true:=rfl
  have t3 : ((3 : Int) == 3) = true:=rfl
  clear hn hm hps hps2 hyr hy h hA hwl hT hrow hw
  go_enter Tryd.func33,Tryd.ntmps33
  go_upto_region 2 with (first
    | (go_at_call 12;(with_reducible refine (first_any _).mono ?_);rintro e u1 ⟨a1,c1,a2,c2,a3,c3,rfl,R1,R2,R3,U1,U2,U3,h1⟩;(have X1:=first_exit (w:=w) (fun _ => False) (fun _ h => h.elim) R1 R2 R3 U1 U2 U3);clear R1 R2 R3 U1 U2 U3)
    | (go_at_call 11;(with_reducible refine (GA.out _ _ h1 X1).mono ?_);rintro e u2 ⟨o1,oc,cc,rfl,RO,hE,h2,_⟩;(have b2:=bt h1 h2);clear X1 h1 h2;obtain ⟨aw2,cw2,ad2,cd2,ap2,cp2,rfl,R1,R2,R3,_⟩:=hE))
  rw [HPS.out] at R3
  obtain ⟨bp,op,rfl,lp,_⟩:=R3.2.2.2 (by simp)
  have ce:=(srow_cellE R3 (j:=2) (by simp)).2
  obtain ⟨V,eV⟩ : ∃ v,v = u2.alloc (.cells #[.slice aw2 3 cw2,.int .i64 yr.q,.slice ad2 3 cd2,.int .i64 yr.t,.slice (some ⟨bp,op,none⟩) 3 cp2] 28):=⟨_,rfl⟩
  obtain ⟨g,eg⟩ : ∃ v,v = u2.heap.size:=⟨_,rfl⟩
  have hV : Below u2.heap.size u2 V:=(by rw [eV];exact (Below.refl _ _).alloc (Nat.le_refl _) _)
  have kV : blk V g = some #[.slice aw2 3 cw2,.int .i64 yr.q,.slice ad2 3 cd2,.int .i64 yr.t,.slice (some ⟨bp,op,none⟩) 3 cp2]:=(by rw [eV];exact blk_alloc_new _ _ _ eg)
  have bV:=bt b2 hV
  have ROV:=RO.below hV
  have ceV:=(hV.cell (p:=⟨bp,op + 2,none⟩) lp).trans ce
  have lpV : bp < V.heap.size:=Nat.lt_of_lt_of_le lp hV.size
  have hcp:=R3.1
  rw [← eV,← eg]
  clear eV eg hV b2 RO ce lp R1 R2 R3
  have hc3 : (2 : Int) < 3:=by decide
  go_wp2_with (go_at_call 26;(with_reducible refine (GS.out _ _ _ bV ROV).mono ?_);rintro e u3 ⟨rfl,h3⟩;(have b3:=bt bV h3);(have k3:=blk_below h3 kV);(have n3:=kn k3);(have ce3:=(h3.cell (p:=⟨bp,op + 2,none⟩) lpV).trans ceV);clear h3 ROV kV ceV bV)
  go_ret
  exact ⟨by simp,b3⟩
theorem sb_code {n pr : Int} {K : Nat} {da : ByteArray} (h0 : n ≤ 100) (hpr : 0 ≤ pr ∧ pr ≤ 2) (hK1 : 1 ≤ K) (hK : K ≤ 1000) (hd : da.size = K) : bcode (sb n pr K da) = 0:=by
  show buC 1 n 0 2 pr 1 1000 K da.size = 0
  rw [hd]
  unfold buC
  rw [if_neg (not_not_intro (by unfold okI;omega)),if_neg (not_not_intro (by unfold okN;omega)),if_neg (by omega),if_neg (by omega),if_neg (by omega)]
theorem sb_sz {n pr : Int} {K : Nat} {da : ByteArray} (hd : da.size = K) : szB (sb n pr K da) = szK n pr K:=by
  unfold szB szK sb
  rw [hd]
theorem T3_ok {a b c : ByteArray} (ha : a.size = 287) (hb : b.size = 187) (hc : c.size = 88) {us bu by' : Int} (h1 : 0 ≤ us ∧ us ≤ 18446744073709551615) (h2 : 0 ≤ bu ∧ bu ≤ 9223372036854775807) (h3 : 0 ≤ by' ∧ by' ≤ 100) : OpnG fstR [0,0,0] (T3 a b c) us bu by':=by
  have e1 : bcode (sb 1 2 287 a) = 0:=sb_code (by decide) (by decide) (by decide) (by decide) ha
  have e2 : bcode (sb 2 2 187 b) = 0:=sb_code (by decide) (by decide) (by decide) (by decide) hb
  have e3 : bcode (sb 3 0 88 c) = 0:=sb_code (by decide) (by decide) (by decide) (by decide) hc
  refine ⟨(show 3 ≤ 20 by decide),by decide,lstE_zero (show ¬ 1000 < 3 by decide) (fun i hi => ?_) (show [((1 : Int),(1 : Int),(0 : Int)),(1,2,0),(1,3,0)].Nodup by decide),fun x hx => ?_,h1,h2,h3⟩
  · match i,hi with
    | 0,_ => exact e1
    | 1,_ => exact e2
    | 2,_ => exact e3
  · simp only [T3,List.mem_cons,List.not_mem_nil,or_false] at hx
    rcases hx with rfl|rfl|rfl
    · exact (show (0 : Int) ≤ 1 by decide)
    · exact (show (0 : Int) ≤ 2 by decide)
    · exact (show (0 : Int) ≤ 3 by decide)
theorem T3_sz {a b c : ByteArray} (ha : a.size = 287) (hb : b.size = 187) (hc : c.size = 88) : sizesE (T3 a b c) = [300,200,100]:=by
  show [szB (sb 1 2 287 a),szB (sb 2 2 187 b),szB (sb 3 0 88 c)] = _
  rw [sb_sz ha,sb_sz hb,sb_sz hc]
  decide +kernel
theorem T3_q0 (a b c : ByteArray) : queS (T3 a b c) 0 = [2]:=by kernel_rfl
theorem T3_q1 (a b c : ByteArray) : queS (T3 a b c) 1 = []:=by kernel_rfl
theorem T3_q2 (a b c : ByteArray) : queS (T3 a b c) 2 = [0,1]:=by kernel_rfl
theorem T3_opn {a b c : ByteArray} (ha : a.size = 287) (hb : b.size = 187) (hc : c.size = 88) (us bu by' : Int) : opnW fstR [0,0,0] (T3 a b c) us bu by' = ⟨fstR,[0,0,0],T3 a b c,[[2],[],[0,1]],[300,200,100],us,bu,by'⟩:=by
  unfold opnW
  rw [T3_sz ha hb hc,T3_q0,T3_q1,T3_q2]
theorem T3_all1 (a b c : ByteArray) : (allS 4 ⟨fstR,[0,0,0],T3 a b c,[[2],[],[0,1]],[300,200,100],1000,1000,5⟩).1 = [0,1,2]:=by kernel_rfl
theorem T3_ps1 (a b c : ByteArray) : (allS 4 ⟨fstR,[0,0,0],T3 a b c,[[2],[],[0,1]],[300,200,100],1000,1000,5⟩).2.ps = [0,0,0]:=by kernel_rfl
theorem T3_all2 (a b c : ByteArray) : (allS 4 ⟨fstR,[0,0,0],T3 a b c,[[2],[],[0,1]],[300,200,100],250,1000,5⟩).1 = [1]:=by kernel_rfl
theorem T3_ps2 (a b c : ByteArray) : (allS 4 ⟨fstR,[0,0,0],T3 a b c,[[2],[],[0,1]],[300,200,100],250,1000,5⟩).2.ps = [0,0,1]:=by kernel_rfl
theorem awk_1 {a b c : ByteArray} (ha : a.size = 287) (hb : b.size = 187) (hc : c.size = 88) (g bw : Nat) (w : World) (hT : HTab w) (hR : SRow bn 9 w (some ⟨g,0,none⟩) 3 (T3 a b c)) (hk : blk w bw = some #[.int .i64 0,.int .i64 1,.int .i64 2]) :
    Calls Tryd.prog 33 #[.slice (some ⟨g,0,none⟩) 3 3,.int .u64 1000,.int .i64 1000,.int .i64 5,.int .i64 0,.slice (some ⟨bw,0,none⟩) 3 3] w fun e w' => e = .returned (.bool true) ∧ Below w.heap.size w w':=by
  refine all_any (T3 a b c) (some ⟨g,0,none⟩) 3 1000 1000 5 0 [0,1,2] (allS 4 (opnW fstR [0,0,0] (T3 a b c) 1000 1000 5)).2 (some ⟨bw,0,none⟩) 3 (T3_ok ha hb hc (by decide) (by decide) (by decide)) ?_ ?_ ?_ (by decide) w hT hR (srow_blkI hk rfl (by decide))
  · rw [← T3_all1 a b c,← T3_opn ha hb hc];rfl
  · rw [T3_opn ha hb hc,T3_ps1];rfl
  · rw [T3_opn ha hb hc,T3_ps1];rfl
theorem awk_2 {a b c : ByteArray} (ha : a.size = 287) (hb : b.size = 187) (hc : c.size = 88) (g bw : Nat) (w : World) (hT : HTab w) (hR : SRow bn 9 w (some ⟨g,0,none⟩) 3 (T3 a b c)) (hk : blk w bw = some #[.int .i64 1]) :
    Calls Tryd.prog 33 #[.slice (some ⟨g,0,none⟩) 3 3,.int .u64 250,.int .i64 1000,.int .i64 5,.int .i64 1,.slice (some ⟨bw,0,none⟩) 1 1] w fun e w' => e = .returned (.bool true) ∧ Below w.heap.size w w':=by
  refine all_any (T3 a b c) (some ⟨g,0,none⟩) 3 250 1000 5 1 [1] (allS 4 (opnW fstR [0,0,0] (T3 a b c) 250 1000 5)).2 (some ⟨bw,0,none⟩) 1 (T3_ok ha hb hc (by decide) (by decide) (by decide)) ?_ ?_ ?_ (by decide) w hT hR (srow_blkI hk rfl (by decide))
  · rw [← T3_all2 a b c,← T3_opn ha hb hc];rfl
  · rw [T3_opn ha hb hc,T3_ps2];rfl
  · rw [T3_opn ha hb hc,T3_ps2];rfl
set_option maxHeartbeats 1600000 in
theorem awake_any (w : World) (hT : HTab w) : Calls Tryd.prog 14 #[] w fun e w' => e = .returned (.bool true) ∧ Below w.heap.size w w':=by
  have HT:=Lib.hid hT
  clear hT
  go_enter Tryd.func14,Tryd.ntmps14
  go_wp2_with (first
    | (go_at_call 31;first
      | (with_reducible refine (three_any w).mono ?_;rintro e w1 ⟨g1,a1,b1,c1,rfl,lg1,ha1,hb1,hc1,R1,h1⟩)
      | (with_reducible refine (three_any w3).mono ?_;rintro e w4 ⟨g2,a2,b2,c2,rfl,lg2,ha2,hb2,hc2,R2,h4⟩;(have b4:=bt b3 h4)))
    | (go_at_call 33;first
      | (with_reducible refine (awk_1 ha1 hb1 hc1 g1 w1.heap.size _ (HT.out.on (h1.alloc h1.size _)) (R1.below ((Below.refl _ _).alloc (Nat.le_refl _) _)) (blk_alloc_new _ _ _ rfl)).mono ?_;rintro e w3 ⟨rfl,h3⟩;(have b3:=bt (h1.alloc h1.size _) h3))
      | (with_reducible refine (awk_2 ha2 hb2 hc2 g2 w4.heap.size _ (HT.out.on (b4.alloc b4.size _)) (R2.below ((Below.refl _ _).alloc (Nat.le_refl _) _)) (blk_alloc_new _ _ _ rfl)).mono ?_;rintro e w5 ⟨rfl,h5⟩;(have b5:=bt (b4.alloc b4.size _) h5))))
  go_ret
  exact ⟨rfl,b5⟩
end Go.Proofs.YtkaehoihpgelnaaDoor
