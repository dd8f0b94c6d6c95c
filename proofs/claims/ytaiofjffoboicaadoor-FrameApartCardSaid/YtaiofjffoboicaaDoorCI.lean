/- Parts of a proof, printed by a program of mine out of my texts: WiRefRead, WiRefFields, WiRefPeek. -/
import Derived.Test.YtaiofjffoboicaaDoorCE
set_option linter.unusedSimpArgs false
set_option linter.unusedVariables false
namespace Go.Proofs.YtaiofjffoboicaaDoor
open Go.RowKit
def Touch (b : Nat) (w w' : World) : Prop:=Below b w w' ∧ (∀ d c,d ≠ b → blk w d = some c → blk w' d = some c) ∧ w.heap.size ≤ w'.heap.size
theorem Touch.refl (b : Nat) (w : World) : Touch b w w:=⟨Below.refl _ _,fun _ _ _ h => h,Nat.le_refl _⟩
theorem Touch.set {b i : Nat} {w W : World} {v : Value} (h : Touch b w W) : Touch b w (W.setCell ⟨b,i,none⟩ v) :=
  ⟨h.1.setCell (p:=⟨b,i,none⟩) (Nat.le_refl _) v,fun d c hd hc => blk_other (h.2.1 d c hd hc) hd,by simpa using h.2.2⟩
theorem Touch.drew {b : Nat} {w W : World} (h : Touch b w W) : Touch b w W.drew:=⟨h.1.drew,fun d c hd hc => blk_drew (h.2.1 d c hd hc),h.2.2⟩
theorem Touch.below {b : Nat} {w W W' : World} (h : Touch b w W) (hb : Below W.heap.size W W') (hlt : b ≤ W.heap.size) : Touch b w W' :=
  ⟨h.1.trans (hb.mono hlt),fun d c hd hc => blk_below hb (h.2.1 d c hd hc),Nat.le_trans h.2.2 hb.size⟩
theorem Touch.trans {b : Nat} {w W W' : World} (h : Touch b w W) (k : Touch b W W') : Touch b w W' :=
  ⟨h.1.trans k.1,fun d c hd hc => k.2.1 d c hd (h.2.1 d c hd hc),Nat.le_trans h.2.2 k.2.2⟩
theorem Touch.setNew {b d i : Nat} {w W : World} {v : Value} (h : Touch b w W) (hd : w.heap.size ≤ d) (hb : b < w.heap.size) : Touch b w (W.setCell ⟨d,i,none⟩ v) :=
  ⟨h.1.setCell (p:=⟨d,i,none⟩) (by simp only;omega) v,fun e c he hc => blk_other (h.2.1 e c he hc) (by have:=blk_lt hc;simp only;omega),by simpa using h.2.2⟩
theorem Touch.setNew' {b d i : Nat} {w W : World} {v : Value} (hd : w.heap.size ≤ d) (hb : b < w.heap.size) (h : Touch b w W) : Touch b w (W.setCell ⟨d,i,none⟩ v):=h.setNew hd hb
theorem Touch.alloc {b : Nat} {w W : World} {o : Obj} (h : Touch b w W) (hb : b < w.heap.size) : Touch b w (W.alloc o) :=
  h.below ((Below.refl _ _).alloc (Nat.le_refl _) _) (Nat.le_trans (Nat.le_of_lt hb) h.2.2)
def rdJ (l : List UInt8) (m : Int) (r : Rs) : Int × Rs :=
  if r.err ≠ 0 then (0,r) else if (intN l r.pos m).2.2 ≠ 0 then (0,⟨r.pos,(intN l r.pos m).2.2,(intN l r.pos m).2.1⟩) else ((intN l r.pos m).1,⟨(intN l r.pos m).2.1,0,r.fat⟩)
abbrev rdC (s : ByteArray) (p er fa : Int) : Array Value:=#[.string s,.int .i64 p,.int .i64 er,.int .i64 fa]
def SameR (r r' : Rs) : Prop:=r.err = r'.err ∧ r.fat = r'.fat ∧ (r.err = 0 → r.pos = r'.pos)
theorem intN_zero (l : List UInt8) (q m : Int) (h : (intN l q m).2.2 ≠ 0) : (intN l q m).1 = 0:=by
  unfold intN at h ⊢
  split
  · rfl
  · rename_i h1
    rw [if_neg h1] at h
    split
    · rfl
    · rename_i h2;rw [if_neg h2] at h;simp at h
theorem rd_same (l : List UInt8) (m : Int) {r r' : Rs} (h : SameR r r') : (rdI l m r).1 = (rdJ l m r').1 ∧ SameR (rdI l m r).2 (rdJ l m r').2:=by
  obtain ⟨p,e,f⟩:=r
  obtain ⟨p',e',f'⟩:=r'
  obtain ⟨h1,h2,h3⟩:=h
  simp only at h1 h2 h3
  subst h1 h2
  have hz:=intN_zero l p m
  by_cases he : e = 0
  · obtain rfl:=h3 he
    subst he
    unfold rdI rdJ SameR
    obtain ⟨⟨n,nx,z⟩,hg⟩ : ∃ x,intN l p m = x:=⟨_,rfl⟩
    rw [hg] at hz
    simp only [hg,ne_eq,not_true_eq_false,if_false] at hz ⊢
    by_cases h0 : z = 0
    · simp [h0]
    · simp [h0,hz h0]
  · unfold rdI rdJ SameR
    simp [he]
def fieldsJ (l : List UInt8) (fu : Bool) (r0 : Rs) : Fl :=
  let x1:=rdJ l 16 r0
  let x2:=rdJ l 1099511627776 x1.2
  let x3:=rdJ l 16 x2.2
  let x4:=rdJ l 1099511627776 x3.2
  let x5:=rdJ l 1048576 x4.2
  let x6:=if fu then (0,x5.2) else rdJ l 20000 x5.2
  let x7:=if fu then (0,x6.2) else rdJ l 20000 x6.2
  ⟨x1.1,x2.1,x6.1,x3.1,x4.1,x5.1,x7.1,x7.2⟩
theorem fields_same (l : List UInt8) (fu : Bool) (r0 : Rs) : ∃ r,fieldsJ l fu r0 = { fieldsR l fu r0 with r:=r } ∧ SameR (fieldsR l fu r0).r r:=by
  have s0 : SameR r0 r0:=⟨rfl,rfl,fun _ => rfl⟩
  have s1:=rd_same l 16 s0
  have s2:=rd_same l 1099511627776 s1.2
  have s3:=rd_same l 16 s2.2
  have s4:=rd_same l 1099511627776 s3.2
  have s5:=rd_same l 1048576 s4.2
  have s6:=rd_same l 20000 s5.2
  have s7:=rd_same l 20000 s6.2
  cases fu
  · refine ⟨(fieldsJ l false r0).r,?_,?_⟩
    · unfold fieldsJ fieldsR
      simp only [Bool.false_eq_true,if_false]
      rw [s1.1,s2.1,s3.1,s4.1,s5.1,s6.1,s7.1]
    · exact s7.2
  · refine ⟨(fieldsJ l true r0).r,?_,?_⟩
    · unfold fieldsJ fieldsR
      simp only [if_true]
      rw [s1.1,s2.1,s3.1,s4.1,s5.1]
    · exact s5.2
theorem rdJ_range (l : List UInt8) (m : Int) (r : Rs) (hm : 0 ≤ m) (hq : 0 ≤ r.pos) (hq2 : r.pos ≤ l.length) : 0 ≤ (rdJ l m r).1 ∧ (rdJ l m r).1 ≤ m ∧ 0 ≤ (rdJ l m r).2.pos ∧ (rdJ l m r).2.pos ≤ l.length:=by
  unfold rdJ
  have:=intN_range l r.pos m hq hq2
  split
  · exact ⟨by simp,hm,hq,hq2⟩
  · split
    · exact ⟨by simp,hm,hq,hq2⟩
    · refine ⟨this.1,by simp only;omega,this.2.2.1,this.2.2.2⟩
set_option maxRecDepth 100000 in
set_option maxHeartbeats 1600000 in
theorem number_any (b : Nat) (s : ByteArray) (p er fa : Int) (m : Int) (hs : s.size ≤ maxLen) (hp1 : -9223372036854775808 ≤ p) (hp2 : p ≤ 9223372036854775807) (hm2 : m ≤ 9223372036854775807) (w : World) (hb : blk w b = some (rdC s p er fa)) :
    Calls Tryd.prog 108 #[.pointer (some ⟨b,0,none⟩),.int .i64 m] w fun q w' => q = .returned (.int .i64 (rdJ s.data.toList m ⟨p,er,fa⟩).1) ∧
      blk w' b = some (rdC s (rdJ s.data.toList m ⟨p,er,fa⟩).2.pos (rdJ s.data.toList m ⟨p,er,fa⟩).2.err (rdJ s.data.toList m ⟨p,er,fa⟩).2.fat) ∧ Touch b w w':=by
  have knb:=kn hb
  have hlt:=blk_lt hb
  by_cases h1 : er = 0
  · subst h1
    have cg:=fun w => refInt_any s p m w hs hp1 hp2 hm2
    obtain ⟨⟨n,nx,e⟩,hg⟩ : ∃ r,intN s.data.toList p m = r:=⟨_,rfl⟩
    rw [hg] at cg
    have cg : ∀ w,Calls Tryd.prog 88 #[.string s,.int .i64 p,.int .i64 m] w fun e' w' => e' = .returned (.tuple #[.int .i64 n,.int .i64 nx,.int .i64 e]) ∧ w = w':=cg
    replace cg:=Lib.hid cg
    by_cases h2 : e = 0
    · have hr : rdJ s.data.toList m ⟨p,0,fa⟩ = (n,⟨nx,0,fa⟩):=by unfold rdJ;simp [hg,h2]
      rw [hr]
      clear hr hg
      subst h2
      go_enter Tryd.func108,Tryd.ntmps108
      go_wp2
      refine wp_region_in (by kernel_rfl) (by kernel_rfl) ?_
      intro W0_1 hE_1 hN_1
      have bW0_1 : Below w.heap.size w W0_1:=(by rw [hE_1.out];(repeat(first|(with_reducible first|assumption|exact Below.refl _ _|refine je ?_|refine jl ?_)|((with_reducible refine jp ?_ ?_);first|focus(dsimp only;assumption)|focus(simp;done)|focus(dsimp only;omega))|(with_reducible refine bt ?_ (by assumption)))))
      have kk2 : blk W0_1 (b) = some (rdC s p 0 fa):=(by rw [hE_1.out];(apply jt;(focus repeat(first|(with_reducible first|assumption|apply jd|apply js)|((with_reducible apply jo);first|focus(dsimp only;assumption)|focus(simp;done)|focus(dsimp only;omega))|((with_reducible apply jn);first|with_reducible rfl|focus(simp;done)|focus(simp;omega))|(with_reducible apply ja)|((with_reducible apply jb);with_reducible assumption)));rfl))
      have kn2:=calm_kn kk2
      clear hE_1
      repeat (go_big_quiet_step ((go_at_call 88;(with_reducible refine Class.same _ (cg.out _)))))
      refine wpQuiet_nil ?_
      rintro _ ⟨x_1,rfl⟩
      have hx_1 : Calm W0_1 x_1.wd:=x_1.ok
      have bw2 : Below w.heap.size w x_1.wd:=bt bW0_1 hx_1
      clear kn2;replace kk2:=blk_below hx_1 kk2;have kn2:=kn kk2
      clear hx_1 bW0_1 hN_1
      generalize x_1.wd = w2 at *
      have sw2:=bw2.size
      go_wp2
      go_ret
      exact ⟨rfl,by (apply jt;(focus repeat(first|(with_reducible first|assumption|apply jd|apply js)|((with_reducible apply jo);first|focus(dsimp only;assumption)|focus(simp;done)|focus(dsimp only;omega))|((with_reducible apply jn);first|with_reducible rfl|focus(simp;done)|focus(simp;omega))|(with_reducible apply ja)|((with_reducible apply jb);with_reducible assumption)));rfl),((Touch.refl b w).below bw2 (Nat.le_of_lt hlt)).set⟩
    · have hr : rdJ s.data.toList m ⟨p,0,fa⟩ = (0,⟨p,e,nx⟩):=by unfold rdJ;simp [hg,h2]
      rw [hr]
      have e2 : (e != 0) = true:=by simp [h2]
      clear hr hg h2
      go_enter Tryd.func108,Tryd.ntmps108
      go_wp2
      refine wp_region_in (by kernel_rfl) (by kernel_rfl) ?_
      intro W0_3 hE_3 hN_3
      have bW0_3 : Below w.heap.size w W0_3:=(by rw [hE_3.out];(repeat(first|(with_reducible first|assumption|exact Below.refl _ _|refine je ?_|refine jl ?_)|((with_reducible refine jp ?_ ?_);first|focus(dsimp only;assumption)|focus(simp;done)|focus(dsimp only;omega))|(with_reducible refine bt ?_ (by assumption)))))
      have kk4 : blk W0_3 (b) = some (rdC s p 0 fa):=(by rw [hE_3.out];(apply jt;(focus repeat(first|(with_reducible first|assumption|apply jd|apply js)|((with_reducible apply jo);first|focus(dsimp only;assumption)|focus(simp;done)|focus(dsimp only;omega))|((with_reducible apply jn);first|with_reducible rfl|focus(simp;done)|focus(simp;omega))|(with_reducible apply ja)|((with_reducible apply jb);with_reducible assumption)));rfl))
      have kn4:=calm_kn kk4
      clear hE_3
      repeat (go_big_quiet_step ((go_at_call 88;(with_reducible refine Class.same _ (cg.out _)))))
      refine wpQuiet_nil ?_
      rintro _ ⟨x_3,rfl⟩
      have hx_3 : Calm W0_3 x_3.wd:=x_3.ok
      have bw2 : Below w.heap.size w x_3.wd:=bt bW0_3 hx_3
      clear kn4;replace kk4:=blk_below hx_3 kk4;have kn4:=kn kk4
      clear hx_3 bW0_3 hN_3
      generalize x_3.wd = w2 at *
      have sw2:=bw2.size
      go_wp2
      go_ret
      exact ⟨rfl,by (apply jt;(focus repeat(first|(with_reducible first|assumption|apply jd|apply js)|((with_reducible apply jo);first|focus(dsimp only;assumption)|focus(simp;done)|focus(dsimp only;omega))|((with_reducible apply jn);first|with_reducible rfl|focus(simp;done)|focus(simp;omega))|(with_reducible apply ja)|((with_reducible apply jb);with_reducible assumption)));rfl),((Touch.refl b w).below bw2 (Nat.le_of_lt hlt)).set.set⟩
  · have hr : rdJ s.data.toList m ⟨p,er,fa⟩ = (0,⟨p,er,fa⟩):=by unfold rdJ;simp [h1]
    rw [hr]
    have e1 : (er != 0) = true:=by simp [h1]
    clear h1 hr
    go_enter Tryd.func108,Tryd.ntmps108
    go_wp2
    go_ret
    exact ⟨rfl,hb,Touch.refl _ _⟩
end Go.Proofs.YtaiofjffoboicaaDoor
namespace Go.Proofs.YtaiofjffoboicaaDoor
open Go.RowKit
theorem ret_blk1 {P : Program} {fn : Func} {R : Ending → World → Prop} {a : Act} {W : World} {b : Nat} {c : Array Value} {v : Value} (hb : blk W b = some c)
    (hres : ∀ W' : World,(∀ i,W'.cell? ⟨b,i,none⟩ = c[i]?) → (results fn a.tmps).run P W' = .ok v W') (hdf : a.defers = []) (hR : R (.returned v) W) : bodyPost P fn R .ret a W :=
  bodyPost_ret (v:=v) (hres W (fun i => blk_cell hb i)) hdf hR
set_option maxRecDepth 100000 in
set_option maxHeartbeats 1600000 in
theorem refFields_none (b : Nat) (s : ByteArray) (hs : s.size = 0) (w : World) (hb : blk w b = some (rdC s 0 0 0)) :
    Calls Tryd.prog 89 #[.pointer (some ⟨b,0,none⟩)] w fun q w' => q = .returned (.tuple #[buv 0 0 0 0 0 0 0 0 ⟨#[]⟩,.bool false]) ∧ blk w' b = some (rdC s 0 11 0) ∧ Touch b w w':=by
  obtain rfl : s = ⟨#[]⟩:=by
    obtain ⟨⟨l⟩⟩:=s
    have : l = []:=by rw [← List.length_eq_zero_iff];exact hs
    rw [this]
  have knb:=kn hb
  have hlt:=blk_lt hb
  go_enter Tryd.func89,Tryd.ntmps89
  go_wp2
  refine ret_blk1 (b:=w.heap.size) (c:=#[.int .i64 0,.int .u64 0,.int .i64 0,.int .i64 0,.int .i64 0,.int .i64 0,.int .i64 0,.int .i64 0,.string ⟨#[]⟩]) (v:=.tuple #[buv 0 0 0 0 0 0 0 0 ⟨#[]⟩,.bool false]) (by (apply jt;(focus repeat(first|(with_reducible first|assumption|apply jd|apply js)|((with_reducible apply jo);first|focus(dsimp only;assumption)|focus(simp;done)|focus(dsimp only;omega))|((with_reducible apply jn);first|with_reducible rfl|focus(simp;done)|focus(simp;omega))|(with_reducible apply ja)|((with_reducible apply jb);with_reducible assumption)));rfl)) (fun W' e1 => by simp [results,Tryd.results89,go_sem,e1]) rfl ⟨rfl,by (apply jt;(focus repeat(first|(with_reducible first|assumption|apply jd|apply js)|((with_reducible apply jo);first|focus(dsimp only;assumption)|focus(simp;done)|focus(dsimp only;omega))|((with_reducible apply jn);first|with_reducible rfl|focus(simp;done)|focus(simp;omega))|(with_reducible apply ja)|((with_reducible apply jb);with_reducible assumption)));rfl),?_⟩
  (repeat (first|(with_reducible assumption)|(with_reducible exact Touch.refl _ _)|(with_reducible refine Touch.drew ?_)|(with_reducible refine Touch.set ?_)|((with_reducible refine Touch.setNew' ?_ hlt ?_);(focus (first|exact Nat.le_refl _|exact Nat.le_succ _|omega)))|(with_reducible refine Touch.alloc ?_ hlt)))
set_option maxRecDepth 100000 in
set_option maxHeartbeats 3200000 in
theorem refFields_full (b : Nat) (s : ByteArray) (k pr : Nat) (hs0 : 0 < s.size) (hs : s.size ≤ maxLen) (hk : (s[0].toNat : Int) - 176 = (k : Int)) (hk6 : k ≤ 6) (hk3 : k ≠ 3) (hfu : 4 ≤ k) (hpr : (k : Int).tmod 4 = (pr : Int)) (X : Fl) (hX : fieldsJ s.data.toList true ⟨1,0,0⟩ = X) (w : World) (hb : blk w b = some (rdC s 0 0 0)) :
    Calls Tryd.prog 89 #[.pointer (some ⟨b,0,none⟩)] w fun q w' => q = .returned (.tuple #[buv X.no X.sq X.of X.de pr X.bo X.li X.to ⟨#[]⟩,.bool true]) ∧ blk w' b = some (rdC s X.r.pos X.r.err X.r.fat) ∧ Touch b w w':=by
  have hl : s.data.toList.length = s.size:=by simp
  have hss : (s.size : Int) ≤ 9223372036854775807:=by unfold maxLen at hs;omega
  unfold fieldsJ at hX
  simp only [Bool.false_eq_true,if_false,if_true] at hX
  have u1:=rdJ_range s.data.toList 16 ⟨1,0,0⟩ (by omega) (by simp only;omega) (by simp only;omega)
  have c1:=fun w h => number_any b s 1 0 0 16 hs (by omega) (by omega) (by omega) w h
  obtain ⟨⟨n1,⟨p1,e1,f1⟩⟩,h1⟩ : ∃ x,rdJ s.data.toList 16 ⟨1,0,0⟩ = x:=⟨_,rfl⟩
  simp only [h1] at u1 c1 hX
  obtain ⟨u1a,u1b,u1c,u1d⟩:=u1
  rw [hl] at u1d
  replace c1:=Lib.hid c1;clear h1
  have u2:=rdJ_range s.data.toList 1099511627776 ⟨p1,e1,f1⟩ (by omega) (by simp only;omega) (by simp only;omega)
  have c2:=fun w h => number_any b s p1 e1 f1 1099511627776 hs (by omega) (by omega) (by omega) w h
  obtain ⟨⟨n2,⟨p2,e2,f2⟩⟩,h2⟩ : ∃ x,rdJ s.data.toList 1099511627776 ⟨p1,e1,f1⟩ = x:=⟨_,rfl⟩
  simp only [h2] at u2 c2 hX
  obtain ⟨u2a,u2b,u2c,u2d⟩:=u2
  rw [hl] at u2d
  replace c2:=Lib.hid c2;clear h2
  have u3:=rdJ_range s.data.toList 16 ⟨p2,e2,f2⟩ (by omega) (by simp only;omega) (by simp only;omega)
  have c3:=fun w h => number_any b s p2 e2 f2 16 hs (by omega) (by omega) (by omega) w h
  obtain ⟨⟨n3,⟨p3,e3,f3⟩⟩,h3⟩ : ∃ x,rdJ s.data.toList 16 ⟨p2,e2,f2⟩ = x:=⟨_,rfl⟩
  simp only [h3] at u3 c3 hX
  obtain ⟨u3a,u3b,u3c,u3d⟩:=u3
  rw [hl] at u3d
  replace c3:=Lib.hid c3;clear h3
  have u4:=rdJ_range s.data.toList 1099511627776 ⟨p3,e3,f3⟩ (by omega) (by simp only;omega) (by simp only;omega)
  have c4:=fun w h => number_any b s p3 e3 f3 1099511627776 hs (by omega) (by omega) (by omega) w h
  obtain ⟨⟨n4,⟨p4,e4,f4⟩⟩,h4⟩ : ∃ x,rdJ s.data.toList 1099511627776 ⟨p3,e3,f3⟩ = x:=⟨_,rfl⟩
  simp only [h4] at u4 c4 hX
  obtain ⟨u4a,u4b,u4c,u4d⟩:=u4
  rw [hl] at u4d
  replace c4:=Lib.hid c4;clear h4
  have u5:=rdJ_range s.data.toList 1048576 ⟨p4,e4,f4⟩ (by omega) (by simp only;omega) (by simp only;omega)
  have c5:=fun w h => number_any b s p4 e4 f4 1048576 hs (by omega) (by omega) (by omega) w h
  obtain ⟨⟨n5,⟨p5,e5,f5⟩⟩,h5⟩ : ∃ x,rdJ s.data.toList 1048576 ⟨p4,e4,f4⟩ = x:=⟨_,rfl⟩
  simp only [h5] at u5 c5 hX
  obtain ⟨u5a,u5b,u5c,u5d⟩:=u5
  rw [hl] at u5d
  replace c5:=Lib.hid c5;clear h5
  subst hX
  simp only
  have q2 : IntKind.u64.wrap n2 = n2:=IntWalk.u64_in _ (by omega)
  have knb:=kn hb
  have hlt:=blk_lt hb
  have z1 : s.toList.isEmpty = false:=by
    have h1 : s.data.toList ≠ []:=by rw [← List.length_pos_iff];simpa using hs0
    rw [ByteArray.toList_eq];simpa using h1
  have k3 : ((k : Int) == 3) = false:=by simp;omega
  have tm : (k : Int) % 4 = (pr : Int):=by rw [← hpr,Int.tmod_eq_emod_of_nonneg (by omega)]
  have ab : b ≠ w.heap.size:=by omega
  have hkk : (k : Int) ≤ 6:=by omega
  have hfi : (4 : Int) ≤ (k : Int):=by omega
  clear hfu hk3 hpr
  go_enter Tryd.func89,Tryd.ntmps89
  go_wp2_with fail
  (with_reducible refine (c1.out _ ?_).mono ?_)
  · (apply jt;(focus repeat(first|(with_reducible first|assumption|apply jd|apply js)|((with_reducible apply jo);first|focus(dsimp only;assumption)|focus(simp;done)|focus(dsimp only;omega))|((with_reducible apply jn);first|with_reducible rfl|focus(simp;done)|focus(simp;omega))|(with_reducible apply ja)|((with_reducible apply jb);with_reducible assumption)));rfl)
  rintro q w1 ⟨rfl,k1,T1⟩
  have r1 : blk w1 w.heap.size = some (#[.int .i64 0,.int .u64 0,.int .i64 0,.int .i64 0,.int .i64 0,.int .i64 0,.int .i64 0,.int .i64 0,.string ⟨#[]⟩]):=T1.2.1 _ _ (by omega) (by (apply jt;(focus repeat(first|(with_reducible first|assumption|apply jd|apply js)|((with_reducible apply jo);first|focus(dsimp only;assumption)|focus(simp;done)|focus(dsimp only;omega))|((with_reducible apply jn);first|with_reducible rfl|focus(simp;done)|focus(simp;omega))|(with_reducible apply ja)|((with_reducible apply jb);with_reducible assumption)));rfl))
  have y1 : blk w1 (w.heap.size + 1) = some (#[.int .i64 0,.int .u64 0,.int .i64 0,.int .i64 0,.int .i64 (pr : Int),.int .i64 0,.int .i64 0,.int .i64 0,.string ⟨#[]⟩]):=T1.2.1 _ _ (by omega) (by (apply jt;(focus repeat(first|(with_reducible first|assumption|apply jd|apply js)|((with_reducible apply jo);first|focus(dsimp only;assumption)|focus(simp;done)|focus(dsimp only;omega))|((with_reducible apply jn);first|with_reducible rfl|focus(simp;done)|focus(simp;omega))|(with_reducible apply ja)|((with_reducible apply jb);with_reducible assumption)));rfl))
  have t1 : Touch b w w1:=by
    refine Touch.trans ?_ T1
    (repeat (first|(with_reducible assumption)|(with_reducible exact Touch.refl _ _)|(with_reducible refine Touch.drew ?_)|(with_reducible refine Touch.set ?_)|((with_reducible refine Touch.setNew' ?_ hlt ?_);(focus (first|exact Nat.le_refl _|exact Nat.le_succ _|omega)))|(with_reducible refine Touch.alloc ?_ hlt)))
  clear T1
  have kn1:=kn k1;have kr1:=kn r1;have ky1:=kn y1
  clear knb
  go_wp2_with fail
  (with_reducible refine (c2.out _ ?_).mono ?_)
  · exact blk_other k1 (by simp;omega)
  rintro q w2 ⟨rfl,k2,T2⟩
  have r2 : blk w2 w.heap.size = some (#[.int .i64 0,.int .u64 0,.int .i64 0,.int .i64 0,.int .i64 0,.int .i64 0,.int .i64 0,.int .i64 0,.string ⟨#[]⟩]):=T2.2.1 _ _ (by omega) (blk_other r1 (by simp))
  have y2 : blk w2 (w.heap.size + 1) = some (#[.int .i64 n1,.int .u64 0,.int .i64 0,.int .i64 0,.int .i64 (pr : Int),.int .i64 0,.int .i64 0,.int .i64 0,.string ⟨#[]⟩]):=T2.2.1 _ _ (by omega) (blk_to (blk_set y1) rfl)
  have t2 : Touch b w w2:=(t1.setNew (by omega) hlt).trans T2
  clear k1 r1 y1 t1 kn1 kr1 ky1
  clear T2
  have kn2:=kn k2;have kr2:=kn r2;have ky2:=kn y2
  go_wp2_with fail
  (with_reducible refine (c3.out _ ?_).mono ?_)
  · exact blk_other k2 (by simp;omega)
  rintro q w3 ⟨rfl,k3,T3⟩
  have r3 : blk w3 w.heap.size = some (#[.int .i64 0,.int .u64 0,.int .i64 0,.int .i64 0,.int .i64 0,.int .i64 0,.int .i64 0,.int .i64 0,.string ⟨#[]⟩]):=T3.2.1 _ _ (by omega) (blk_other r2 (by simp))
  have y3 : blk w3 (w.heap.size + 1) = some (#[.int .i64 n1,.int .u64 n2,.int .i64 0,.int .i64 0,.int .i64 (pr : Int),.int .i64 0,.int .i64 0,.int .i64 0,.string ⟨#[]⟩]):=T3.2.1 _ _ (by omega) (blk_to (blk_set y2) rfl)
  have t3 : Touch b w w3:=(t2.setNew (by omega) hlt).trans T3
  clear k2 r2 y2 t2 kn2 kr2 ky2
  clear T3
  have kn3:=kn k3;have kr3:=kn r3;have ky3:=kn y3
  go_wp2_with fail
  (with_reducible refine (c4.out _ ?_).mono ?_)
  · exact blk_other k3 (by simp;omega)
  rintro q w4 ⟨rfl,k4,T4⟩
  have r4 : blk w4 w.heap.size = some (#[.int .i64 0,.int .u64 0,.int .i64 0,.int .i64 0,.int .i64 0,.int .i64 0,.int .i64 0,.int .i64 0,.string ⟨#[]⟩]):=T4.2.1 _ _ (by omega) (blk_other r3 (by simp))
  have y4 : blk w4 (w.heap.size + 1) = some (#[.int .i64 n1,.int .u64 n2,.int .i64 0,.int .i64 n3,.int .i64 (pr : Int),.int .i64 0,.int .i64 0,.int .i64 0,.string ⟨#[]⟩]):=T4.2.1 _ _ (by omega) (blk_to (blk_set y3) rfl)
  have t4 : Touch b w w4:=(t3.setNew (by omega) hlt).trans T4
  clear k3 r3 y3 t3 kn3 kr3 ky3
  clear T4
  have kn4:=kn k4;have kr4:=kn r4;have ky4:=kn y4
  go_wp2_with fail
  (with_reducible refine (c5.out _ ?_).mono ?_)
  · exact blk_other k4 (by simp;omega)
  rintro q w5 ⟨rfl,k5,T5⟩
  have r5 : blk w5 w.heap.size = some (#[.int .i64 0,.int .u64 0,.int .i64 0,.int .i64 0,.int .i64 0,.int .i64 0,.int .i64 0,.int .i64 0,.string ⟨#[]⟩]):=T5.2.1 _ _ (by omega) (blk_other r4 (by simp))
  have y5 : blk w5 (w.heap.size + 1) = some (#[.int .i64 n1,.int .u64 n2,.int .i64 0,.int .i64 n3,.int .i64 (pr : Int),.int .i64 n4,.int .i64 0,.int .i64 0,.string ⟨#[]⟩]):=T5.2.1 _ _ (by omega) (blk_to (blk_set y4) rfl)
  have t5 : Touch b w w5:=(t4.setNew (by omega) hlt).trans T5
  clear k4 r4 y4 t4 kn4 kr4 ky4
  clear T5
  have kn5:=kn k5;have kr5:=kn r5;have ky5:=kn y5
  go_wp2
  refine ret_blk1 (b:=w.heap.size) (c:=#[.int .i64 n1,.int .u64 n2,.int .i64 0,.int .i64 n3,.int .i64 (pr : Int),.int .i64 n4,.int .i64 n5,.int .i64 0,.string ⟨#[]⟩]) (v:=.tuple #[.agg #[.int .i64 n1,.int .u64 n2,.int .i64 0,.int .i64 n3,.int .i64 (pr : Int),.int .i64 n4,.int .i64 n5,.int .i64 0,.string ⟨#[]⟩],.bool true]) (by (apply jt;(focus repeat(first|(with_reducible first|assumption|apply jd|apply js)|((with_reducible apply jo);first|focus(dsimp only;assumption)|focus(simp;done)|focus(dsimp only;omega))|((with_reducible apply jn);first|with_reducible rfl|focus(simp;done)|focus(simp;omega))|(with_reducible apply ja)|((with_reducible apply jb);with_reducible assumption)));rfl)) (fun W' e1 => by simp [results,Tryd.results89,go_sem,e1,hfi]) rfl ⟨rfl,by (apply jt;(focus repeat(first|(with_reducible first|assumption|apply jd|apply js)|((with_reducible apply jo);first|focus(dsimp only;assumption)|focus(simp;done)|focus(dsimp only;omega))|((with_reducible apply jn);first|with_reducible rfl|focus(simp;done)|focus(simp;omega))|(with_reducible apply ja)|((with_reducible apply jb);with_reducible assumption)));rfl),?_⟩
  (repeat (first|(with_reducible assumption)|(with_reducible exact Touch.refl _ _)|(with_reducible refine Touch.drew ?_)|(with_reducible refine Touch.set ?_)|((with_reducible refine Touch.setNew' ?_ hlt ?_);(focus (first|exact Nat.le_refl _|exact Nat.le_succ _|omega)))|(with_reducible refine Touch.alloc ?_ hlt)))
set_option maxRecDepth 100000 in
set_option maxHeartbeats 3200000 in
theorem refFields_part (b : Nat) (s : ByteArray) (k pr : Nat) (hs0 : 0 < s.size) (hs : s.size ≤ maxLen) (hk : (s[0].toNat : Int) - 176 = (k : Int)) (hk6 : k ≤ 6) (hk3 : k ≠ 3) (hfu : k < 4) (hpr : (k : Int).tmod 4 = (pr : Int)) (X : Fl) (hX : fieldsJ s.data.toList false ⟨1,0,0⟩ = X) (w : World) (hb : blk w b = some (rdC s 0 0 0)) :
    Calls Tryd.prog 89 #[.pointer (some ⟨b,0,none⟩)] w fun q w' => q = .returned (.tuple #[buv X.no X.sq X.of X.de pr X.bo X.li X.to ⟨#[]⟩,.bool false]) ∧ blk w' b = some (rdC s X.r.pos X.r.err X.r.fat) ∧ Touch b w w':=by
  have hl : s.data.toList.length = s.size:=by simp
  have hss : (s.size : Int) ≤ 9223372036854775807:=by unfold maxLen at hs;omega
  unfold fieldsJ at hX
  simp only [Bool.false_eq_true,if_false,if_true] at hX
  have u1:=rdJ_range s.data.toList 16 ⟨1,0,0⟩ (by omega) (by simp only;omega) (by simp only;omega)
  have c1:=fun w h => number_any b s 1 0 0 16 hs (by omega) (by omega) (by omega) w h
  obtain ⟨⟨n1,⟨p1,e1,f1⟩⟩,h1⟩ : ∃ x,rdJ s.data.toList 16 ⟨1,0,0⟩ = x:=⟨_,rfl⟩
  simp only [h1] at u1 c1 hX
  obtain ⟨u1a,u1b,u1c,u1d⟩:=u1
  rw [hl] at u1d
  replace c1:=Lib.hid c1;clear h1
  have u2:=rdJ_range s.data.toList 1099511627776 ⟨p1,e1,f1⟩ (by omega) (by simp only;omega) (by simp only;omega)
  have c2:=fun w h => number_any b s p1 e1 f1 1099511627776 hs (by omega) (by omega) (by omega) w h
  obtain ⟨⟨n2,⟨p2,e2,f2⟩⟩,h2⟩ : ∃ x,rdJ s.data.toList 1099511627776 ⟨p1,e1,f1⟩ = x:=⟨_,rfl⟩
  simp only [h2] at u2 c2 hX
  obtain ⟨u2a,u2b,u2c,u2d⟩:=u2
  rw [hl] at u2d
  replace c2:=Lib.hid c2;clear h2
  have u3:=rdJ_range s.data.toList 16 ⟨p2,e2,f2⟩ (by omega) (by simp only;omega) (by simp only;omega)
  have c3:=fun w h => number_any b s p2 e2 f2 16 hs (by omega) (by omega) (by omega) w h
  obtain ⟨⟨n3,⟨p3,e3,f3⟩⟩,h3⟩ : ∃ x,rdJ s.data.toList 16 ⟨p2,e2,f2⟩ = x:=⟨_,rfl⟩
  simp only [h3] at u3 c3 hX
  obtain ⟨u3a,u3b,u3c,u3d⟩:=u3
  rw [hl] at u3d
  replace c3:=Lib.hid c3;clear h3
  have u4:=rdJ_range s.data.toList 1099511627776 ⟨p3,e3,f3⟩ (by omega) (by simp only;omega) (by simp only;omega)
  have c4:=fun w h => number_any b s p3 e3 f3 1099511627776 hs (by omega) (by omega) (by omega) w h
  obtain ⟨⟨n4,⟨p4,e4,f4⟩⟩,h4⟩ : ∃ x,rdJ s.data.toList 1099511627776 ⟨p3,e3,f3⟩ = x:=⟨_,rfl⟩
  simp only [h4] at u4 c4 hX
  obtain ⟨u4a,u4b,u4c,u4d⟩:=u4
  rw [hl] at u4d
  replace c4:=Lib.hid c4;clear h4
  have u5:=rdJ_range s.data.toList 1048576 ⟨p4,e4,f4⟩ (by omega) (by simp only;omega) (by simp only;omega)
  have c5:=fun w h => number_any b s p4 e4 f4 1048576 hs (by omega) (by omega) (by omega) w h
  obtain ⟨⟨n5,⟨p5,e5,f5⟩⟩,h5⟩ : ∃ x,rdJ s.data.toList 1048576 ⟨p4,e4,f4⟩ = x:=⟨_,rfl⟩
  simp only [h5] at u5 c5 hX
  obtain ⟨u5a,u5b,u5c,u5d⟩:=u5
  rw [hl] at u5d
  replace c5:=Lib.hid c5;clear h5
  have u6:=rdJ_range s.data.toList 20000 ⟨p5,e5,f5⟩ (by omega) (by simp only;omega) (by simp only;omega)
  have c6:=fun w h => number_any b s p5 e5 f5 20000 hs (by omega) (by omega) (by omega) w h
  obtain ⟨⟨n6,⟨p6,e6,f6⟩⟩,h6⟩ : ∃ x,rdJ s.data.toList 20000 ⟨p5,e5,f5⟩ = x:=⟨_,rfl⟩
  simp only [h6] at u6 c6 hX
  obtain ⟨u6a,u6b,u6c,u6d⟩:=u6
  rw [hl] at u6d
  replace c6:=Lib.hid c6;clear h6
  have u7:=rdJ_range s.data.toList 20000 ⟨p6,e6,f6⟩ (by omega) (by simp only;omega) (by simp only;omega)
  have c7:=fun w h => number_any b s p6 e6 f6 20000 hs (by omega) (by omega) (by omega) w h
  obtain ⟨⟨n7,⟨p7,e7,f7⟩⟩,h7⟩ : ∃ x,rdJ s.data.toList 20000 ⟨p6,e6,f6⟩ = x:=⟨_,rfl⟩
  simp only [h7] at u7 c7 hX
  obtain ⟨u7a,u7b,u7c,u7d⟩:=u7
  rw [hl] at u7d
  replace c7:=Lib.hid c7;clear h7
  subst hX
  simp only
  have q2 : IntKind.u64.wrap n2 = n2:=IntWalk.u64_in _ (by omega)
  have knb:=kn hb
  have hlt:=blk_lt hb
  have z1 : s.toList.isEmpty = false:=by
    have h1 : s.data.toList ≠ []:=by rw [← List.length_pos_iff];simpa using hs0
    rw [ByteArray.toList_eq];simpa using h1
  have k3 : ((k : Int) == 3) = false:=by simp;omega
  have tm : (k : Int) % 4 = (pr : Int):=by rw [← hpr,Int.tmod_eq_emod_of_nonneg (by omega)]
  have ab : b ≠ w.heap.size:=by omega
  have hkk : (k : Int) ≤ 6:=by omega
  have hfi : (k : Int) < 4:=by omega
  clear hfu hk3 hpr
  go_enter Tryd.func89,Tryd.ntmps89
  go_wp2_with fail
  (with_reducible refine (c1.out _ ?_).mono ?_)
  · (apply jt;(focus repeat(first|(with_reducible first|assumption|apply jd|apply js)|((with_reducible apply jo);first|focus(dsimp only;assumption)|focus(simp;done)|focus(dsimp only;omega))|((with_reducible apply jn);first|with_reducible rfl|focus(simp;done)|focus(simp;omega))|(with_reducible apply ja)|((with_reducible apply jb);with_reducible assumption)));rfl)
  rintro q w1 ⟨rfl,k1,T1⟩
  have r1 : blk w1 w.heap.size = some (#[.int .i64 0,.int .u64 0,.int .i64 0,.int .i64 0,.int .i64 0,.int .i64 0,.int .i64 0,.int .i64 0,.string ⟨#[]⟩]):=T1.2.1 _ _ (by omega) (by (apply jt;(focus repeat(first|(with_reducible first|assumption|apply jd|apply js)|((with_reducible apply jo);first|focus(dsimp only;assumption)|focus(simp;done)|focus(dsimp only;omega))|((with_reducible apply jn);first|with_reducible rfl|focus(simp;done)|focus(simp;omega))|(with_reducible apply ja)|((with_reducible apply jb);with_reducible assumption)));rfl))
  have y1 : blk w1 (w.heap.size + 1) = some (#[.int .i64 0,.int .u64 0,.int .i64 0,.int .i64 0,.int .i64 (pr : Int),.int .i64 0,.int .i64 0,.int .i64 0,.string ⟨#[]⟩]):=T1.2.1 _ _ (by omega) (by (apply jt;(focus repeat(first|(with_reducible first|assumption|apply jd|apply js)|((with_reducible apply jo);first|focus(dsimp only;assumption)|focus(simp;done)|focus(dsimp only;omega))|((with_reducible apply jn);first|with_reducible rfl|focus(simp;done)|focus(simp;omega))|(with_reducible apply ja)|((with_reducible apply jb);with_reducible assumption)));rfl))
  have t1 : Touch b w w1:=by
    refine Touch.trans ?_ T1
    (repeat (first|(with_reducible assumption)|(with_reducible exact Touch.refl _ _)|(with_reducible refine Touch.drew ?_)|(with_reducible refine Touch.set ?_)|((with_reducible refine Touch.setNew' ?_ hlt ?_);(focus (first|exact Nat.le_refl _|exact Nat.le_succ _|omega)))|(with_reducible refine Touch.alloc ?_ hlt)))
  clear T1
  have kn1:=kn k1;have kr1:=kn r1;have ky1:=kn y1
  clear knb
  go_wp2_with fail
  (with_reducible refine (c2.out _ ?_).mono ?_)
  · exact blk_other k1 (by simp;omega)
  rintro q w2 ⟨rfl,k2,T2⟩
  have r2 : blk w2 w.heap.size = some (#[.int .i64 0,.int .u64 0,.int .i64 0,.int .i64 0,.int .i64 0,.int .i64 0,.int .i64 0,.int .i64 0,.string ⟨#[]⟩]):=T2.2.1 _ _ (by omega) (blk_other r1 (by simp))
  have y2 : blk w2 (w.heap.size + 1) = some (#[.int .i64 n1,.int .u64 0,.int .i64 0,.int .i64 0,.int .i64 (pr : Int),.int .i64 0,.int .i64 0,.int .i64 0,.string ⟨#[]⟩]):=T2.2.1 _ _ (by omega) (blk_to (blk_set y1) rfl)
  have t2 : Touch b w w2:=(t1.setNew (by omega) hlt).trans T2
  clear k1 r1 y1 t1 kn1 kr1 ky1
  clear T2
  have kn2:=kn k2;have kr2:=kn r2;have ky2:=kn y2
  go_wp2_with fail
  (with_reducible refine (c3.out _ ?_).mono ?_)
  · exact blk_other k2 (by simp;omega)
  rintro q w3 ⟨rfl,k3,T3⟩
  have r3 : blk w3 w.heap.size = some (#[.int .i64 0,.int .u64 0,.int .i64 0,.int .i64 0,.int .i64 0,.int .i64 0,.int .i64 0,.int .i64 0,.string ⟨#[]⟩]):=T3.2.1 _ _ (by omega) (blk_other r2 (by simp))
  have y3 : blk w3 (w.heap.size + 1) = some (#[.int .i64 n1,.int .u64 n2,.int .i64 0,.int .i64 0,.int .i64 (pr : Int),.int .i64 0,.int .i64 0,.int .i64 0,.string ⟨#[]⟩]):=T3.2.1 _ _ (by omega) (blk_to (blk_set y2) rfl)
  have t3 : Touch b w w3:=(t2.setNew (by omega) hlt).trans T3
  clear k2 r2 y2 t2 kn2 kr2 ky2
  clear T3
  have kn3:=kn k3;have kr3:=kn r3;have ky3:=kn y3
  go_wp2_with fail
  (with_reducible refine (c4.out _ ?_).mono ?_)
  · exact blk_other k3 (by simp;omega)
  rintro q w4 ⟨rfl,k4,T4⟩
  have r4 : blk w4 w.heap.size = some (#[.int .i64 0,.int .u64 0,.int .i64 0,.int .i64 0,.int .i64 0,.int .i64 0,.int .i64 0,.int .i64 0,.string ⟨#[]⟩]):=T4.2.1 _ _ (by omega) (blk_other r3 (by simp))
  have y4 : blk w4 (w.heap.size + 1) = some (#[.int .i64 n1,.int .u64 n2,.int .i64 0,.int .i64 n3,.int .i64 (pr : Int),.int .i64 0,.int .i64 0,.int .i64 0,.string ⟨#[]⟩]):=T4.2.1 _ _ (by omega) (blk_to (blk_set y3) rfl)
  have t4 : Touch b w w4:=(t3.setNew (by omega) hlt).trans T4
  clear k3 r3 y3 t3 kn3 kr3 ky3
  clear T4
  have kn4:=kn k4;have kr4:=kn r4;have ky4:=kn y4
  go_wp2_with fail
  (with_reducible refine (c5.out _ ?_).mono ?_)
  · exact blk_other k4 (by simp;omega)
  rintro q w5 ⟨rfl,k5,T5⟩
  have r5 : blk w5 w.heap.size = some (#[.int .i64 0,.int .u64 0,.int .i64 0,.int .i64 0,.int .i64 0,.int .i64 0,.int .i64 0,.int .i64 0,.string ⟨#[]⟩]):=T5.2.1 _ _ (by omega) (blk_other r4 (by simp))
  have y5 : blk w5 (w.heap.size + 1) = some (#[.int .i64 n1,.int .u64 n2,.int .i64 0,.int .i64 n3,.int .i64 (pr : Int),.int .i64 n4,.int .i64 0,.int .i64 0,.string ⟨#[]⟩]):=T5.2.1 _ _ (by omega) (blk_to (blk_set y4) rfl)
  have t5 : Touch b w w5:=(t4.setNew (by omega) hlt).trans T5
  clear k4 r4 y4 t4 kn4 kr4 ky4
  clear T5
  have kn5:=kn k5;have kr5:=kn r5;have ky5:=kn y5
  go_wp2_with fail
  (with_reducible refine (c6.out _ ?_).mono ?_)
  · exact blk_other k5 (by simp;omega)
  rintro q w6 ⟨rfl,k6,T6⟩
  have r6 : blk w6 w.heap.size = some (#[.int .i64 0,.int .u64 0,.int .i64 0,.int .i64 0,.int .i64 0,.int .i64 0,.int .i64 0,.int .i64 0,.string ⟨#[]⟩]):=T6.2.1 _ _ (by omega) (blk_other r5 (by simp))
  have y6 : blk w6 (w.heap.size + 1) = some (#[.int .i64 n1,.int .u64 n2,.int .i64 0,.int .i64 n3,.int .i64 (pr : Int),.int .i64 n4,.int .i64 n5,.int .i64 0,.string ⟨#[]⟩]):=T6.2.1 _ _ (by omega) (blk_to (blk_set y5) rfl)
  have t6 : Touch b w w6:=(t5.setNew (by omega) hlt).trans T6
  clear k5 r5 y5 t5 kn5 kr5 ky5
  clear T6
  have kn6:=kn k6;have kr6:=kn r6;have ky6:=kn y6
  go_wp2_with fail
  (with_reducible refine (c7.out _ ?_).mono ?_)
  · exact blk_other k6 (by simp;omega)
  rintro q w7 ⟨rfl,k7,T7⟩
  have r7 : blk w7 w.heap.size = some (#[.int .i64 0,.int .u64 0,.int .i64 0,.int .i64 0,.int .i64 0,.int .i64 0,.int .i64 0,.int .i64 0,.string ⟨#[]⟩]):=T7.2.1 _ _ (by omega) (blk_other r6 (by simp))
  have y7 : blk w7 (w.heap.size + 1) = some (#[.int .i64 n1,.int .u64 n2,.int .i64 n6,.int .i64 n3,.int .i64 (pr : Int),.int .i64 n4,.int .i64 n5,.int .i64 0,.string ⟨#[]⟩]):=T7.2.1 _ _ (by omega) (blk_to (blk_set y6) rfl)
  have t7 : Touch b w w7:=(t6.setNew (by omega) hlt).trans T7
  clear k6 r6 y6 t6 kn6 kr6 ky6
  clear T7
  have kn7:=kn k7;have kr7:=kn r7;have ky7:=kn y7
  go_wp2
  refine ret_blk1 (b:=w.heap.size) (c:=#[.int .i64 n1,.int .u64 n2,.int .i64 n6,.int .i64 n3,.int .i64 (pr : Int),.int .i64 n4,.int .i64 n5,.int .i64 n7,.string ⟨#[]⟩]) (v:=.tuple #[.agg #[.int .i64 n1,.int .u64 n2,.int .i64 n6,.int .i64 n3,.int .i64 (pr : Int),.int .i64 n4,.int .i64 n5,.int .i64 n7,.string ⟨#[]⟩],.bool false]) (by (apply jt;(focus repeat(first|(with_reducible first|assumption|apply jd|apply js)|((with_reducible apply jo);first|focus(dsimp only;assumption)|focus(simp;done)|focus(dsimp only;omega))|((with_reducible apply jn);first|with_reducible rfl|focus(simp;done)|focus(simp;omega))|(with_reducible apply ja)|((with_reducible apply jb);with_reducible assumption)));rfl)) (fun W' e1 => by simp [results,Tryd.results89,go_sem,e1,hfi]) rfl ⟨rfl,by (apply jt;(focus repeat(first|(with_reducible first|assumption|apply jd|apply js)|((with_reducible apply jo);first|focus(dsimp only;assumption)|focus(simp;done)|focus(dsimp only;omega))|((with_reducible apply jn);first|with_reducible rfl|focus(simp;done)|focus(simp;omega))|(with_reducible apply ja)|((with_reducible apply jb);with_reducible assumption)));rfl),?_⟩
  (repeat (first|(with_reducible assumption)|(with_reducible exact Touch.refl _ _)|(with_reducible refine Touch.drew ?_)|(with_reducible refine Touch.set ?_)|((with_reducible refine Touch.setNew' ?_ hlt ?_);(focus (first|exact Nat.le_refl _|exact Nat.le_succ _|omega)))|(with_reducible refine Touch.alloc ?_ hlt)))
end Go.Proofs.YtaiofjffoboicaaDoor
namespace Go.Proofs.YtaiofjffoboicaaDoor
open Go.RowKit
set_option maxRecDepth 100000 in
set_option maxHeartbeats 1600000 in
theorem refFields_bad (b : Nat) (s : ByteArray) (hs0 : 0 < s.size) (hs : s.size ≤ maxLen) (h : hdB s[0].toNat = false) (w : World) (hb : blk w b = some (rdC s 0 0 0)) :
    Calls Tryd.prog 89 #[.pointer (some ⟨b,0,none⟩)] w fun q w' => q = .returned (.tuple #[buv 0 0 0 0 0 0 0 0 ⟨#[]⟩,.bool false]) ∧ blk w' b = some (rdC s 0 3 0) ∧ Touch b w w':=by
  have knb:=kn hb
  have hlt:=blk_lt hb
  have z1 : s.toList.isEmpty = false:=by
    have h1 : s.data.toList ≠ []:=by rw [← List.length_pos_iff];simpa using hs0
    rw [ByteArray.toList_eq];simpa using h1
  have h' : s[0].toNat < 176 ∨ 182 < s[0].toNat ∨ s[0].toNat = 179:=by unfold hdB at h;simp at h;omega
  have hx:=s[0].toNat_lt
  unfold maxLen at hs
  obtain ⟨k,hk⟩ : ∃ k : Int,(s[0].toNat : Int) - 176 = k:=⟨_,rfl⟩
  have hk' : k < 0 ∨ 6 < k ∨ k = 3:=by omega
  have hkb : -176 ≤ k ∧ k < 100:=by omega
  clear h h' hx
  rcases hk' with hk'|hk'|rfl
  · go_enter Tryd.func89,Tryd.ntmps89
    go_wp2
    (refine ret_blk1 (b:=w.heap.size) (c:=#[.int .i64 0,.int .u64 0,.int .i64 0,.int .i64 0,.int .i64 0,.int .i64 0,.int .i64 0,.int .i64 0,.string ⟨#[]⟩]) (v:=.tuple #[buv 0 0 0 0 0 0 0 0 ⟨#[]⟩,.bool false]) (by (apply jt;(focus repeat(first|(with_reducible first|assumption|apply jd|apply js)|((with_reducible apply jo);first|focus(dsimp only;assumption)|focus(simp;done)|focus(dsimp only;omega))|((with_reducible apply jn);first|with_reducible rfl|focus(simp;done)|focus(simp;omega))|(with_reducible apply ja)|((with_reducible apply jb);with_reducible assumption)));rfl)) (fun W' e1 => by simp [results,Tryd.results89,go_sem,e1]) rfl ⟨rfl,by (apply jt;(focus repeat(first|(with_reducible first|assumption|apply jd|apply js)|((with_reducible apply jo);first|focus(dsimp only;assumption)|focus(simp;done)|focus(dsimp only;omega))|((with_reducible apply jn);first|with_reducible rfl|focus(simp;done)|focus(simp;omega))|(with_reducible apply ja)|((with_reducible apply jb);with_reducible assumption)));rfl),?_⟩;(repeat (first|(with_reducible assumption)|(with_reducible exact Touch.refl _ _)|(with_reducible refine Touch.drew ?_)|(with_reducible refine Touch.set ?_)|((with_reducible refine Touch.setNew' ?_ hlt ?_);(focus (first|exact Nat.le_refl _|exact Nat.le_succ _|omega)))|(with_reducible refine Touch.alloc ?_ hlt))))
  · have hk2 : ¬ k < 0:=by omega
    go_enter Tryd.func89,Tryd.ntmps89
    go_wp2
    (refine ret_blk1 (b:=w.heap.size) (c:=#[.int .i64 0,.int .u64 0,.int .i64 0,.int .i64 0,.int .i64 0,.int .i64 0,.int .i64 0,.int .i64 0,.string ⟨#[]⟩]) (v:=.tuple #[buv 0 0 0 0 0 0 0 0 ⟨#[]⟩,.bool false]) (by (apply jt;(focus repeat(first|(with_reducible first|assumption|apply jd|apply js)|((with_reducible apply jo);first|focus(dsimp only;assumption)|focus(simp;done)|focus(dsimp only;omega))|((with_reducible apply jn);first|with_reducible rfl|focus(simp;done)|focus(simp;omega))|(with_reducible apply ja)|((with_reducible apply jb);with_reducible assumption)));rfl)) (fun W' e1 => by simp [results,Tryd.results89,go_sem,e1]) rfl ⟨rfl,by (apply jt;(focus repeat(first|(with_reducible first|assumption|apply jd|apply js)|((with_reducible apply jo);first|focus(dsimp only;assumption)|focus(simp;done)|focus(dsimp only;omega))|((with_reducible apply jn);first|with_reducible rfl|focus(simp;done)|focus(simp;omega))|(with_reducible apply ja)|((with_reducible apply jb);with_reducible assumption)));rfl),?_⟩;(repeat (first|(with_reducible assumption)|(with_reducible exact Touch.refl _ _)|(with_reducible refine Touch.drew ?_)|(with_reducible refine Touch.set ?_)|((with_reducible refine Touch.setNew' ?_ hlt ?_);(focus (first|exact Nat.le_refl _|exact Nat.le_succ _|omega)))|(with_reducible refine Touch.alloc ?_ hlt))))
  · go_enter Tryd.func89,Tryd.ntmps89
    go_wp2
    (refine ret_blk1 (b:=w.heap.size) (c:=#[.int .i64 0,.int .u64 0,.int .i64 0,.int .i64 0,.int .i64 0,.int .i64 0,.int .i64 0,.int .i64 0,.string ⟨#[]⟩]) (v:=.tuple #[buv 0 0 0 0 0 0 0 0 ⟨#[]⟩,.bool false]) (by (apply jt;(focus repeat(first|(with_reducible first|assumption|apply jd|apply js)|((with_reducible apply jo);first|focus(dsimp only;assumption)|focus(simp;done)|focus(dsimp only;omega))|((with_reducible apply jn);first|with_reducible rfl|focus(simp;done)|focus(simp;omega))|(with_reducible apply ja)|((with_reducible apply jb);with_reducible assumption)));rfl)) (fun W' e1 => by simp [results,Tryd.results89,go_sem,e1]) rfl ⟨rfl,by (apply jt;(focus repeat(first|(with_reducible first|assumption|apply jd|apply js)|((with_reducible apply jo);first|focus(dsimp only;assumption)|focus(simp;done)|focus(dsimp only;omega))|((with_reducible apply jn);first|with_reducible rfl|focus(simp;done)|focus(simp;omega))|(with_reducible apply ja)|((with_reducible apply jb);with_reducible assumption)));rfl),?_⟩;(repeat (first|(with_reducible assumption)|(with_reducible exact Touch.refl _ _)|(with_reducible refine Touch.drew ?_)|(with_reducible refine Touch.set ?_)|((with_reducible refine Touch.setNew' ?_ hlt ?_);(focus (first|exact Nat.le_refl _|exact Nat.le_succ _|omega)))|(with_reducible refine Touch.alloc ?_ hlt))))
theorem refFields_any (b : Nat) (s : ByteArray) (hs : s.size ≤ maxLen) (pr : Int) (fu : Bool) (r0 : Rs) (hst : startR s.data.toList = (pr,fu,r0)) (X : Fl) (hX : fieldsJ s.data.toList fu r0 = X) (w : World) (hb : blk w b = some (rdC s 0 0 0)) :
    Calls Tryd.prog 89 #[.pointer (some ⟨b,0,none⟩)] w fun q w' => q = .returned (.tuple #[buv X.no X.sq X.of X.de pr X.bo X.li X.to ⟨#[]⟩,.bool fu]) ∧ (∃ p,blk w' b = some (rdC s p X.r.err X.r.fat) ∧ (X.r.err = 0 → p = X.r.pos)) ∧ Touch b w w':=by
  by_cases h : s.size = 0
  · have h1 : s.data.toList = []:=by rw [← List.length_eq_zero_iff];simpa using h
    rw [h1] at hst hX
    simp only [startR,Prod.mk.injEq] at hst
    obtain ⟨rfl,rfl,rfl⟩:=hst
    have hX' : X = ⟨0,0,0,0,0,0,0,⟨0,11,0⟩⟩:=by rw [← hX];rfl
    subst hX'
    exact (refFields_none b s h w hb).mono fun q w' ⟨e1,e2,e3⟩ => ⟨e1,⟨0,e2,fun _ => rfl⟩,e3⟩
  · have h0 : 0 < s.size:=by omega
    have h1 : s.data.toList = s[0] :: s.data.toList.drop 1:=by simpa using drop_at s 0 h0
    rw [h1,startR] at hst
    cases hh : hdB s[0].toNat
    · rw [hh,if_neg (by simp)] at hst
      simp only [Prod.mk.injEq] at hst
      obtain ⟨rfl,rfl,rfl⟩:=hst
      have hX' : X = ⟨0,0,0,0,0,0,0,⟨0,3,0⟩⟩:=by rw [← hX];rfl
      subst hX'
      exact (refFields_bad b s h0 hs hh w hb).mono fun q w' ⟨e1,e2,e3⟩ => ⟨e1,⟨0,e2,fun _ => rfl⟩,e3⟩
    · rw [hh,if_pos rfl] at hst
      simp only [Prod.mk.injEq] at hst
      obtain ⟨rfl,hfu,rfl⟩:=hst
      have hh' : 176 ≤ s[0].toNat ∧ s[0].toNat ≤ 182 ∧ s[0].toNat ≠ 179:=by unfold hdB at hh;simpa using hh
      have hk : (s[0].toNat : Int) - 176 = ((s[0].toNat - 176 : Nat) : Int):=by omega
      have hpr : (((s[0].toNat - 176 : Nat) : Int)).tmod 4 = (((s[0].toNat - 176) % 4 : Nat) : Int):=by rw [Int.tmod_eq_emod_of_nonneg (by omega)];omega
      by_cases h8 : 180 ≤ s[0].toNat
      · obtain rfl : fu = true:=by rw [← hfu];simp [h8]
        exact (refFields_full b s (s[0].toNat - 176) ((s[0].toNat - 176) % 4) h0 hs hk (by omega) (by omega) (by omega) hpr X hX w hb).mono fun q w' ⟨e1,e2,e3⟩ => ⟨e1,⟨_,e2,fun _ => rfl⟩,e3⟩
      · obtain rfl : fu = false:=by rw [← hfu];simp;omega
        exact (refFields_part b s (s[0].toNat - 176) ((s[0].toNat - 176) % 4) h0 hs hk (by omega) (by omega) (by omega) hpr X hX w hb).mono fun q w' ⟨e1,e2,e3⟩ => ⟨e1,⟨_,e2,fun _ => rfl⟩,e3⟩
end Go.Proofs.YtaiofjffoboicaaDoor
