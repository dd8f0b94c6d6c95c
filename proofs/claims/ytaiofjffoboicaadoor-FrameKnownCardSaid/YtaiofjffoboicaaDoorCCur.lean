/- Parts of a proof, printed by a program of mine out of my texts: FrCur, FrBun. -/
import Derived.Test.YtaiofjffoboicaaDoorCI
import Derived.Test.YtaiofjffoboicaaDoorCLaw
import Derived.Test.YtaiofjffoboicaaDoorCWiDec3
set_option linter.unusedSimpArgs false
set_option linter.unusedVariables false
namespace Go.Proofs.YtaiofjffoboicaaDoor
open Go.RowKit
def Touch2 (C T : Nat) (w w' : World) : Prop:=Below (min C T) w w' ∧ (∀ d c,d ≠ C → d ≠ T → blk w d = some c → blk w' d = some c) ∧ w.heap.size ≤ w'.heap.size
theorem Touch2.refl (C T : Nat) (w : World) : Touch2 C T w w:=⟨Below.refl _ _,fun _ _ _ _ h => h,Nat.le_refl _⟩
theorem Touch2.trans {C T : Nat} {w W W' : World} (h : Touch2 C T w W) (k : Touch2 C T W W') : Touch2 C T w W' :=
  ⟨h.1.trans k.1,fun d c h1 h2 h3 => k.2.1 d c h1 h2 (h.2.1 d c h1 h2 h3),Nat.le_trans h.2.2 k.2.2⟩
theorem Touch2.setC {C T i : Nat} {w W : World} {v : Value} (h : Touch2 C T w W) : Touch2 C T w (W.setCell ⟨C,i,none⟩ v) :=
  ⟨h.1.setCell (p:=⟨C,i,none⟩) (Nat.min_le_left _ _) v,fun d c h1 h2 h3 => blk_other (a:=⟨C,i,none⟩) (h.2.1 d c h1 h2 h3) h1,by simpa using h.2.2⟩
theorem Touch2.setT {C T i : Nat} {w W : World} {v : Value} (h : Touch2 C T w W) : Touch2 C T w (W.setCell ⟨T,i,none⟩ v) :=
  ⟨h.1.setCell (p:=⟨T,i,none⟩) (Nat.min_le_right _ _) v,fun d c h1 h2 h3 => blk_other (a:=⟨T,i,none⟩) (h.2.1 d c h1 h2 h3) h2,by simpa using h.2.2⟩
theorem Touch2.below {C T : Nat} {w W W' : World} (h : Touch2 C T w W) (hb : Below W.heap.size W W') (hlt : C ≤ W.heap.size) : Touch2 C T w W' :=
  ⟨h.1.trans (hb.mono (Nat.le_trans (Nat.min_le_left _ _) hlt)),fun d c h1 h2 h3 => blk_below hb (h.2.1 d c h1 h2 h3),Nat.le_trans h.2.2 hb.size⟩
theorem Touch2.ofC {C T : Nat} {w W : World} (h : Touch C w W) : Touch2 C T w W :=
  ⟨h.1.mono (Nat.min_le_left _ _),fun d c h1 _ h3 => h.2.1 d c h1 h3,h.2.2⟩
theorem Touch2.box {C T X : Nat} {w W W' : World} (h : Touch2 C X W W') (hX : X = w.heap.size) (hC : C < w.heap.size) (k : Below w.heap.size w W) : Touch2 C T w W' :=
  ⟨(k.mono (by omega)).trans (h.1.mono (by omega)),fun d c h1 h2 h3 => h.2.1 d c h1 (by have:=blk_lt h3;omega) (blk_below k h3),Nat.le_trans k.size h.2.2⟩
theorem Touch2.alloc {C T : Nat} {w W : World} {o : Obj} (hlt : C < w.heap.size) (h : Touch2 C T w W) : Touch2 C T w (W.alloc o) :=
  h.below ((Below.refl _ _).alloc (Nat.le_refl _) _) (Nat.le_trans (Nat.le_of_lt hlt) h.2.2)
theorem set_same {cs : Array Value} {o : Nat} {v : Value} (h : cs[o]? = some v) : cs.setIfInBounds o v = cs:=by
  obtain ⟨hlt,he⟩:=Array.getElem?_eq_some_iff.1 h
  apply Array.ext
  · simp
  · intro i h1 h2
    rw [Array.getElem_setIfInBounds]
    split
    · rename_i hi;subst hi;exact he.symm
    · rfl
set_option maxRecDepth 100000 in
set_option maxHeartbeats 800000 in
theorem cfail_any (b : Nat) (s : ByteArray) (p er fa e a : Int) (w : World) (hb : blk w b = some (rdC s p er fa)) :
    Calls Tryd.prog 29 #[.pointer (some ⟨b,0,none⟩),.int .i64 e,.int .i64 a] w fun q w' => q = .returned (.pointer (some ⟨b,0,none⟩)) ∧
      blk w' b = some (rdC s p (failC er fa e a).1 (failC er fa e a).2) ∧ Touch b w w':=by
  have knb:=kn hb
  by_cases h1 : er = 0
  · subst h1
    by_cases h2 : e = 0
    · subst h2
      rw [show failC 0 fa 0 a = (0,fa) by simp [failC]]
      have Hb:=Lib.hid hb
      go_enter Tryd.func29,Tryd.ntmps29
      go_wp2
      go_ret
      exact ⟨rfl,hb,Touch.refl _ _⟩
    · rw [show failC 0 fa e a = (e,a) by simp [failC,h2]]
      have e2 : (e != 0) = true:=by simp [h2]
      clear h2
      go_enter Tryd.func29,Tryd.ntmps29
      go_wp2
      go_ret
      exact ⟨rfl,(by (apply jt;(focus repeat(first|(with_reducible first|assumption|apply jd|apply js)|((with_reducible apply jo);first|focus(dsimp only;assumption)|focus(simp;done)|focus(dsimp only;omega))|((with_reducible apply jn);first|with_reducible rfl|focus(simp;done)|focus(simp;omega))|(with_reducible apply ja)|((with_reducible apply jb);with_reducible assumption)));rfl)),(Touch.refl _ _).set.set⟩
  · rw [show failC er fa e a = (er,fa) by simp [failC,h1]]
    have e1 : (er == 0) = false:=by simp [h1]
    clear h1
    go_enter Tryd.func29,Tryd.ntmps29
    go_wp2
    go_ret
    exact ⟨rfl,hb,Touch.refl _ _⟩
theorem rdN_go (l : List UInt8) (p fa : Int) (n nx e : Nat) (h : getN l p = (n,nx,e)) : rdN l ⟨p,0,fa⟩ = ((n : Int),⟨nx,e,(failC 0 fa e nx).2⟩) ∧ (failC 0 fa e nx).1 = e:=by
  refine ⟨?_,by rw [failC_eq]⟩
  unfold rdN;rw [h,failC_eq]
  simp only [ne_eq,not_true_eq_false,if_false]
  by_cases h0 : e = 0
  · simp [h0]
  · simp [h0]
theorem rdN_fault (l : List UInt8) (r : Rs) (h : r.err ≠ 0) : rdN l r = (0,r):=by unfold rdN;rw [if_pos h]
set_option maxRecDepth 100000 in
set_option maxHeartbeats 1600000 in
theorem cnum_any (C T o : Nat) (cs : Array Value) (u : Bool) (s : ByteArray) (p er fa : Int) (hs : s.size ≤ maxLen) (w : World) (hC : blk w C = some (rdC s p er fa)) (hT : blk w T = some cs) (hne : T ≠ C) (h0 : cs[o]? = some (.int .u64 0)) :
    Calls Tryd.prog 27 #[.pointer (some ⟨C,0,none⟩),.bool u,.pointer (some ⟨T,o,none⟩)] w fun q w' => q = .returned (.pointer (some ⟨C,0,none⟩)) ∧
      blk w' C = some (rdC s (rdU u s.data.toList ⟨p,er,fa⟩).2.pos (rdU u s.data.toList ⟨p,er,fa⟩).2.err (rdU u s.data.toList ⟨p,er,fa⟩).2.fat) ∧
      blk w' T = some (cs.setIfInBounds o (.int .u64 (rdU u s.data.toList ⟨p,er,fa⟩).1)) ∧ Touch2 C T w w':=by
  cases u
  · rw [show rdU false s.data.toList ⟨p,er,fa⟩ = (0,⟨p,er,fa⟩) from rfl]
    have hsm:=set_same h0
    have hT' : blk w T = some (cs.setIfInBounds o (.int .u64 0)):=by rw [hsm];exact hT
    have Hc:=Lib.hid hC
    clear hT hsm h0
    go_enter Tryd.func27,Tryd.ntmps27
    go_wp2
    go_ret
    exact ⟨rfl,Hc.out,hT',Touch2.refl _ _ _⟩
  · rw [show rdU true s.data.toList ⟨p,er,fa⟩ = rdN s.data.toList ⟨p,er,fa⟩ from rfl]
    by_cases h1 : er = 0
    · subst h1
      have cg:=fun w => numGet_any s p w hs
      obtain ⟨⟨n,nx,e⟩,hg⟩ : ∃ r,getN s.data.toList p = r:=⟨_,rfl⟩
      rw [hg] at cg
      have cg : ∀ w,Calls Tryd.prog 52 #[.string s,.int .i64 p] w fun e' w' => e' = .returned (.tuple #[.int .u64 (n : Int),.int .i64 (nx : Int),.int .i64 (e : Int)]) ∧ Below w.heap.size w w':=cg
      replace cg:=Lib.hid cg
      obtain ⟨hr1,hr2⟩:=rdN_go s.data.toList p fa n nx e hg
      rw [hr1]
      have gf:=Lib.hid fun w h => cfail_any C s nx 0 fa e nx w h
      obtain ⟨f1,f2,hff⟩ : ∃ f1 f2,failC 0 fa e nx = (f1,f2):=⟨_,_,rfl⟩
      rw [hff] at gf hr2 ⊢
      simp only at hr2 gf ⊢
      subst hr2
      have hlt:=blk_lt hC
      have hlt2:=blk_lt hT
      have hne' : C ≠ T:=Ne.symm hne
      clear hff hg hr1
      go_enter Tryd.func27,Tryd.ntmps27
      have knC:=kn hC
      go_wp2
      refine wp_region_in (by kernel_rfl) (by kernel_rfl) ?_
      intro W0_1 hE_1 hN_1
      have bW0_1 : Below w.heap.size w W0_1:=(by rw [hE_1.out];(repeat(first|(with_reducible first|assumption|exact Below.refl _ _|refine je ?_|refine jl ?_)|((with_reducible refine jp ?_ ?_);first|focus(dsimp only;assumption)|focus(simp;done)|focus(dsimp only;omega))|(with_reducible refine bt ?_ (by assumption)))))
      have kk2 : blk W0_1 (C) = some #[.string s,.int .i64 p,.int .i64 0,.int .i64 fa]:=(by rw [hE_1.out];(apply jt;(focus repeat(first|(with_reducible first|assumption|apply jd|apply js)|((with_reducible apply jo);first|focus(dsimp only;assumption)|focus(simp;done)|focus(dsimp only;omega))|((with_reducible apply jn);first|with_reducible rfl|focus(simp;done)|focus(simp;omega))|(with_reducible apply ja)|((with_reducible apply jb);with_reducible assumption)));rfl))
      have kk3 : blk W0_1 (T) = some cs:=(by rw [hE_1.out];(apply jt;(focus repeat(first|(with_reducible first|assumption|apply jd|apply js)|((with_reducible apply jo);first|focus(dsimp only;assumption)|focus(simp;done)|focus(dsimp only;omega))|((with_reducible apply jn);first|with_reducible rfl|focus(simp;done)|focus(simp;omega))|(with_reducible apply ja)|((with_reducible apply jb);with_reducible assumption)));rfl))
      have kn2:=calm_kn kk2
      have kn3:=calm_kn kk3
      clear hE_1
      repeat (go_big_quiet_step ((go_at_call 52;(with_reducible refine Class.go _ (cg.out _)))))
      refine wpQuiet_nil ?_
      rintro _ ⟨x_1,rfl⟩
      have hx_1 : Calm W0_1 x_1.wd:=x_1.ok
      have bw2 : Below w.heap.size w x_1.wd:=bt bW0_1 hx_1
      clear kn2;replace kk2:=blk_below hx_1 kk2;have kn2:=kn kk2
      clear kn3;replace kk3:=blk_below hx_1 kk3;have kn3:=kn kk3
      clear hx_1 bW0_1 hN_1
      generalize x_1.wd = w2 at *
      have sw2:=bw2.size
      go_wp2_with fail
      (with_reducible refine (gf.out _ ?_).mono ?_)
      · (apply jt;(focus repeat(first|(with_reducible first|assumption|apply jd|apply js)|((with_reducible apply jo);first|focus(dsimp only;assumption)|focus(simp;done)|focus(dsimp only;omega))|((with_reducible apply jn);first|with_reducible rfl|focus(simp;done)|focus(simp;omega))|(with_reducible apply ja)|((with_reducible apply jb);with_reducible assumption)));rfl)
      rintro q wf ⟨rfl,hbf,hf⟩
      go_wp2
      go_ret
      exact ⟨rfl,hbf,hf.2.1 _ _ hne (by (apply jt;(focus repeat(first|(with_reducible first|assumption|apply jd|apply js)|((with_reducible apply jo);first|focus(dsimp only;assumption)|focus(simp;done)|focus(dsimp only;omega))|((with_reducible apply jn);first|with_reducible rfl|focus(simp;done)|focus(simp;omega))|(with_reducible apply ja)|((with_reducible apply jb);with_reducible assumption)));rfl)),(((Touch2.refl C T w).below bw2 (Nat.le_of_lt hlt)).setT.setC).trans (Touch2.ofC hf)⟩
    · rw [rdN_fault s.data.toList ⟨p,er,fa⟩ h1]
      have hsm:=set_same h0
      have hT' : blk w T = some (cs.setIfInBounds o (.int .u64 0)):=by rw [hsm];exact hT
      have knC:=kn hC
      have e1 : (er != 0) = true:=by simp [h1]
      clear h1 hT hsm h0
      go_enter Tryd.func27,Tryd.ntmps27
      go_wp2
      go_ret
      exact ⟨rfl,hC,hT',Touch2.refl _ _ _⟩
set_option maxRecDepth 100000 in
set_option maxHeartbeats 1600000 in
theorem cint_any (C T o : Nat) (cs : Array Value) (u : Bool) (s : ByteArray) (p er fa : Int) (hs : s.size ≤ maxLen) (w : World) (hC : blk w C = some (rdC s p er fa)) (hT : blk w T = some cs) (hne : T ≠ C) (h0 : cs[o]? = some (.int .i64 0)) :
    Calls Tryd.prog 26 #[.pointer (some ⟨C,0,none⟩),.bool u,.pointer (some ⟨T,o,none⟩)] w fun q w' => q = .returned (.pointer (some ⟨C,0,none⟩)) ∧
      blk w' C = some (rdC s (rdU u s.data.toList ⟨p,er,fa⟩).2.pos (rdU u s.data.toList ⟨p,er,fa⟩).2.err (rdU u s.data.toList ⟨p,er,fa⟩).2.fat) ∧
      blk w' T = some (cs.setIfInBounds o (.int .i64 (wrapI (rdU u s.data.toList ⟨p,er,fa⟩).1))) ∧ Touch2 C T w w':=by
  have hlt:=blk_lt hC
  have hlt2:=blk_lt hT
  have gn:=Lib.hid fun w h1 h2 => cnum_any C (w.heap.size) 0 #[.int .u64 0] u s p er fa hs w h1 h2
  obtain ⟨⟨n,⟨p',er',fa'⟩⟩,hr⟩ : ∃ r,rdU u s.data.toList ⟨p,er,fa⟩ = r:=⟨_,rfl⟩
  have gn:=Lib.hid fun w' h1 h2 => cnum_any C w.heap.size 0 #[.int .u64 0] u s p er fa hs w' h1 h2 (Nat.ne_of_gt hlt) rfl
  rw [hr] at gn ⊢
  unfold wrapI
  obtain ⟨m,hm⟩ : ∃ m,IntKind.i64.wrap n = m:=⟨_,rfl⟩
  rw [hm]
  have hT0 : w.cell? ⟨T,o,none⟩ = some (.int .i64 0):=(blk_cell hT o).trans h0
  clear hr h0
  go_enter Tryd.func26,Tryd.ntmps26
  go_wp2_with fail
  (with_reducible refine (gn.out _ ?_ ?_).mono ?_)
  · (apply jt;(focus repeat(first|(with_reducible first|assumption|apply jd|apply js)|((with_reducible apply jo);first|focus(dsimp only;assumption)|focus(simp;done)|focus(dsimp only;omega))|((with_reducible apply jn);first|with_reducible rfl|focus(simp;done)|focus(simp;omega))|(with_reducible apply ja)|((with_reducible apply jb);with_reducible assumption)));rfl)
  · (apply jt;(focus repeat(first|(with_reducible first|assumption|apply jd|apply js)|((with_reducible apply jo);first|focus(dsimp only;assumption)|focus(simp;done)|focus(dsimp only;omega))|((with_reducible apply jn);first|with_reducible rfl|focus(simp;done)|focus(simp;omega))|(with_reducible apply ja)|((with_reducible apply jb);with_reducible assumption)));rfl)
  rintro q w2 ⟨rfl,c1,c2,c3⟩
  have kX:=kn c2
  have kT : blk w2 T = some cs:=c3.2.1 T cs hne (Nat.ne_of_lt hlt2) (by (apply jt;(focus repeat(first|(with_reducible first|assumption|apply jd|apply js)|((with_reducible apply jo);first|focus(dsimp only;assumption)|focus(simp;done)|focus(dsimp only;omega))|((with_reducible apply jn);first|with_reducible rfl|focus(simp;done)|focus(simp;omega))|(with_reducible apply ja)|((with_reducible apply jb);with_reducible assumption)));rfl))
  have hT2 : w2.cell? ⟨T,o,none⟩ = some (.int .i64 0):=by rw [blk_cell kT o,← blk_cell hT o];exact hT0
  have kF:=blk_frozen kT
  go_wp2
  go_ret
  refine ⟨rfl,by (apply jt;(focus repeat(first|(with_reducible first|assumption|apply jd|apply js)|((with_reducible apply jo);first|focus(dsimp only;assumption)|focus(simp;done)|focus(dsimp only;omega))|((with_reducible apply jn);first|with_reducible rfl|focus(simp;done)|focus(simp;omega))|(with_reducible apply ja)|((with_reducible apply jb);with_reducible assumption)));rfl),by (apply jt;(focus repeat(first|(with_reducible first|assumption|apply jd|apply js)|((with_reducible apply jo);first|focus(dsimp only;assumption)|focus(simp;done)|focus(dsimp only;omega))|((with_reducible apply jn);first|with_reducible rfl|focus(simp;done)|focus(simp;omega))|(with_reducible apply ja)|((with_reducible apply jb);with_reducible assumption)));rfl),?_⟩
  exact (Touch2.box (T:=T) c3 rfl hlt (by (repeat(first|(with_reducible first|assumption|exact Below.refl _ _|refine je ?_|refine jl ?_)|((with_reducible refine jp ?_ ?_);first|focus(dsimp only;assumption)|focus(simp;done)|focus(dsimp only;omega))|(with_reducible refine bt ?_ (by assumption)))))).setT
end Go.Proofs.YtaiofjffoboicaaDoor
namespace Go.Proofs.YtaiofjffoboicaaDoor
open Go.RowKit
abbrev withB (a0 a1 a2 a3 a4 a5 a6 a7 a8 a9 : Value) (d : Dr) : Array Value :=
  #[a0,a1,a2,a3,a4,a5,a6,a7,a8,a9,.int .i64 d.no,.int .u64 d.sq,.int .i64 d.of,.int .i64 d.de,.int .i64 d.pr,.int .i64 d.bo,.int .i64 d.li,.int .i64 d.to,.string ⟨d.da.toArray⟩]
theorem rdB_text (l : List UInt8) (p fa nx z : Int) (t : List UInt8) (h : getTextN l p 1200 = (t,nx,z)) (hz : z ≠ 0) : rdB l ⟨p,0,fa⟩ = (.bad 0 0,⟨nx,z,nx⟩):=by
  unfold rdB;rw [h];simp [hz]
theorem rdB_go (l : List UInt8) (p fa nx : Int) (t : List UInt8) (h : getTextN l p 1200 = (t,nx,0)) : rdB l ⟨p,0,fa⟩ = (decL t,⟨nx,(failC 0 fa (decL t).err (nx - t.length + (decL t).fat)).1,(failC 0 fa (decL t).err (nx - t.length + (decL t).fat)).2⟩):=by
  unfold rdB;rw [h,failC_eq];simp
set_option maxRecDepth 100000 in
set_option maxHeartbeats 3200000 in
theorem cbun_any (C T : Nat) (a0 a1 a2 a3 a4 a5 a6 a7 a8 a9 : Value) (u : Bool) (s : ByteArray) (p er fa : Int) (hs : s.size ≤ 1000000) (hp : er = 0 → 0 ≤ p ∧ p ≤ s.size) (w0 w : World) (hH : HTab w0) (hST : STab w0) (hw0 : Below w0.heap.size w0 w) (hC0 : w0.heap.size ≤ C) (hT0 : w0.heap.size ≤ T)
    (hC : blk w C = some (rdC s p er fa)) (hT : blk w T = some #[a0,a1,a2,a3,a4,a5,a6,a7,a8,a9,.int .i64 0,.int .u64 0,.int .i64 0,.int .i64 0,.int .i64 0,.int .i64 0,.int .i64 0,.int .i64 0,.string ⟨#[]⟩]) (hne : T ≠ C) :
    Calls Tryd.prog 28 #[.pointer (some ⟨C,0,none⟩),.bool u,.pointer (some ⟨T,10,none⟩)] w fun q w' => q = .returned (.pointer (some ⟨C,0,none⟩)) ∧
      blk w' C = some (rdC s (rdV u s.data.toList ⟨p,er,fa⟩).2.pos (rdV u s.data.toList ⟨p,er,fa⟩).2.err (rdV u s.data.toList ⟨p,er,fa⟩).2.fat) ∧
      blk w' T = some (withB a0 a1 a2 a3 a4 a5 a6 a7 a8 a9 (rdV u s.data.toList ⟨p,er,fa⟩).1) ∧ Touch2 C T w w':=by
  cases u
  · rw [show rdV false s.data.toList ⟨p,er,fa⟩ = (.bad 0 0,⟨p,er,fa⟩) from rfl]
    have Hc:=Lib.hid hC
    go_enter Tryd.func28,Tryd.ntmps28
    go_wp2
    go_ret
    exact ⟨rfl,Hc.out,hT,Touch2.refl _ _ _⟩
  · rw [show rdV true s.data.toList ⟨p,er,fa⟩ = rdB s.data.toList ⟨p,er,fa⟩ from rfl]
    have hlt:=blk_lt hC
    have hlt2:=blk_lt hT
    by_cases h1 : er = 0
    · subst h1
      obtain ⟨hp1,hp2⟩:=hp rfl
      have hl : s.data.toList.length = s.size:=by simp
      have cg:=fun w => numGetText_any s p 1200 w (by unfold maxLen;omega) (by omega) (by omega) (by omega)
      have hpos:=textN_pos s.data.toList p 1200 ⟨hp1,by omega⟩
      obtain ⟨⟨t,nx,z⟩,hg⟩ : ∃ r,getTextN s.data.toList p 1200 = r:=⟨_,rfl⟩
      rw [hg] at cg hpos
      obtain ⟨tt,rfl⟩ : ∃ tt : ByteArray,t = tt.data.toList:=⟨⟨t.toArray⟩,rfl⟩
      have htl : tt.data.toList.length = tt.size:=by simp
      simp only at hpos
      rw [hl,htl] at hpos
      have cg : ∀ w,Calls Tryd.prog 53 #[.string s,.int .i64 p,.int .i64 1200] w fun e' w' => e' = .returned (.tuple #[.string tt,.int .i64 nx,.int .i64 z]) ∧ Below w.heap.size w w':=cg
      replace cg:=Lib.hid cg
      have hne' : C ≠ T:=Ne.symm hne
      have knC:=kn hC
      by_cases hz : z = 0
      · subst hz
        rw [rdB_go s.data.toList p fa nx tt.data.toList hg,htl]
        have gd:=fun w h1 h2 => decode_any tt (by omega) w h1 h2
        have hfat:=decL_fat tt.data.toList
        rw [htl] at hfat
        unfold decV at gd
        unfold withB
        obtain ⟨⟨dno,dsq,dof,dde,dpr,dbo,dli,dto,dda,de,df⟩,hd⟩ : ∃ d,decL tt.data.toList = d:=⟨_,rfl⟩
        rw [hd] at gd hfat ⊢
        clear hd
        simp only at gd hfat ⊢
        obtain ⟨db,hdb⟩ : ∃ b : ByteArray,(⟨dda.toArray⟩ : ByteArray) = b:=⟨_,rfl⟩
        simp only [hdb] at gd ⊢
        clear hdb
        have gf:=Lib.hid fun w h => cfail_any C s nx 0 fa de (nx - tt.size + df) w h
        obtain ⟨f1,f2,hff⟩ : ∃ f1 f2,failC 0 fa de (nx - tt.size + df) = (f1,f2):=⟨_,_,rfl⟩
        rw [hff] at gf ⊢
        simp only at gf ⊢
        have x1 : IntKind.i64.wrap (nx - (tt.size : Int)) = nx - tt.size:=IntWalk.i64_in _ (by omega)
        have x2 : IntKind.i64.wrap (nx - (tt.size : Int) + df) = nx - tt.size + df:=IntWalk.i64_in _ (by omega)
        replace gd:=Lib.hid gd
        clear hff hg htl hl hpos
        have HH:=Lib.hid hH;have HST:=Lib.hid hST;have HW0:=Lib.hid hw0
        clear hH hST hw0 hp hfat
        go_enter Tryd.func28,Tryd.ntmps28
        go_wp2
        refine wp_region_in (by kernel_rfl) (by kernel_rfl) ?_
        intro W0_1 hE_1 hN_1
        have bW0_1 : Below w.heap.size w W0_1:=(by rw [hE_1.out];(repeat(first|(with_reducible first|assumption|exact Below.refl _ _|refine je ?_|refine jl ?_)|((with_reducible refine jp ?_ ?_);first|focus(dsimp only;assumption)|focus(simp;done)|focus(dsimp only;omega))|(with_reducible refine bt ?_ (by assumption)))))
        have kk2 : blk W0_1 (C) = some #[.string s,.int .i64 p,.int .i64 0,.int .i64 fa]:=(by rw [hE_1.out];(apply jt;(focus repeat(first|(with_reducible first|assumption|apply jd|apply js)|((with_reducible apply jo);first|focus(dsimp only;assumption)|focus(simp;done)|focus(dsimp only;omega))|((with_reducible apply jn);first|with_reducible rfl|focus(simp;done)|focus(simp;omega))|(with_reducible apply ja)|((with_reducible apply jb);with_reducible assumption)));rfl))
        have kk3 : blk W0_1 (T) = some #[a0,a1,a2,a3,a4,a5,a6,a7,a8,a9,.int .i64 0,.int .u64 0,.int .i64 0,.int .i64 0,.int .i64 0,.int .i64 0,.int .i64 0,.int .i64 0,.string ⟨#[]⟩]:=(by rw [hE_1.out];(apply jt;(focus repeat(first|(with_reducible first|assumption|apply jd|apply js)|((with_reducible apply jo);first|focus(dsimp only;assumption)|focus(simp;done)|focus(dsimp only;omega))|((with_reducible apply jn);first|with_reducible rfl|focus(simp;done)|focus(simp;omega))|(with_reducible apply ja)|((with_reducible apply jb);with_reducible assumption)));rfl))
        have kn2:=calm_kn kk2
        have kn3:=calm_kn kk3
        clear hE_1
        repeat (go_big_quiet_step ((go_at_call 53;(with_reducible refine Class.go _ (cg.out _)))))
        refine wpQuiet_nil ?_
        rintro _ ⟨x_1,rfl⟩
        have hx_1 : Calm W0_1 x_1.wd:=x_1.ok
        have bw2 : Below w.heap.size w x_1.wd:=bt bW0_1 hx_1
        clear kn2;replace kk2:=blk_below hx_1 kk2;have kn2:=kn kk2
        clear kn3;replace kk3:=blk_below hx_1 kk3;have kn3:=kn kk3
        clear hx_1 bW0_1 hN_1
        generalize x_1.wd = w2 at *
        have sw2:=bw2.size
        go_wp2_with fail
        have hB : ∀ v,Below w0.heap.size w0 (w2.setCell ⟨C,1,none⟩ v):=fun v => (HW0.out.trans (bw2.mono HW0.out.size)).setCell (p:=⟨C,1,none⟩) hC0 v
        (with_reducible refine (gd.out _ (HH.out.on (hB _)) (HST.out.on (hB _))).mono ?_)
        rintro q w3 ⟨rfl,h3⟩
        have kC3 : blk w3 C = some #[.string s,.int .i64 nx,.int .i64 0,.int .i64 fa]:=(by (apply jt;(focus repeat(first|(with_reducible first|assumption|apply jd|apply js)|((with_reducible apply jo);first|focus(dsimp only;assumption)|focus(simp;done)|focus(dsimp only;omega))|((with_reducible apply jn);first|with_reducible rfl|focus(simp;done)|focus(simp;omega))|(with_reducible apply ja)|((with_reducible apply jb);with_reducible assumption)));rfl))
        have nC3:=kn kC3
        have kT3 : blk w3 T = some #[a0,a1,a2,a3,a4,a5,a6,a7,a8,a9,.int .i64 0,.int .u64 0,.int .i64 0,.int .i64 0,.int .i64 0,.int .i64 0,.int .i64 0,.int .i64 0,.string ⟨#[]⟩]:=(by (apply jt;(focus repeat(first|(with_reducible first|assumption|apply jd|apply js)|((with_reducible apply jo);first|focus(dsimp only;assumption)|focus(simp;done)|focus(dsimp only;omega))|((with_reducible apply jn);first|with_reducible rfl|focus(simp;done)|focus(simp;omega))|(with_reducible apply ja)|((with_reducible apply jb);with_reducible assumption)));rfl))
        have nT3:=kn kT3
        have tC3 : Touch2 C T w w3:=(((Touch2.refl C T w).below bw2 (Nat.le_of_lt hlt)).setC).below h3 (by simp;omega)
        go_wp2_with fail
        (with_reducible refine (gf.out _ ?_).mono ?_)
        · refine blk_alloc (blk_alloc ?_ _) _
          iterate 9 (refine blk_other' hne' ?_)
          exact kC3
        rintro q wf ⟨rfl,hbf,hf⟩
        go_wp2
        go_ret
        refine ⟨rfl,hbf,hf.2.1 _ _ hne (blk_to (blk_alloc (blk_alloc (blk_set (blk_set (blk_set (blk_set (blk_set (blk_set (blk_set (blk_set (blk_set kT3))))))))) _) _) (by kernel_rfl)),Touch2.trans ?_ (Touch2.ofC hf)⟩
        exact Touch2.alloc hlt (Touch2.alloc hlt (Touch2.setT (Touch2.setT (Touch2.setT (Touch2.setT (Touch2.setT (Touch2.setT (Touch2.setT (Touch2.setT (Touch2.setT tC3))))))))))
      · rw [rdB_text s.data.toList p fa nx z tt.data.toList hg hz]
        have z1 : (z != 0) = true:=by simp [hz]
        have gf:=Lib.hid fun w h => cfail_any C s nx 0 fa z nx w h
        rw [show failC 0 fa z nx = (z,nx) by rw [failC_eq,if_pos hz]] at gf
        simp only at gf
        clear hg htl hl hpos hz hH hST hw0 hp
        go_enter Tryd.func28,Tryd.ntmps28
        go_wp2
        refine wp_region_in (by kernel_rfl) (by kernel_rfl) ?_
        intro W0_4 hE_4 hN_4
        have bW0_4 : Below w.heap.size w W0_4:=(by rw [hE_4.out];(repeat(first|(with_reducible first|assumption|exact Below.refl _ _|refine je ?_|refine jl ?_)|((with_reducible refine jp ?_ ?_);first|focus(dsimp only;assumption)|focus(simp;done)|focus(dsimp only;omega))|(with_reducible refine bt ?_ (by assumption)))))
        have kk5 : blk W0_4 (C) = some #[.string s,.int .i64 p,.int .i64 0,.int .i64 fa]:=(by rw [hE_4.out];(apply jt;(focus repeat(first|(with_reducible first|assumption|apply jd|apply js)|((with_reducible apply jo);first|focus(dsimp only;assumption)|focus(simp;done)|focus(dsimp only;omega))|((with_reducible apply jn);first|with_reducible rfl|focus(simp;done)|focus(simp;omega))|(with_reducible apply ja)|((with_reducible apply jb);with_reducible assumption)));rfl))
        have kk6 : blk W0_4 (T) = some #[a0,a1,a2,a3,a4,a5,a6,a7,a8,a9,.int .i64 0,.int .u64 0,.int .i64 0,.int .i64 0,.int .i64 0,.int .i64 0,.int .i64 0,.int .i64 0,.string ⟨#[]⟩]:=(by rw [hE_4.out];(apply jt;(focus repeat(first|(with_reducible first|assumption|apply jd|apply js)|((with_reducible apply jo);first|focus(dsimp only;assumption)|focus(simp;done)|focus(dsimp only;omega))|((with_reducible apply jn);first|with_reducible rfl|focus(simp;done)|focus(simp;omega))|(with_reducible apply ja)|((with_reducible apply jb);with_reducible assumption)));rfl))
        have kn5:=calm_kn kk5
        have kn6:=calm_kn kk6
        clear hE_4
        repeat (go_big_quiet_step ((go_at_call 53;(with_reducible refine Class.go _ (cg.out _)))))
        refine wpQuiet_nil ?_
        rintro _ ⟨x_4,rfl⟩
        have hx_4 : Calm W0_4 x_4.wd:=x_4.ok
        have bw2 : Below w.heap.size w x_4.wd:=bt bW0_4 hx_4
        clear kn5;replace kk5:=blk_below hx_4 kk5;have kn5:=kn kk5
        clear kn6;replace kk6:=blk_below hx_4 kk6;have kn6:=kn kk6
        clear hx_4 bW0_4 hN_4
        generalize x_4.wd = w2 at *
        have sw2:=bw2.size
        go_wp2_with fail
        (with_reducible refine (gf.out _ ?_).mono ?_)
        · (apply jt;(focus repeat(first|(with_reducible first|assumption|apply jd|apply js)|((with_reducible apply jo);first|focus(dsimp only;assumption)|focus(simp;done)|focus(dsimp only;omega))|((with_reducible apply jn);first|with_reducible rfl|focus(simp;done)|focus(simp;omega))|(with_reducible apply ja)|((with_reducible apply jb);with_reducible assumption)));rfl)
        rintro q wf ⟨rfl,hbf,hf⟩
        go_wp2
        go_ret
        exact ⟨rfl,hbf,hf.2.1 _ _ hne (by (apply jt;(focus repeat(first|(with_reducible first|assumption|apply jd|apply js)|((with_reducible apply jo);first|focus(dsimp only;assumption)|focus(simp;done)|focus(dsimp only;omega))|((with_reducible apply jn);first|with_reducible rfl|focus(simp;done)|focus(simp;omega))|(with_reducible apply ja)|((with_reducible apply jb);with_reducible assumption)));rfl)),(((Touch2.refl C T w).below bw2 (Nat.le_of_lt hlt)).setC).trans (Touch2.ofC hf)⟩
    · rw [show rdB s.data.toList ⟨p,er,fa⟩ = (.bad 0 0,⟨p,er,fa⟩) by unfold rdB;rw [if_pos h1]]
      have knC:=kn hC
      have e1 : (er != 0) = true:=by simp [h1]
      clear h1 hp
      go_enter Tryd.func28,Tryd.ntmps28
      go_wp2
      go_ret
      exact ⟨rfl,hC,hT,Touch2.refl _ _ _⟩
end Go.Proofs.YtaiofjffoboicaaDoor
