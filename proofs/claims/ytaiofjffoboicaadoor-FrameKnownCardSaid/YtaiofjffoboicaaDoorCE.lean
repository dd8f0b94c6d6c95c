/- Parts of a proof, printed by a program of mine out of my texts: WiRead, WiFields, WiStart, WiPeek, WiOpen. -/
import Derived.Deep.RegionHeld3
import Derived.Test.YtaiofjffoboicaaDoorCD
set_option linter.unusedSimpArgs false
set_option linter.unusedVariables false
namespace Go.Proofs.YtaiofjffoboicaaDoor
open Go.RowKit
abbrev formC (s : ByteArray) (p er fa no sq of de pr bo li to : Int) (da : ByteArray) (fu : Bool) : Array Value :=
  #[.string s,.int .i64 p,.int .i64 er,.int .i64 fa,.int .i64 no,.int .u64 sq,.int .i64 of,.int .i64 de,.int .i64 pr,.int .i64 bo,.int .i64 li,.int .i64 to,.string da,.bool fu]
def failC (er fa e a : Int) : Int × Int:=if er = 0 ∧ e ≠ 0 then (e,a) else (er,fa)
theorem Below.at {B : Nat} {w : World} {b i : Nat} {v : Value} (h : B ≤ b) : Below B w (w.setCell ⟨b,i,none⟩ v):=(Below.refl _ _).setCell (p:=⟨b,i,none⟩) h v
set_option maxRecDepth 100000 in
set_option maxHeartbeats 800000 in
theorem fail_any (b : Nat) (s : ByteArray) (p er fa no sq of de pr bo li to : Int) (da : ByteArray) (fu : Bool) (e a : Int) (w : World) (hb : blk w b = some (formC s p er fa no sq of de pr bo li to da fu)) :
    Calls Tryd.prog 84 #[.pointer (some ⟨b,0,none⟩),.int .i64 e,.int .i64 a] w fun q w' => q = .returned (.tuple #[]) ∧
      blk w' b = some (formC s p (failC er fa e a).1 (failC er fa e a).2 no sq of de pr bo li to da fu) ∧ Below b w w':=by
  have knb:=kn hb
  by_cases h1 : er = 0
  · subst h1
    by_cases h2 : e = 0
    · subst h2
      rw [show failC 0 fa 0 a = (0,fa) by simp [failC]]
      have Hb:=Lib.hid hb
      go_enter Tryd.func84,Tryd.ntmps84
      go_wp2
      go_end0
      exact ⟨rfl,hb,Below.refl _ _⟩
    · rw [show failC 0 fa e a = (e,a) by simp [failC,h2]]
      have e2 : (e != 0) = true:=by simp [h2]
      clear h2
      go_enter Tryd.func84,Tryd.ntmps84
      go_wp2
      go_end0
      exact ⟨rfl,(by (apply jt;(focus repeat(first|(with_reducible first|assumption|apply jd|apply js)|((with_reducible apply jo);first|focus(dsimp only;assumption)|focus(simp;done)|focus(dsimp only;omega))|((with_reducible apply jn);first|with_reducible rfl|focus(simp;done)|focus(simp;omega))|(with_reducible apply ja)|((with_reducible apply jb);with_reducible assumption)));rfl)),(by (repeat(first|(with_reducible first|assumption|exact Below.refl _ _|refine je ?_|refine jl ?_)|((with_reducible refine jp ?_ ?_);first|focus(dsimp only;assumption)|focus(simp;done)|focus(dsimp only;omega))|(with_reducible refine bt ?_ (by assumption)))))⟩
  · rw [show failC er fa e a = (er,fa) by simp [failC,h1]]
    have e1 : (er == 0) = false:=by simp [h1]
    clear h1
    go_enter Tryd.func84,Tryd.ntmps84
    go_wp2
    go_end0
    exact ⟨rfl,hb,Below.refl _ _⟩
theorem failC_eq (fa e a : Int) : failC 0 fa e a = (e,if e ≠ 0 then a else fa):=by
  unfold failC
  by_cases h : e = 0
  · simp [h]
  · simp [h]
theorem rdI_go (l : List UInt8) (m p fa n nx e : Int) (h : intN l p m = (n,nx,e)) : rdI l m ⟨p,0,fa⟩ = (n,⟨nx,e,if e ≠ 0 then nx else fa⟩):=by
  unfold rdI;rw [h];simp
set_option maxRecDepth 100000 in
set_option maxHeartbeats 1600000 in
theorem int_any (b : Nat) (s : ByteArray) (p er fa no sq of de pr bo li to : Int) (da : ByteArray) (fu : Bool) (m : Int) (hs : s.size ≤ maxLen) (hp1 : -9223372036854775808 ≤ p) (hp2 : p ≤ 9223372036854775807) (hm2 : m ≤ 9223372036854775807) (w : World) (hb : blk w b = some (formC s p er fa no sq of de pr bo li to da fu)) :
    Calls Tryd.prog 105 #[.pointer (some ⟨b,0,none⟩),.int .i64 m] w fun q w' => q = .returned (.int .i64 (rdI s.data.toList m ⟨p,er,fa⟩).1) ∧
      blk w' b = some (formC s (rdI s.data.toList m ⟨p,er,fa⟩).2.pos (rdI s.data.toList m ⟨p,er,fa⟩).2.err (rdI s.data.toList m ⟨p,er,fa⟩).2.fat no sq of de pr bo li to da fu) ∧ Below b w w':=by
  have knb:=kn hb
  by_cases h1 : er = 0
  · subst h1
    have cg:=fun w => numInt_any s p m w hs hp1 hp2 hm2
    obtain ⟨⟨n,nx,e⟩,hg⟩ : ∃ r,intN s.data.toList p m = r:=⟨_,rfl⟩
    rw [hg] at cg
    have cg : ∀ w,Calls Tryd.prog 80 #[.string s,.int .i64 p,.int .i64 m] w fun e' w' => e' = .returned (.tuple #[.int .i64 n,.int .i64 nx,.int .i64 e]) ∧ Below w.heap.size w w':=cg
    replace cg:=Lib.hid cg
    rw [rdI_go s.data.toList m p fa n nx e hg,← show (failC 0 fa e nx).2 = (if e ≠ 0 then nx else fa) by rw [failC_eq]]
    have hf1 : (failC 0 fa e nx).1 = e:=by rw [failC_eq]
    have gf:=Lib.hid fun w h => fail_any b s p 0 fa no sq of de pr bo li to da fu e nx w h
    obtain ⟨f1,f2,hff⟩ : ∃ f1 f2,failC 0 fa e nx = (f1,f2):=⟨_,_,rfl⟩
    rw [hff] at gf hf1 ⊢
    simp only at hf1 gf ⊢
    subst hf1
    have hlt:=blk_lt hb
    clear hff hg
    go_enter Tryd.func105,Tryd.ntmps105
    go_wp2
    refine wp_region_in (by kernel_rfl) (by kernel_rfl) ?_
    intro W0_1 hE_1 hN_1
    have bW0_1 : Below w.heap.size w W0_1:=(by rw [hE_1.out];(repeat(first|(with_reducible first|assumption|exact Below.refl _ _|refine je ?_|refine jl ?_)|((with_reducible refine jp ?_ ?_);first|focus(dsimp only;assumption)|focus(simp;done)|focus(dsimp only;omega))|(with_reducible refine bt ?_ (by assumption)))))
    have kk2 : blk W0_1 (b) = some #[.string s,.int .i64 p,.int .i64 0,.int .i64 fa,.int .i64 no,.int .u64 sq,.int .i64 of,.int .i64 de,.int .i64 pr,.int .i64 bo,.int .i64 li,.int .i64 to,.string da,.bool fu]:=(by rw [hE_1.out];(apply jt;(focus repeat(first|(with_reducible first|assumption|apply jd|apply js)|((with_reducible apply jo);first|focus(dsimp only;assumption)|focus(simp;done)|focus(dsimp only;omega))|((with_reducible apply jn);first|with_reducible rfl|focus(simp;done)|focus(simp;omega))|(with_reducible apply ja)|((with_reducible apply jb);with_reducible assumption)));rfl))
    have kn2:=calm_kn kk2
    clear hE_1
    repeat (go_big_quiet_step ((go_at_call 80;(with_reducible refine Class.go _ (cg.out _)))))
    refine wpQuiet_nil ?_
    rintro _ ⟨x_1,rfl⟩
    have hx_1 : Calm W0_1 x_1.wd:=x_1.ok
    have bw2 : Below w.heap.size w x_1.wd:=bt bW0_1 hx_1
    clear kn2;replace kk2:=blk_below hx_1 kk2;have kn2:=kn kk2
    clear hx_1 bW0_1 hN_1
    generalize x_1.wd = w2 at *
    have sw2:=bw2.size
    go_wp2_with (go_at_call 84;(with_reducible refine (gf.out _ (by assumption)).mono ?_);rintro q wf ⟨rfl,hbf,hf⟩;have knf:=kn hbf)
    go_ret
    exact ⟨rfl,(by (apply jt;(focus repeat(first|(with_reducible first|assumption|apply jd|apply js)|((with_reducible apply jo);first|focus(dsimp only;assumption)|focus(simp;done)|focus(dsimp only;omega))|((with_reducible apply jn);first|with_reducible rfl|focus(simp;done)|focus(simp;omega))|(with_reducible apply ja)|((with_reducible apply jb);with_reducible assumption)));rfl)),((bw2.mono (Nat.le_of_lt hlt)).trans hf).setCell (p:=⟨b,1,none⟩) (Nat.le_refl _) _⟩
  · rw [rdI_fault s.data.toList m ⟨p,er,fa⟩ h1]
    have e1 : (er != 0) = true:=by simp [h1]
    clear h1
    go_enter Tryd.func105,Tryd.ntmps105
    go_wp2
    go_ret
    exact ⟨rfl,hb,Below.refl _ _⟩
def rdT (l : List UInt8) (m : Int) (r : Rs) : List UInt8 × Rs :=
  if r.err ≠ 0 then ([],r) else ((getTextN l r.pos m).1,⟨(getTextN l r.pos m).2.1,(getTextN l r.pos m).2.2,if (getTextN l r.pos m).2.2 ≠ 0 then (getTextN l r.pos m).2.1 else r.fat⟩)
theorem rdT_go (l : List UInt8) (m p fa nx e : Int) (n : List UInt8) (h : getTextN l p m = (n,nx,e)) : rdT l m ⟨p,0,fa⟩ = (n,⟨nx,e,if e ≠ 0 then nx else fa⟩):=by
  unfold rdT;rw [h];simp
theorem rdT_fault (l : List UInt8) (m : Int) (r : Rs) (h : r.err ≠ 0) : rdT l m r = ([],r):=by unfold rdT;rw [if_pos h]
set_option maxRecDepth 100000 in
set_option maxHeartbeats 1600000 in
theorem text_read (b : Nat) (s : ByteArray) (p er fa no sq of de pr bo li to : Int) (da : ByteArray) (fu : Bool) (m : Int) (hs : s.size ≤ maxLen) (hp1 : -9223372036854775808 ≤ p) (hp2 : p ≤ 9223372036854775807) (hm2 : m ≤ 9223372036854775807) (w : World) (hb : blk w b = some (formC s p er fa no sq of de pr bo li to da fu)) :
    Calls Tryd.prog 83 #[.pointer (some ⟨b,0,none⟩),.int .i64 m] w fun q w' => q = .returned (bstr (rdT s.data.toList m ⟨p,er,fa⟩).1) ∧
      blk w' b = some (formC s (rdT s.data.toList m ⟨p,er,fa⟩).2.pos (rdT s.data.toList m ⟨p,er,fa⟩).2.err (rdT s.data.toList m ⟨p,er,fa⟩).2.fat no sq of de pr bo li to da fu) ∧ Below b w w':=by
  have knb:=kn hb
  by_cases h1 : er = 0
  · subst h1
    have cg:=fun w => numGetText_any s p m w hs hp1 hp2 hm2
    obtain ⟨⟨n,nx,e⟩,hg⟩ : ∃ r,getTextN s.data.toList p m = r:=⟨_,rfl⟩
    rw [hg] at cg
    have cg : ∀ w,Calls Tryd.prog 53 #[.string s,.int .i64 p,.int .i64 m] w fun e' w' => e' = .returned (.tuple #[bstr n,.int .i64 nx,.int .i64 e]) ∧ Below w.heap.size w w':=cg
    obtain ⟨nn,hnn⟩ : ∃ v : ByteArray,bstr n = .string v:=⟨_,rfl⟩
    rw [hnn] at cg
    replace cg:=Lib.hid cg
    rw [rdT_go s.data.toList m p fa nx e n hg,← show (failC 0 fa e nx).2 = (if e ≠ 0 then nx else fa) by rw [failC_eq]]
    have hf1 : (failC 0 fa e nx).1 = e:=by rw [failC_eq]
    have gf:=Lib.hid fun w h => fail_any b s p 0 fa no sq of de pr bo li to da fu e nx w h
    obtain ⟨f1,f2,hff⟩ : ∃ f1 f2,failC 0 fa e nx = (f1,f2):=⟨_,_,rfl⟩
    rw [hff] at gf hf1 ⊢
    simp only at hf1 gf ⊢
    rw [hnn]
    subst hf1
    have hlt:=blk_lt hb
    clear hff hg hnn
    go_enter Tryd.func83,Tryd.ntmps83
    go_wp2
    refine wp_region_in (by kernel_rfl) (by kernel_rfl) ?_
    intro W0_3 hE_3 hN_3
    have bW0_3 : Below w.heap.size w W0_3:=(by rw [hE_3.out];(repeat(first|(with_reducible first|assumption|exact Below.refl _ _|refine je ?_|refine jl ?_)|((with_reducible refine jp ?_ ?_);first|focus(dsimp only;assumption)|focus(simp;done)|focus(dsimp only;omega))|(with_reducible refine bt ?_ (by assumption)))))
    have kk4 : blk W0_3 (b) = some #[.string s,.int .i64 p,.int .i64 0,.int .i64 fa,.int .i64 no,.int .u64 sq,.int .i64 of,.int .i64 de,.int .i64 pr,.int .i64 bo,.int .i64 li,.int .i64 to,.string da,.bool fu]:=(by rw [hE_3.out];(apply jt;(focus repeat(first|(with_reducible first|assumption|apply jd|apply js)|((with_reducible apply jo);first|focus(dsimp only;assumption)|focus(simp;done)|focus(dsimp only;omega))|((with_reducible apply jn);first|with_reducible rfl|focus(simp;done)|focus(simp;omega))|(with_reducible apply ja)|((with_reducible apply jb);with_reducible assumption)));rfl))
    have kn4:=calm_kn kk4
    clear hE_3
    repeat (go_big_quiet_step ((go_at_call 53;(with_reducible refine Class.go _ (cg.out _)))))
    refine wpQuiet_nil ?_
    rintro _ ⟨x_3,rfl⟩
    have hx_3 : Calm W0_3 x_3.wd:=x_3.ok
    have bw2 : Below w.heap.size w x_3.wd:=bt bW0_3 hx_3
    clear kn4;replace kk4:=blk_below hx_3 kk4;have kn4:=kn kk4
    clear hx_3 bW0_3 hN_3
    generalize x_3.wd = w2 at *
    have sw2:=bw2.size
    go_wp2_with (go_at_call 84;(with_reducible refine (gf.out _ (by assumption)).mono ?_);rintro q wf ⟨rfl,hbf,hf⟩;have knf:=kn hbf)
    go_ret
    exact ⟨rfl,(by (apply jt;(focus repeat(first|(with_reducible first|assumption|apply jd|apply js)|((with_reducible apply jo);first|focus(dsimp only;assumption)|focus(simp;done)|focus(dsimp only;omega))|((with_reducible apply jn);first|with_reducible rfl|focus(simp;done)|focus(simp;omega))|(with_reducible apply ja)|((with_reducible apply jb);with_reducible assumption)));rfl)),((bw2.mono (Nat.le_of_lt hlt)).trans hf).setCell (p:=⟨b,1,none⟩) (Nat.le_refl _) _⟩
  · rw [rdT_fault s.data.toList m ⟨p,er,fa⟩ h1]
    have e1 : (er != 0) = true:=by simp [h1]
    clear h1
    go_enter Tryd.func83,Tryd.ntmps83
    go_wp2
    go_ret
    exact ⟨rfl,hb,Below.refl _ _⟩
end Go.Proofs.YtaiofjffoboicaaDoor
namespace Go.Proofs.YtaiofjffoboicaaDoor
open Go.RowKit
theorem intN_range (l : List UInt8) (q m : Int) (hq : 0 ≤ q) (hq2 : q ≤ l.length) : 0 ≤ (intN l q m).1 ∧ ((intN l q m).1 ≤ m ∨ (intN l q m).1 = 0) ∧ 0 ≤ (intN l q m).2.1 ∧ (intN l q m).2.1 ≤ l.length:=by
  have hb:=getN_bound l q
  unfold intN
  split
  · refine ⟨by simp,.inr rfl,by simp only;omega,by simp only;omega⟩
  · split
    · exact ⟨by simp,.inr rfl,hq,hq2⟩
    · refine ⟨by simp only;omega,.inl (by simp only;omega),by simp only;omega,by simp only;omega⟩
theorem rdI_range (l : List UInt8) (m : Int) (r : Rs) (hm : 0 ≤ m) (hq : 0 ≤ r.pos) (hq2 : r.pos ≤ l.length) : 0 ≤ (rdI l m r).1 ∧ (rdI l m r).1 ≤ m ∧ 0 ≤ (rdI l m r).2.pos ∧ (rdI l m r).2.pos ≤ l.length:=by
  unfold rdI
  split
  · exact ⟨by simp,hm,hq,hq2⟩
  · have:=intN_range l r.pos m hq hq2
    refine ⟨this.1,by simp only;omega,this.2.2.1,this.2.2.2⟩
def found (h : Int) : Nat → Int
  | 0 => -1
  | j + 1 => if headsTab.getD j 0 = h then (j : Int) else found h j
set_option maxRecDepth 100000 in
theorem found_bd : ∀ (h : Nat),h < 256 → (hdB h = true → 0 ≤ found h 6 ∧ found h 6 ≤ 5 ∧ (found h 6).tmod 3 = ((h - 176) % 4 : Nat) ∧ decide (2 < found h 6) = decide (180 ≤ h)) ∧ (hdB h = false → found h 6 < 0):=by decide
theorem found_le (h : Int) (j : Nat) : -1 ≤ found h j ∧ found h j < j:=by
  induction j with
  | zero => simp [found]
  | succ j ih => unfold found;split <;> omega
set_option maxRecDepth 100000 in
set_option maxHeartbeats 3200000 in
theorem fields_full (b : Nat) (s : ByteArray) (p er fa no sq of de pr bo li to : Int) (da : ByteArray) (hs : s.size ≤ maxLen) (hp1 : 0 ≤ p) (hp2 : p ≤ s.size) (X : Fl) (hX : fieldsR s.data.toList true ⟨p,er,fa⟩ = X) (w : World) (hb : blk w b = some (formC s p er fa no sq of de pr bo li to da true)) :
    Calls Tryd.prog 82 #[.pointer (some ⟨b,0,none⟩)] w fun q w' => q = .returned (.tuple #[]) ∧ blk w' b = some (formC s X.r.pos X.r.err X.r.fat X.no X.sq of X.de pr X.bo X.li to da true) ∧ Below b w w':=by
  have hl : s.data.toList.length = s.size:=by simp
  have hss : (s.size : Int) ≤ 9223372036854775807:=by unfold maxLen at hs;omega
  unfold fieldsR at hX
  simp only [Bool.false_eq_true,if_false,if_true] at hX
  have u1:=rdI_range s.data.toList 16 ⟨p,er,fa⟩ (by omega) (by simp only;omega) (by simp only;omega)
  have c1:=fun w h => int_any b s p er fa no sq of de pr bo li to da true 16 hs (by omega) (by omega) (by omega) w h
  obtain ⟨⟨n1,⟨p1,e1,f1⟩⟩,h1⟩ : ∃ x,rdI s.data.toList 16 ⟨p,er,fa⟩ = x:=⟨_,rfl⟩
  simp only [h1] at u1 c1 hX
  obtain ⟨u1a,u1b,u1c,u1d⟩:=u1
  rw [hl] at u1d
  replace c1:=Lib.hid c1;clear h1
  have u2:=rdI_range s.data.toList 1099511627776 ⟨p1,e1,f1⟩ (by omega) (by simp only;omega) (by simp only;omega)
  have c2:=fun w h => int_any b s p1 e1 f1 n1 sq of de pr bo li to da true 1099511627776 hs (by omega) (by omega) (by omega) w h
  obtain ⟨⟨n2,⟨p2,e2,f2⟩⟩,h2⟩ : ∃ x,rdI s.data.toList 1099511627776 ⟨p1,e1,f1⟩ = x:=⟨_,rfl⟩
  simp only [h2] at u2 c2 hX
  obtain ⟨u2a,u2b,u2c,u2d⟩:=u2
  rw [hl] at u2d
  replace c2:=Lib.hid c2;clear h2
  have u3:=rdI_range s.data.toList 16 ⟨p2,e2,f2⟩ (by omega) (by simp only;omega) (by simp only;omega)
  have c3:=fun w h => int_any b s p2 e2 f2 n1 n2 of de pr bo li to da true 16 hs (by omega) (by omega) (by omega) w h
  obtain ⟨⟨n3,⟨p3,e3,f3⟩⟩,h3⟩ : ∃ x,rdI s.data.toList 16 ⟨p2,e2,f2⟩ = x:=⟨_,rfl⟩
  simp only [h3] at u3 c3 hX
  obtain ⟨u3a,u3b,u3c,u3d⟩:=u3
  rw [hl] at u3d
  replace c3:=Lib.hid c3;clear h3
  have u4:=rdI_range s.data.toList 1099511627776 ⟨p3,e3,f3⟩ (by omega) (by simp only;omega) (by simp only;omega)
  have c4:=fun w h => int_any b s p3 e3 f3 n1 n2 of n3 pr bo li to da true 1099511627776 hs (by omega) (by omega) (by omega) w h
  obtain ⟨⟨n4,⟨p4,e4,f4⟩⟩,h4⟩ : ∃ x,rdI s.data.toList 1099511627776 ⟨p3,e3,f3⟩ = x:=⟨_,rfl⟩
  simp only [h4] at u4 c4 hX
  obtain ⟨u4a,u4b,u4c,u4d⟩:=u4
  rw [hl] at u4d
  replace c4:=Lib.hid c4;clear h4
  have u5:=rdI_range s.data.toList 1048576 ⟨p4,e4,f4⟩ (by omega) (by simp only;omega) (by simp only;omega)
  have c5:=fun w h => int_any b s p4 e4 f4 n1 n2 of n3 pr n4 li to da true 1048576 hs (by omega) (by omega) (by omega) w h
  obtain ⟨⟨n5,⟨p5,e5,f5⟩⟩,h5⟩ : ∃ x,rdI s.data.toList 1048576 ⟨p4,e4,f4⟩ = x:=⟨_,rfl⟩
  simp only [h5] at u5 c5 hX
  obtain ⟨u5a,u5b,u5c,u5d⟩:=u5
  rw [hl] at u5d
  replace c5:=Lib.hid c5;clear h5
  subst hX
  simp only
  have q2 : IntKind.u64.wrap n2 = n2:=IntWalk.u64_in _ (by omega)
  have knb:=kn hb
  go_enter Tryd.func82,Tryd.ntmps82
  go_wp2_with fail
  (with_reducible refine (c1.out _ hb).mono ?_)
  rintro q w1 ⟨rfl,k1,b1⟩
  have B1 : Below b w w1:=b1;clear b1 knb
  have kn1:=kn k1
  go_wp2_with fail
  have kq2 : blk _ b = some (formC s p1 e1 f1 n1 sq of de pr bo li to da true):=blk_to (blk_set (v:=.int .i64 n1) (i:=4) k1) rfl
  (with_reducible refine (c2.out _ kq2).mono ?_)
  rintro q w2 ⟨rfl,k2,b2⟩
  have B2 : Below b w w2:=(B1.setCell (p:=⟨b,4,none⟩) (Nat.le_refl _) _).trans b2;clear b2 B1 kn1 k1 kq2
  have kn2:=kn k2
  go_wp2_with fail
  have kq3 : blk _ b = some (formC s p2 e2 f2 n1 n2 of de pr bo li to da true):=blk_to (blk_set (v:=.int .u64 n2) (i:=5) k2) rfl
  (with_reducible refine (c3.out _ kq3).mono ?_)
  rintro q w3 ⟨rfl,k3,b3⟩
  have B3 : Below b w w3:=(B2.setCell (p:=⟨b,5,none⟩) (Nat.le_refl _) _).trans b3;clear b3 B2 kn2 k2 kq3
  have kn3:=kn k3
  go_wp2_with fail
  have kq4 : blk _ b = some (formC s p3 e3 f3 n1 n2 of n3 pr bo li to da true):=blk_to (blk_set (v:=.int .i64 n3) (i:=7) k3) rfl
  (with_reducible refine (c4.out _ kq4).mono ?_)
  rintro q w4 ⟨rfl,k4,b4⟩
  have B4 : Below b w w4:=(B3.setCell (p:=⟨b,7,none⟩) (Nat.le_refl _) _).trans b4;clear b4 B3 kn3 k3 kq4
  have kn4:=kn k4
  go_wp2_with fail
  have kq5 : blk _ b = some (formC s p4 e4 f4 n1 n2 of n3 pr n4 li to da true):=blk_to (blk_set (v:=.int .i64 n4) (i:=9) k4) rfl
  (with_reducible refine (c5.out _ kq5).mono ?_)
  rintro q w5 ⟨rfl,k5,b5⟩
  have B5 : Below b w w5:=(B4.setCell (p:=⟨b,9,none⟩) (Nat.le_refl _) _).trans b5;clear b5 B4 kn4 k4 kq5
  have kn5:=kn k5
  go_wp2
  go_end0
  exact ⟨rfl,blk_to (blk_set k5) rfl,B5.setCell (p:=⟨b,10,none⟩) (Nat.le_refl _) _⟩
set_option maxRecDepth 100000 in
set_option maxHeartbeats 3200000 in
theorem fields_part (b : Nat) (s : ByteArray) (p er fa no sq of de pr bo li to : Int) (da : ByteArray) (hs : s.size ≤ maxLen) (hp1 : 0 ≤ p) (hp2 : p ≤ s.size) (X : Fl) (hX : fieldsR s.data.toList false ⟨p,er,fa⟩ = X) (w : World) (hb : blk w b = some (formC s p er fa no sq of de pr bo li to da false)) :
    Calls Tryd.prog 82 #[.pointer (some ⟨b,0,none⟩)] w fun q w' => q = .returned (.tuple #[]) ∧ blk w' b = some (formC s X.r.pos X.r.err X.r.fat X.no X.sq X.of X.de pr X.bo X.li X.to da false) ∧ Below b w w':=by
  have hl : s.data.toList.length = s.size:=by simp
  have hss : (s.size : Int) ≤ 9223372036854775807:=by unfold maxLen at hs;omega
  unfold fieldsR at hX
  simp only [Bool.false_eq_true,if_false,if_true] at hX
  have u1:=rdI_range s.data.toList 16 ⟨p,er,fa⟩ (by omega) (by simp only;omega) (by simp only;omega)
  have c1:=fun w h => int_any b s p er fa no sq of de pr bo li to da false 16 hs (by omega) (by omega) (by omega) w h
  obtain ⟨⟨n1,⟨p1,e1,f1⟩⟩,h1⟩ : ∃ x,rdI s.data.toList 16 ⟨p,er,fa⟩ = x:=⟨_,rfl⟩
  simp only [h1] at u1 c1 hX
  obtain ⟨u1a,u1b,u1c,u1d⟩:=u1
  rw [hl] at u1d
  replace c1:=Lib.hid c1;clear h1
  have u2:=rdI_range s.data.toList 1099511627776 ⟨p1,e1,f1⟩ (by omega) (by simp only;omega) (by simp only;omega)
  have c2:=fun w h => int_any b s p1 e1 f1 n1 sq of de pr bo li to da false 1099511627776 hs (by omega) (by omega) (by omega) w h
  obtain ⟨⟨n2,⟨p2,e2,f2⟩⟩,h2⟩ : ∃ x,rdI s.data.toList 1099511627776 ⟨p1,e1,f1⟩ = x:=⟨_,rfl⟩
  simp only [h2] at u2 c2 hX
  obtain ⟨u2a,u2b,u2c,u2d⟩:=u2
  rw [hl] at u2d
  replace c2:=Lib.hid c2;clear h2
  have u3:=rdI_range s.data.toList 16 ⟨p2,e2,f2⟩ (by omega) (by simp only;omega) (by simp only;omega)
  have c3:=fun w h => int_any b s p2 e2 f2 n1 n2 of de pr bo li to da false 16 hs (by omega) (by omega) (by omega) w h
  obtain ⟨⟨n3,⟨p3,e3,f3⟩⟩,h3⟩ : ∃ x,rdI s.data.toList 16 ⟨p2,e2,f2⟩ = x:=⟨_,rfl⟩
  simp only [h3] at u3 c3 hX
  obtain ⟨u3a,u3b,u3c,u3d⟩:=u3
  rw [hl] at u3d
  replace c3:=Lib.hid c3;clear h3
  have u4:=rdI_range s.data.toList 1099511627776 ⟨p3,e3,f3⟩ (by omega) (by simp only;omega) (by simp only;omega)
  have c4:=fun w h => int_any b s p3 e3 f3 n1 n2 of n3 pr bo li to da false 1099511627776 hs (by omega) (by omega) (by omega) w h
  obtain ⟨⟨n4,⟨p4,e4,f4⟩⟩,h4⟩ : ∃ x,rdI s.data.toList 1099511627776 ⟨p3,e3,f3⟩ = x:=⟨_,rfl⟩
  simp only [h4] at u4 c4 hX
  obtain ⟨u4a,u4b,u4c,u4d⟩:=u4
  rw [hl] at u4d
  replace c4:=Lib.hid c4;clear h4
  have u5:=rdI_range s.data.toList 1048576 ⟨p4,e4,f4⟩ (by omega) (by simp only;omega) (by simp only;omega)
  have c5:=fun w h => int_any b s p4 e4 f4 n1 n2 of n3 pr n4 li to da false 1048576 hs (by omega) (by omega) (by omega) w h
  obtain ⟨⟨n5,⟨p5,e5,f5⟩⟩,h5⟩ : ∃ x,rdI s.data.toList 1048576 ⟨p4,e4,f4⟩ = x:=⟨_,rfl⟩
  simp only [h5] at u5 c5 hX
  obtain ⟨u5a,u5b,u5c,u5d⟩:=u5
  rw [hl] at u5d
  replace c5:=Lib.hid c5;clear h5
  have u6:=rdI_range s.data.toList 20000 ⟨p5,e5,f5⟩ (by omega) (by simp only;omega) (by simp only;omega)
  have c6:=fun w h => int_any b s p5 e5 f5 n1 n2 of n3 pr n4 n5 to da false 20000 hs (by omega) (by omega) (by omega) w h
  obtain ⟨⟨n6,⟨p6,e6,f6⟩⟩,h6⟩ : ∃ x,rdI s.data.toList 20000 ⟨p5,e5,f5⟩ = x:=⟨_,rfl⟩
  simp only [h6] at u6 c6 hX
  obtain ⟨u6a,u6b,u6c,u6d⟩:=u6
  rw [hl] at u6d
  replace c6:=Lib.hid c6;clear h6
  have u7:=rdI_range s.data.toList 20000 ⟨p6,e6,f6⟩ (by omega) (by simp only;omega) (by simp only;omega)
  have c7:=fun w h => int_any b s p6 e6 f6 n1 n2 n6 n3 pr n4 n5 to da false 20000 hs (by omega) (by omega) (by omega) w h
  obtain ⟨⟨n7,⟨p7,e7,f7⟩⟩,h7⟩ : ∃ x,rdI s.data.toList 20000 ⟨p6,e6,f6⟩ = x:=⟨_,rfl⟩
  simp only [h7] at u7 c7 hX
  obtain ⟨u7a,u7b,u7c,u7d⟩:=u7
  rw [hl] at u7d
  replace c7:=Lib.hid c7;clear h7
  subst hX
  simp only
  have q2 : IntKind.u64.wrap n2 = n2:=IntWalk.u64_in _ (by omega)
  have knb:=kn hb
  go_enter Tryd.func82,Tryd.ntmps82
  go_wp2_with fail
  (with_reducible refine (c1.out _ hb).mono ?_)
  rintro q w1 ⟨rfl,k1,b1⟩
  have B1 : Below b w w1:=b1;clear b1 knb
  have kn1:=kn k1
  go_wp2_with fail
  have kq2 : blk _ b = some (formC s p1 e1 f1 n1 sq of de pr bo li to da false):=blk_to (blk_set (v:=.int .i64 n1) (i:=4) k1) rfl
  (with_reducible refine (c2.out _ kq2).mono ?_)
  rintro q w2 ⟨rfl,k2,b2⟩
  have B2 : Below b w w2:=(B1.setCell (p:=⟨b,4,none⟩) (Nat.le_refl _) _).trans b2;clear b2 B1 kn1 k1 kq2
  have kn2:=kn k2
  go_wp2_with fail
  have kq3 : blk _ b = some (formC s p2 e2 f2 n1 n2 of de pr bo li to da false):=blk_to (blk_set (v:=.int .u64 n2) (i:=5) k2) rfl
  (with_reducible refine (c3.out _ kq3).mono ?_)
  rintro q w3 ⟨rfl,k3,b3⟩
  have B3 : Below b w w3:=(B2.setCell (p:=⟨b,5,none⟩) (Nat.le_refl _) _).trans b3;clear b3 B2 kn2 k2 kq3
  have kn3:=kn k3
  go_wp2_with fail
  have kq4 : blk _ b = some (formC s p3 e3 f3 n1 n2 of n3 pr bo li to da false):=blk_to (blk_set (v:=.int .i64 n3) (i:=7) k3) rfl
  (with_reducible refine (c4.out _ kq4).mono ?_)
  rintro q w4 ⟨rfl,k4,b4⟩
  have B4 : Below b w w4:=(B3.setCell (p:=⟨b,7,none⟩) (Nat.le_refl _) _).trans b4;clear b4 B3 kn3 k3 kq4
  have kn4:=kn k4
  go_wp2_with fail
  have kq5 : blk _ b = some (formC s p4 e4 f4 n1 n2 of n3 pr n4 li to da false):=blk_to (blk_set (v:=.int .i64 n4) (i:=9) k4) rfl
  (with_reducible refine (c5.out _ kq5).mono ?_)
  rintro q w5 ⟨rfl,k5,b5⟩
  have B5 : Below b w w5:=(B4.setCell (p:=⟨b,9,none⟩) (Nat.le_refl _) _).trans b5;clear b5 B4 kn4 k4 kq5
  have kn5:=kn k5
  go_wp2_with fail
  have kq6 : blk _ b = some (formC s p5 e5 f5 n1 n2 of n3 pr n4 n5 to da false):=blk_to (blk_set (v:=.int .i64 n5) (i:=10) k5) rfl
  (with_reducible refine (c6.out _ kq6).mono ?_)
  rintro q w6 ⟨rfl,k6,b6⟩
  have B6 : Below b w w6:=(B5.setCell (p:=⟨b,10,none⟩) (Nat.le_refl _) _).trans b6;clear b6 B5 kn5 k5 kq6
  have kn6:=kn k6
  go_wp2_with fail
  have kq7 : blk _ b = some (formC s p6 e6 f6 n1 n2 n6 n3 pr n4 n5 to da false):=blk_to (blk_set (v:=.int .i64 n6) (i:=6) k6) rfl
  (with_reducible refine (c7.out _ kq7).mono ?_)
  rintro q w7 ⟨rfl,k7,b7⟩
  have B7 : Below b w w7:=(B6.setCell (p:=⟨b,6,none⟩) (Nat.le_refl _) _).trans b7;clear b7 B6 kn6 k6 kq7
  have kn7:=kn k7
  go_wp2
  go_end0
  exact ⟨rfl,blk_to (blk_set k7) rfl,B7.setCell (p:=⟨b,11,none⟩) (Nat.le_refl _) _⟩
end Go.Proofs.YtaiofjffoboicaaDoor
namespace Go.Proofs.YtaiofjffoboicaaDoor
open Go.RowKit
theorem found_yes (h : Int) (j : Nat) (v : Int) (hv : headsTab.getD j 0 = v) (hq : (v == h) = true) : Value.int .i64 (j : Int) = Value.int .i64 (found h (j + 1)):=by
  have : v = h:=by simpa using hq
  rw [show found h (j + 1) = j by unfold found;rw [if_pos (by rw [hv,this])]]
theorem found_no (h : Int) (j : Nat) (v : Int) (hv : headsTab.getD j 0 = v) (hq : (v == h) = false) : Value.int .i64 (found h j) = Value.int .i64 (found h (j + 1)):=by
  have : v ≠ h:=by simpa using hq
  rw [show found h (j + 1) = found h j by conv => lhs;unfold found;rw [if_neg (by rw [hv];exact this)]]
set_option maxRecDepth 100000 in
set_option maxHeartbeats 3200000 in
theorem start_none (b : Nat) (s : ByteArray) (no sq of de pr bo li to : Int) (da : ByteArray) (fu : Bool) (hs : s.size = 0) (w : World) (hb : blk w b = some (formC s 0 0 0 no sq of de pr bo li to da fu)) :
    Calls Tryd.prog 81 #[.pointer (some ⟨b,0,none⟩)] w fun q w' => q = .returned (.tuple #[]) ∧ blk w' b = some (formC s 0 11 0 no sq of de pr bo li to da fu) ∧ Below b w w':=by
  obtain rfl : s = ⟨#[]⟩:=by
    obtain ⟨⟨l⟩⟩:=s
    have : l = []:=by rw [← List.length_eq_zero_iff];exact hs
    rw [this]
  have knb:=kn hb
  have gf:=Lib.hid fun w h => fail_any b ⟨#[]⟩ 0 0 0 no sq of de pr bo li to da fu 11 0 w h
  rw [show failC 0 0 11 0 = (11,0) by decide] at gf
  clear hs
  go_enter Tryd.func81,Tryd.ntmps81
  go_wp2_with (go_at_call 84;(with_reducible refine (gf.out _ hb).mono ?_);rintro q wf ⟨rfl,hbf,hf⟩)
  exact bodyPost_ret (v:=.tuple #[]) (by simp [results,Tryd.results81,go_sem]) rfl ⟨rfl,hbf,hf⟩
set_option maxRecDepth 100000 in
set_option maxHeartbeats 3200000 in
theorem start_some (b : Nat) (s : ByteArray) (no sq of de pr bo li to : Int) (da : ByteArray) (fu : Bool) (hs : 0 < s.size) (hs2 : s.size ≤ maxLen) (w : World) (hH : HTab w) (hb : blk w b = some (formC s 0 0 0 no sq of de pr bo li to da fu)) :
    Calls Tryd.prog 81 #[.pointer (some ⟨b,0,none⟩)] w fun q w' => q = .returned (.tuple #[]) ∧
      blk w' b = some (if hdB s[0].toNat then formC s 1 0 0 no sq of de ((s[0].toNat - 176) % 4 : Nat) bo li to da (decide (180 ≤ s[0].toNat)) else formC s 0 3 0 no sq of de pr bo li to da fu) ∧ Below b w w':=by
  obtain ⟨F,hFF⟩ : ∃ F,(if hdB s[0].toNat then formC s 1 0 0 no sq of de ((s[0].toNat - 176) % 4 : Nat) bo li to da (decide (180 ≤ s[0].toNat)) else formC s 0 3 0 no sq of de pr bo li to da fu) = F:=⟨_,rfl⟩
  rw [hFF]
  have HFF:=Lib.hid hFF;clear hFF
  have knb:=kn hb
  have z1 : s.toList.isEmpty = false:=by
    have h1 : s.data.toList ≠ []:=by rw [← List.length_pos_iff];simpa using hs
    rw [ByteArray.toList_eq];simpa using h1
  have gf:=Lib.hid fun w h => fail_any b s 0 0 0 no sq of de pr bo li to da fu 3 0 w h
  rw [show failC 0 0 3 0 = (3,0) by decide] at gf
  have r0 : w.cell? ⟨2,0,none⟩ = some (.int .u8 176):=hH.cell 0 (by decide)
  have r1 : w.cell? ⟨2,1,none⟩ = some (.int .u8 177):=hH.cell 1 (by decide)
  have r2 : w.cell? ⟨2,2,none⟩ = some (.int .u8 178):=hH.cell 2 (by decide)
  have r3 : w.cell? ⟨2,3,none⟩ = some (.int .u8 180):=hH.cell 3 (by decide)
  have r4 : w.cell? ⟨2,4,none⟩ = some (.int .u8 181):=hH.cell 4 (by decide)
  have r5 : w.cell? ⟨2,5,none⟩ = some (.int .u8 182):=hH.cell 5 (by decide)
  have hfb:=found_bd s[0].toNat s[0].toNat_lt
  have HF:=Lib.hid hfb;clear hfb
  have i0 : ∀ w,(Instr.index 162 (.agg #[.int .u8 176,.int .u8 177,.int .u8 178,.int .u8 180,.int .u8 181,.int .u8 182]) (.int .i64 0)).run Tryd.prog w = .ok (.int .u8 176) w:=fun _ => by kernel_rfl
  have i1 : ∀ w,(Instr.index 162 (.agg #[.int .u8 176,.int .u8 177,.int .u8 178,.int .u8 180,.int .u8 181,.int .u8 182]) (.int .i64 1)).run Tryd.prog w = .ok (.int .u8 177) w:=fun _ => by kernel_rfl
  have i2 : ∀ w,(Instr.index 162 (.agg #[.int .u8 176,.int .u8 177,.int .u8 178,.int .u8 180,.int .u8 181,.int .u8 182]) (.int .i64 2)).run Tryd.prog w = .ok (.int .u8 178) w:=fun _ => by kernel_rfl
  have i3 : ∀ w,(Instr.index 162 (.agg #[.int .u8 176,.int .u8 177,.int .u8 178,.int .u8 180,.int .u8 181,.int .u8 182]) (.int .i64 3)).run Tryd.prog w = .ok (.int .u8 180) w:=fun _ => by kernel_rfl
  have i4 : ∀ w,(Instr.index 162 (.agg #[.int .u8 176,.int .u8 177,.int .u8 178,.int .u8 180,.int .u8 181,.int .u8 182]) (.int .i64 4)).run Tryd.prog w = .ok (.int .u8 181) w:=fun _ => by kernel_rfl
  have i5 : ∀ w,(Instr.index 162 (.agg #[.int .u8 176,.int .u8 177,.int .u8 178,.int .u8 180,.int .u8 181,.int .u8 182]) (.int .i64 5)).run Tryd.prog w = .ok (.int .u8 182) w:=fun _ => by kernel_rfl
  unfold maxLen at hs2
  clear hH
  go_enter Tryd.func81,Tryd.ntmps81
  go_wp2
  go_loop [2,16] (fun kk ii => ∃ j : Nat,ii = .int .i64 j ∧ j ≤ 6 ∧ kk = .int .i64 (found (s[0].toNat : Int) j)) (fun _ ii => 6 - (intOf ii).toNat)
  case atStart => exact ⟨0,rfl,by omega,rfl⟩
  case round =>
    obtain ⟨j,rfl,hj,rfl⟩:=hrel
    match j,hj with
    | 0,_ =>
      go_wp2
      · go_round
        case rel => exact ⟨1,rfl,by omega,found_yes _ 0 _ rfl (by assumption)⟩
        case measure => simp [intOf]
      · go_round
        case rel => exact ⟨1,rfl,by omega,found_no _ 0 _ rfl (by assumption)⟩
        case measure => simp [intOf]
    | 1,_ =>
      go_wp2
      · go_round
        case rel => exact ⟨2,rfl,by omega,found_yes _ 1 _ rfl (by assumption)⟩
        case measure => simp [intOf]
      · go_round
        case rel => exact ⟨2,rfl,by omega,found_no _ 1 _ rfl (by assumption)⟩
        case measure => simp [intOf]
    | 2,_ =>
      go_wp2
      · go_round
        case rel => exact ⟨3,rfl,by omega,found_yes _ 2 _ rfl (by assumption)⟩
        case measure => simp [intOf]
      · go_round
        case rel => exact ⟨3,rfl,by omega,found_no _ 2 _ rfl (by assumption)⟩
        case measure => simp [intOf]
    | 3,_ =>
      go_wp2
      · go_round
        case rel => exact ⟨4,rfl,by omega,found_yes _ 3 _ rfl (by assumption)⟩
        case measure => simp [intOf]
      · go_round
        case rel => exact ⟨4,rfl,by omega,found_no _ 3 _ rfl (by assumption)⟩
        case measure => simp [intOf]
    | 4,_ =>
      go_wp2
      · go_round
        case rel => exact ⟨5,rfl,by omega,found_yes _ 4 _ rfl (by assumption)⟩
        case measure => simp [intOf]
      · go_round
        case rel => exact ⟨5,rfl,by omega,found_no _ 4 _ rfl (by assumption)⟩
        case measure => simp [intOf]
    | 5,_ =>
      go_wp2
      · go_round
        case rel => exact ⟨6,rfl,by omega,found_yes _ 5 _ rfl (by assumption)⟩
        case measure => simp [intOf]
      · go_round
        case rel => exact ⟨6,rfl,by omega,found_no _ 5 _ rfl (by assumption)⟩
        case measure => simp [intOf]
    | 6,_ => 
      have hfl:=found_le (s[0].toNat : Int) 6
      obtain ⟨g,hg⟩ : ∃ g,found (s[0].toNat : Int) 6 = g:=⟨_,rfl⟩
      rw [hg] at hfl HF ⊢
      clear hg
      by_cases hh : hdB s[0].toNat = true
      · obtain ⟨a1,a2,a3,a4⟩:=HF.out.1 hh
        have hF : F = _:=HFF.out.symm.trans (if_pos hh)
        obtain ⟨rm,hrm⟩ : ∃ rm : Int,(((s[0].toNat - 176) % 4 : Nat) : Int) = rm:=⟨_,rfl⟩
        obtain ⟨bg,hbg⟩ : ∃ bg : Bool,decide (180 ≤ s[0].toNat) = bg:=⟨_,rfl⟩
        rw [hrm] at a3 hF
        rw [hbg] at a4 hF
        have HF2:=Lib.hid hF
        obtain ⟨n,rfl⟩:=Int.eq_ofNat_of_zero_le a1
        have a5 : n ≤ 5:=by omega
        clear hF HF HFF hh hrm hbg hfl i0 i1 i2 i3 i4 i5 a1 a2 r0 r1 r2 r3 r4 r5 gf
        rcases (show n = 0 ∨ n = 1 ∨ n = 2 ∨ n = 3 ∨ n = 4 ∨ n = 5 by omega) with rfl|rfl|rfl|rfl|rfl|rfl
        all_goals
          replace a3 : rm = _:=a3.symm
          replace a4 : bg = _:=a4.symm
          simp at a3 a4
          subst a3 a4
          go_wp2
          go_end0
          exact ⟨rfl,blk_to (blk_set (blk_set (blk_set hb))) (by rw [HF2.out];rfl),(((Below.at (Nat.le_refl b)).setCell (p:=⟨b,13,none⟩) (Nat.le_refl _) _).setCell (p:=⟨b,1,none⟩) (Nat.le_refl _) _)⟩
      · have hF : F = _:=HFF.out.symm.trans (if_neg hh)
        have HF2:=Lib.hid hF;clear hF
        have a1:=HF.out.2 (by simpa using hh)
        clear hh HF HFF hfl i0 i1 i2 i3 i4 i5
        go_wp2_with (go_at_call 84;(with_reducible refine (gf.out _ hb).mono ?_);rintro q wf ⟨rfl,hbf,hf⟩)
        exact bodyPost_ret (v:=.tuple #[]) (by simp [results,Tryd.results81,go_sem]) rfl ⟨rfl,blk_to hbf HF2.out.symm,hf⟩
end Go.Proofs.YtaiofjffoboicaaDoor
namespace Go.Proofs.YtaiofjffoboicaaDoor
open Go.RowKit
theorem start_any (b : Nat) (s : ByteArray) (hs2 : s.size ≤ maxLen) (w : World) (hH : HTab w) (hb : blk w b = some (formC s 0 0 0 0 0 0 0 0 0 0 0 ⟨#[]⟩ false)) :
    Calls Tryd.prog 81 #[.pointer (some ⟨b,0,none⟩)] w fun q w' => q = .returned (.tuple #[]) ∧
      blk w' b = some (formC s (startR s.data.toList).2.2.pos (startR s.data.toList).2.2.err (startR s.data.toList).2.2.fat 0 0 0 0 (startR s.data.toList).1 0 0 0 ⟨#[]⟩ (startR s.data.toList).2.1) ∧ Below b w w':=by
  by_cases h : s.size = 0
  · have h1 : s.data.toList = []:=by rw [← List.length_eq_zero_iff];simpa using h
    rw [h1]
    exact start_none b s 0 0 0 0 0 0 0 0 ⟨#[]⟩ false h w hb
  · have h0 : 0 < s.size:=by omega
    have h1 : s.data.toList = s[0] :: s.data.toList.drop 1:=by simpa using drop_at s 0 h0
    refine (start_some b s 0 0 0 0 0 0 0 0 ⟨#[]⟩ false h0 hs2 w hH hb).mono fun q w' ⟨e1,e2,e3⟩ => ⟨e1,?_,e3⟩
    rw [e2,h1,startR]
    split <;> rfl
theorem fieldsR_full (l : List UInt8) (r : Rs) : (fieldsR l true r).of = 0 ∧ (fieldsR l true r).to = 0:=⟨rfl,rfl⟩
theorem fields_any (b : Nat) (s : ByteArray) (p er fa pr : Int) (fu : Bool) (hs : s.size ≤ maxLen) (hp1 : 0 ≤ p) (hp2 : p ≤ s.size) (X : Fl) (hX : fieldsR s.data.toList fu ⟨p,er,fa⟩ = X) (w : World) (hb : blk w b = some (formC s p er fa 0 0 0 0 pr 0 0 0 ⟨#[]⟩ fu)) :
    Calls Tryd.prog 82 #[.pointer (some ⟨b,0,none⟩)] w fun q w' => q = .returned (.tuple #[]) ∧ blk w' b = some (formC s X.r.pos X.r.err X.r.fat X.no X.sq X.of X.de pr X.bo X.li X.to ⟨#[]⟩ fu) ∧ Below b w w':=by
  cases fu
  · exact fields_part b s p er fa 0 0 0 0 pr 0 0 0 ⟨#[]⟩ hs hp1 hp2 X hX w hb
  · refine (fields_full b s p er fa 0 0 0 0 pr 0 0 0 ⟨#[]⟩ hs hp1 hp2 X hX w hb).mono fun q w' ⟨e1,e2,e3⟩ => ⟨e1,?_,e3⟩
    have:=fieldsR_full s.data.toList ⟨p,er,fa⟩
    rw [hX] at this
    rw [e2,this.1,this.2]
theorem startR_pos (l : List UInt8) : 0 ≤ (startR l).2.2.pos ∧ (startR l).2.2.pos ≤ l.length:=by
  match l with
  | [] => simp [startR]
  | b :: r => rw [startR];split <;> simp <;> omega
theorem kept_blk {w w' : World} {B b : Nat} {c : Array Value} (hB : Below B w w') (hb : b < B) (h : blk w b = some c) : blk w' b = some c:=(blk_kept (hB.block b hb)).trans h
theorem ret_blk2 {P : Program} {fn : Func} {R : Ending → World → Prop} {a : Act} {W : World} {b d : Nat} {c c' : Array Value} {v : Value} (hb : blk W b = some c) (hd : blk W d = some c')
    (hres : ∀ W' : World,(∀ i,W'.cell? ⟨b,i,none⟩ = c[i]?) → (∀ i,W'.cell? ⟨d,i,none⟩ = c'[i]?) → (results fn a.tmps).run P W' = .ok v W') (hdf : a.defers = []) (hR : R (.returned v) W) : bodyPost P fn R .ret a W :=
  bodyPost_ret (v:=v) (hres W (fun i => blk_cell hb i) (fun i => blk_cell hd i)) hdf hR
end Go.Proofs.YtaiofjffoboicaaDoor
namespace Go.Proofs.YtaiofjffoboicaaDoor
open Go.RowKit
def sealedB (l : List UInt8) (n : Nat) : Bool:=decide (four (crcN (l.take n)) = l.drop n)
set_option maxRecDepth 100000 in
set_option maxHeartbeats 800000 in
theorem openG_ok (s : ByteArray) (n : Nat) (hs : s.size = n + 4) (hn : n ≤ 1000000) (ho : sealedB s.data.toList n = true) (w : World) (hT : STab w) :
    Calls Tryd.prog 106 #[.string s,.func (.func 107) #[] #[]] w fun e w' => e = .returned (.tuple #[.string (s.extract 0 n),.int .i64 0]) ∧ Below w.heap.size w w':=by
  have e1 : (s.extract 0 n).size = n:=by simp;omega
  have e2 : (s.extract 0 n).data.toList = s.data.toList.take n:=by simp
  have g1:=fun w => crc32_any (s.extract 0 n) (by omega) w
  have g2:=fun w => text_any (crcN (s.extract 0 n).data.toList) (crcN_lt _) w
  obtain ⟨t2,ht2⟩ : ∃ t,s.extract n s.size = t:=⟨_,rfl⟩
  have h1 : t2.data.toList = s.data.toList.drop n:=by
    have hl : s.data.toList.length = s.size:=by simp
    rw [← ht2,Lib.extract_data,List.take_of_length_le (by rw [List.length_drop];omega)]
  have e3 : bstr (four (crcN (s.extract 0 n).data.toList)) = .string t2:=by
    rw [e2]
    refine (vstr ?_).symm
    rw [h1]
    have h2 : four (crcN (s.data.toList.take n)) = s.data.toList.drop n:=by simpa [sealedB] using ho
    exact h2.symm
  rw [e3] at g2
  obtain ⟨c,hc⟩ : ∃ c,crcN (s.extract 0 n).data.toList = c:=⟨_,rfl⟩
  rw [hc] at g1 g2
  have z2 : t2.size = 4:=by rw [← ht2];simp;omega
  have gz : ∀ w,Calls Tryd.prog 122 #[.int .u32 0] w fun e w' => e = .returned (.int .i64 4) ∧ w = w':=fun w => size32_any 0 w
  replace gz:=Lib.hid gz
  replace g1:=Lib.hid fun w h => g1 w h;replace g2:=Lib.hid g2
  have ST:=Lib.hid hT
  have hss : (s.size : Int) = (n : Int) + 4:=by omega
  have HS:=Lib.hid hs
  clear hc e2 e3 ho hT hs h1
  go_enter Tryd.func106,Tryd.ntmps106
  go_wp2_with (go_at_call 122;(with_reducible refine (gz.out _).mono ?_);rintro e wx ⟨rfl,rfl⟩)
  refine wp_region_in (by kernel_rfl) (by kernel_rfl) ?_
  intro W0_1 hE_1 hN_1
  have bW0_1 : Below w.heap.size w W0_1:=(by rw [hE_1.out];(repeat(first|(with_reducible first|assumption|exact Below.refl _ _|refine je ?_|refine jl ?_)|((with_reducible refine jp ?_ ?_);first|focus(dsimp only;assumption)|focus(simp;done)|focus(dsimp only;omega))|(with_reducible refine bt ?_ (by assumption)))))
  clear hE_1
  repeat (go_big_quiet_step ((first|(go_at_call 107;(with_reducible refine Class.same _ (g1.out _ (ST.out.on (bt (by assumption) (Class.ok _))))))|(go_at_call 112;(with_reducible refine Class.go _ (g2.out _))))))
  refine wpQuiet_nil ?_
  rintro _ ⟨x_1,rfl⟩
  have hx_1 : Calm W0_1 x_1.wd:=x_1.ok
  have bw2 : Below w.heap.size w x_1.wd:=bt bW0_1 hx_1
  clear hx_1 bW0_1 hN_1
  generalize x_1.wd = w2 at *
  have sw2:=bw2.size
  go_wp2
  go_ret2
  exact ⟨rfl,bw2⟩
theorem open_ok (s : ByteArray) (n : Nat) (hs : s.size = n + 4) (hn : n ≤ 1000000) (ho : sealedB s.data.toList n = true) (w : World) (hT : STab w) :
    Calls Tryd.prog 85 #[.string s] w fun e w' => e = .returned (.tuple #[.string (s.extract 0 n),.int .i64 0]) ∧ Below w.heap.size w w':=by
  have g1:=Lib.hid (openG_ok s n hs hn ho w hT)
  go_enter Tryd.func85,Tryd.ntmps85
  go_wp2_with (go_at_call 106;(with_reducible refine g1.out.mono ?_);rintro e w1 ⟨rfl,h1⟩)
  go_ret2
  exact ⟨rfl,h1⟩
set_option maxRecDepth 100000 in
set_option maxHeartbeats 800000 in
theorem openG_bad (s : ByteArray) (n : Nat) (hs : s.size = n + 4) (hn : n ≤ 1000000) (ho : sealedB s.data.toList n = false) (w : World) (hT : STab w) :
    Calls Tryd.prog 106 #[.string s,.func (.func 107) #[] #[]] w fun e w' => e = .returned (.tuple #[.string ⟨#[]⟩,.int .i64 10]) ∧ Below w.heap.size w w':=by
  have e1 : (s.extract 0 n).size = n:=by simp;omega
  have e2 : (s.extract 0 n).data.toList = s.data.toList.take n:=by simp
  have g1:=fun w => crc32_any (s.extract 0 n) (by omega) w
  have g2:=fun w => text_any (crcN (s.extract 0 n).data.toList) (crcN_lt _) w
  obtain ⟨t2,ht2⟩ : ∃ t,s.extract n s.size = t:=⟨_,rfl⟩
  have h1 : t2.data.toList = s.data.toList.drop n:=by
    have hl : s.data.toList.length = s.size:=by simp
    rw [← ht2,Lib.extract_data,List.take_of_length_le (by rw [List.length_drop];omega)]
  obtain ⟨t3,ht3⟩ : ∃ t : ByteArray,t.data.toList = four (crcN (s.extract 0 n).data.toList):=⟨⟨(four (crcN (s.extract 0 n).data.toList)).toArray⟩,rfl⟩
  have e3 : bstr (four (crcN (s.extract 0 n).data.toList)) = .string t3:=(vstr ht3).symm
  have hne : t3.data.toList ≠ t2.data.toList:=by
    rw [ht3,h1,e2]
    simpa [sealedB] using ho
  have hne2 : t3.toList ≠ t2.toList:=by rw [ByteArray.toList_eq,ByteArray.toList_eq];exact hne
  have hne0 : t3 ≠ t2:=fun h => hne (by rw [h])
  have q1 : (t3.toList == t2.toList) = false:=by simp [hne2]
  have q2 : (t3.toList != t2.toList) = true:=by simp [hne2]
  clear hne hne2 ht3
  rw [e3] at g2
  obtain ⟨c,hc⟩ : ∃ c,crcN (s.extract 0 n).data.toList = c:=⟨_,rfl⟩
  rw [hc] at g1 g2
  have z2 : t2.size = 4:=by rw [← ht2];simp;omega
  have gz : ∀ w,Calls Tryd.prog 122 #[.int .u32 0] w fun e w' => e = .returned (.int .i64 4) ∧ w = w':=fun w => size32_any 0 w
  replace gz:=Lib.hid gz
  replace g1:=Lib.hid fun w h => g1 w h;replace g2:=Lib.hid g2
  have ST:=Lib.hid hT
  have hss : (s.size : Int) = (n : Int) + 4:=by omega
  have HS:=Lib.hid hs
  clear hc e2 e3 ho hT hs h1
  go_enter Tryd.func106,Tryd.ntmps106
  go_wp2_with (go_at_call 122;(with_reducible refine (gz.out _).mono ?_);rintro e wx ⟨rfl,rfl⟩)
  refine wp_region_in (by kernel_rfl) (by kernel_rfl) ?_
  intro W0_2 hE_2 hN_2
  have bW0_2 : Below w.heap.size w W0_2:=(by rw [hE_2.out];(repeat(first|(with_reducible first|assumption|exact Below.refl _ _|refine je ?_|refine jl ?_)|((with_reducible refine jp ?_ ?_);first|focus(dsimp only;assumption)|focus(simp;done)|focus(dsimp only;omega))|(with_reducible refine bt ?_ (by assumption)))))
  clear hE_2
  repeat (go_big_quiet_step ((first|(go_at_call 107;(with_reducible refine Class.same _ (g1.out _ (ST.out.on (bt (by assumption) (Class.ok _))))))|(go_at_call 112;(with_reducible refine Class.go _ (g2.out _))))))
  refine wpQuiet_nil ?_
  rintro _ ⟨x_2,rfl⟩
  have hx_2 : Calm W0_2 x_2.wd:=x_2.ok
  have bw2 : Below w.heap.size w x_2.wd:=bt bW0_2 hx_2
  clear hx_2 bW0_2 hN_2
  generalize x_2.wd = w2 at *
  have sw2:=bw2.size
  go_wp2
  go_ret2
  exact ⟨rfl,bw2⟩
theorem open_bad (s : ByteArray) (n : Nat) (hs : s.size = n + 4) (hn : n ≤ 1000000) (ho : sealedB s.data.toList n = false) (w : World) (hT : STab w) :
    Calls Tryd.prog 85 #[.string s] w fun e w' => e = .returned (.tuple #[.string ⟨#[]⟩,.int .i64 10]) ∧ Below w.heap.size w w':=by
  have g1:=Lib.hid (openG_bad s n hs hn ho w hT)
  go_enter Tryd.func85,Tryd.ntmps85
  go_wp2_with (go_at_call 106;(with_reducible refine g1.out.mono ?_);rintro e w1 ⟨rfl,h1⟩)
  go_ret2
  exact ⟨rfl,h1⟩
end Go.Proofs.YtaiofjffoboicaaDoor
