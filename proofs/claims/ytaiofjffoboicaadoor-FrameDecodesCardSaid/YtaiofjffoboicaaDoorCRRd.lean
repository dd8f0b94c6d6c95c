/- Parts of a proof, printed by a program of mine out of my texts: FrRef, FrRBun. -/
import Derived.Test.YtaiofjffoboicaaDoorCCur
import Derived.Test.YtaiofjffoboicaaDoorCFrRefH
import Derived.Test.YtaiofjffoboicaaDoorCL
import Derived.Test.YtaiofjffoboicaaDoorCLaw
import Derived.Test.YtaiofjffoboicaaDoorCUsed
set_option linter.unusedSimpArgs false
set_option linter.unusedVariables false
namespace Go.Proofs.YtaiofjffoboicaaDoor
open Go.RowKit
set_option maxRecDepth 100000 in
set_option maxHeartbeats 1600000 in
theorem rnum_any (b : Nat) (s : ByteArray) (p er fa : Int) (hs : s.size ≤ maxLen) (w : World) (hb : blk w b = some (rdC s p er fa)) :
    Calls Tryd.prog 32 #[.pointer (some ⟨b,0,none⟩)] w fun q w' => q = .returned (.int .u64 (rjN s.data.toList ⟨p,er,fa⟩).1) ∧
      blk w' b = some (rdC s (rjN s.data.toList ⟨p,er,fa⟩).2.pos (rjN s.data.toList ⟨p,er,fa⟩).2.err (rjN s.data.toList ⟨p,er,fa⟩).2.fat) ∧ Touch b w w':=by
  have knb:=kn hb
  have hlt:=blk_lt hb
  by_cases h1 : er = 0
  · subst h1
    have cg:=fun w => refGet_any s p w hs
    obtain ⟨⟨n,nx,e⟩,hg⟩ : ∃ r,getN s.data.toList p = r:=⟨_,rfl⟩
    rw [hg] at cg
    have cg : ∀ w,Calls Tryd.prog 56 #[.string s,.int .i64 p] w fun e' w' => e' = .returned (.tuple #[.int .u64 (n : Int),.int .i64 (nx : Int),.int .i64 (e : Int)]) ∧ w = w':=cg
    replace cg:=Lib.hid cg
    by_cases h2 : e = 0
    · have hr : rjN s.data.toList ⟨p,0,fa⟩ = ((n : Int),⟨nx,0,fa⟩):=by unfold rjN;simp [hg,h2]
      rw [hr]
      clear hr hg
      subst h2
      go_enter Tryd.func32,Tryd.ntmps32
      go_wp2
      refine wp_region_in (by kernel_rfl) (by kernel_rfl) ?_
      intro W0_1 hE_1 hN_1
      have bW0_1 : Below w.heap.size w W0_1:=(by rw [hE_1.out];(repeat(first|(with_reducible first|assumption|exact Below.refl _ _|refine je ?_|refine jl ?_)|((with_reducible refine jp ?_ ?_);first|focus(dsimp only;assumption)|focus(simp;done)|focus(dsimp only;omega))|(with_reducible refine bt ?_ (by assumption)))))
      have kk2 : blk W0_1 (b) = some (rdC s p 0 fa):=(by rw [hE_1.out];(apply jt;(focus repeat(first|(with_reducible first|assumption|apply jd|apply js)|((with_reducible apply jo);first|focus(dsimp only;assumption)|focus(simp;done)|focus(dsimp only;omega))|((with_reducible apply jn);first|with_reducible rfl|focus(simp;done)|focus(simp;omega))|(with_reducible apply ja)|((with_reducible apply jb);with_reducible assumption)));rfl))
      have kn2:=calm_kn kk2
      clear hE_1
      repeat (go_big_quiet_step ((go_at_call 56;(with_reducible refine Class.same _ (cg.out _)))))
      refine wpQuiet_nil ?_
      rintro _ ⟨x_1,rfl⟩
      have hx_1 : Calm W0_1 x_1.wd:=x_1.ok
      have bw2 : Below w.heap.size w x_1.wd:=bt bW0_1 hx_1
      clear kn2;replace kk2:=blk_below hx_1 kk2;have kn2:=kn kk2
      clear hx_1 bW0_1 hN_1
      generalize x_1.wd = w2 at *
      have sw2:=bw2.size
      go_wp2
      go_ret
      exact ⟨rfl,by (apply jt;(focus repeat(first|(with_reducible first|assumption|apply jd|apply js)|((with_reducible apply jo);first|focus(dsimp only;assumption)|focus(simp;done)|focus(dsimp only;omega))|((with_reducible apply jn);first|with_reducible rfl|focus(simp;done)|focus(simp;omega))|(with_reducible apply ja)|((with_reducible apply jb);with_reducible assumption)));rfl),((Touch.refl b w).below bw2 (Nat.le_of_lt hlt)).set⟩
    · have hr : rjN s.data.toList ⟨p,0,fa⟩ = (0,⟨p,e,nx⟩):=by unfold rjN;simp [hg,h2]
      rw [hr]
      have e2 : ((e : Int) != 0) = true:=by simp [h2]
      clear hr hg h2
      go_enter Tryd.func32,Tryd.ntmps32
      go_wp2
      refine wp_region_in (by kernel_rfl) (by kernel_rfl) ?_
      intro W0_3 hE_3 hN_3
      have bW0_3 : Below w.heap.size w W0_3:=(by rw [hE_3.out];(repeat(first|(with_reducible first|assumption|exact Below.refl _ _|refine je ?_|refine jl ?_)|((with_reducible refine jp ?_ ?_);first|focus(dsimp only;assumption)|focus(simp;done)|focus(dsimp only;omega))|(with_reducible refine bt ?_ (by assumption)))))
      have kk4 : blk W0_3 (b) = some (rdC s p 0 fa):=(by rw [hE_3.out];(apply jt;(focus repeat(first|(with_reducible first|assumption|apply jd|apply js)|((with_reducible apply jo);first|focus(dsimp only;assumption)|focus(simp;done)|focus(dsimp only;omega))|((with_reducible apply jn);first|with_reducible rfl|focus(simp;done)|focus(simp;omega))|(with_reducible apply ja)|((with_reducible apply jb);with_reducible assumption)));rfl))
      have kn4:=calm_kn kk4
      clear hE_3
      repeat (go_big_quiet_step ((go_at_call 56;(with_reducible refine Class.same _ (cg.out _)))))
      refine wpQuiet_nil ?_
      rintro _ ⟨x_3,rfl⟩
      have hx_3 : Calm W0_3 x_3.wd:=x_3.ok
      have bw2 : Below w.heap.size w x_3.wd:=bt bW0_3 hx_3
      clear kn4;replace kk4:=blk_below hx_3 kk4;have kn4:=kn kk4
      clear hx_3 bW0_3 hN_3
      generalize x_3.wd = w2 at *
      have sw2:=bw2.size
      go_wp2
      go_ret
      exact ⟨rfl,by (apply jt;(focus repeat(first|(with_reducible first|assumption|apply jd|apply js)|((with_reducible apply jo);first|focus(dsimp only;assumption)|focus(simp;done)|focus(dsimp only;omega))|((with_reducible apply jn);first|with_reducible rfl|focus(simp;done)|focus(simp;omega))|(with_reducible apply ja)|((with_reducible apply jb);with_reducible assumption)));rfl),((Touch.refl b w).below bw2 (Nat.le_of_lt hlt)).set.set⟩
  · have hr : rjN s.data.toList ⟨p,er,fa⟩ = (0,⟨p,er,fa⟩):=by unfold rjN;simp [h1]
    rw [hr]
    have e1 : (er != 0) = true:=by simp [h1]
    clear h1 hr
    go_enter Tryd.func32,Tryd.ntmps32
    go_wp2
    go_ret
    exact ⟨rfl,hb,Touch.refl _ _⟩
theorem rjN_bd (l : List UInt8) (r : Rs) : 0 ≤ (rjN l r).1 ∧ (rjN l r).1 < 18446744073709551616:=by
  unfold rjN
  have:=(getN_bound l r.pos).1
  split
  · exact ⟨Int.le_refl _,by simp⟩
  · split
    · exact ⟨Int.le_refl _,by simp⟩
    · simp only;omega
set_option maxRecDepth 100000 in
set_option maxHeartbeats 800000 in
theorem rsmall_any (b : Nat) (s : ByteArray) (p er fa : Int) (hs : s.size ≤ maxLen) (w : World) (hb : blk w b = some (rdC s p er fa)) :
    Calls Tryd.prog 31 #[.pointer (some ⟨b,0,none⟩)] w fun q w' => q = .returned (.int .i64 (clampI (rjN s.data.toList ⟨p,er,fa⟩).1)) ∧
      blk w' b = some (rdC s (rjN s.data.toList ⟨p,er,fa⟩).2.pos (rjN s.data.toList ⟨p,er,fa⟩).2.err (rjN s.data.toList ⟨p,er,fa⟩).2.fat) ∧ Touch b w w':=by
  have gn:=rnum_any b s p er fa hs w hb
  have hbd:=rjN_bd s.data.toList ⟨p,er,fa⟩
  obtain ⟨⟨n,r⟩,hr⟩ : ∃ x,rjN s.data.toList ⟨p,er,fa⟩ = x:=⟨_,rfl⟩
  rw [hr] at gn hbd ⊢
  simp only at gn hbd ⊢
  unfold clampI
  replace gn:=Lib.hid gn
  clear hr
  by_cases h : 1099511627776 < n
  · rw [if_pos h]
    go_enter Tryd.func31,Tryd.ntmps31
    go_wp2_with (go_at_call 32;(with_reducible refine gn.out.mono ?_);rintro q w2 ⟨rfl,h2,h3⟩)
    go_ret
    exact ⟨rfl,h2,h3⟩
  · rw [if_neg h]
    have e1 : IntKind.i64.wrap n = n:=IntWalk.i64_in _ (by omega)
    go_enter Tryd.func31,Tryd.ntmps31
    go_wp2_with (go_at_call 32;(with_reducible refine gn.out.mono ?_);rintro q w2 ⟨rfl,h2,h3⟩)
    go_ret
    exact ⟨rfl,h2,h3⟩
end Go.Proofs.YtaiofjffoboicaaDoor
namespace Go.Proofs.YtaiofjffoboicaaDoor
open Go.RowKit
theorem Touch.setN {b X i : Nat} {w W : World} {v : Value} (h : Touch b w W) (hb : b < w.heap.size) (hX : w.heap.size ≤ X) : Touch b w (W.setCell ⟨X,i,none⟩ v) :=
  ⟨h.1.setCell (p:=⟨X,i,none⟩) (Nat.le_trans (Nat.le_of_lt hb) hX) v,fun d c h1 h2 => blk_other (a:=⟨X,i,none⟩) (h.2.1 d c h1 h2) (by have:=blk_lt h2;show d ≠ X;omega),by simpa using h.2.2⟩
theorem Touch.allocN {b : Nat} {w W : World} {o : Obj} (h : Touch b w W) (hb : b < w.heap.size) : Touch b w (W.alloc o) :=
  h.below ((Below.refl _ _).alloc (Nat.le_refl _) _) (Nat.le_trans (Nat.le_of_lt hb) h.2.2)
abbrev bunV (d : Dr) : Value:=.agg #[.int .i64 d.no,.int .u64 d.sq,.int .i64 d.of,.int .i64 d.de,.int .i64 d.pr,.int .i64 d.bo,.int .i64 d.li,.int .i64 d.to,.string ⟨d.da.toArray⟩]
set_option maxRecDepth 100000 in
set_option maxHeartbeats 3200000 in
theorem rbun_any (b : Nat) (s : ByteArray) (p er fa : Int) (hs : s.size ≤ 1000000) (hp : er = 0 → 0 ≤ p ∧ p ≤ s.size) (w : World) (hb : blk w b = some (rdC s p er fa)) :
    Calls Tryd.prog 34 #[.pointer (some ⟨b,0,none⟩)] w fun q w' => q = .returned (bunV (rjB s.data.toList ⟨p,er,fa⟩).1) ∧
      blk w' b = some (rdC s (rjB s.data.toList ⟨p,er,fa⟩).2.pos (rjB s.data.toList ⟨p,er,fa⟩).2.err (rjB s.data.toList ⟨p,er,fa⟩).2.fat) ∧ Touch b w w':=by
  have knb:=kn hb
  have hlt:=blk_lt hb
  by_cases h1 : er = 0
  · subst h1
    obtain ⟨hp1,hp2⟩:=hp rfl
    have hl : s.data.toList.length = s.size:=by simp
    have cg:=fun w => refGetText_any s p 1200 w (by unfold maxLen;omega) (by omega) (by omega) (by omega)
    have hpos:=textN_pos s.data.toList p 1200 ⟨hp1,by omega⟩
    obtain ⟨⟨t,nx,z⟩,hg⟩ : ∃ r,getTextN s.data.toList p 1200 = r:=⟨_,rfl⟩
    rw [hg] at cg hpos
    obtain ⟨tt,rfl⟩ : ∃ tt : ByteArray,t = tt.data.toList:=⟨⟨t.toArray⟩,rfl⟩
    have htl : tt.data.toList.length = tt.size:=by simp
    simp only at hpos
    rw [hl,htl] at hpos
    have cg : ∀ w,Calls Tryd.prog 57 #[.string s,.int .i64 p,.int .i64 1200] w fun e' w' => e' = .returned (.tuple #[.string tt,.int .i64 nx,.int .i64 z]) ∧ w = w':=cg
    replace cg:=Lib.hid cg
    by_cases hz : z = 0
    · subst hz
      have gd:=fun w => refDecode_any tt (by omega) w
      have hfat:=decL_fat tt.data.toList
      rw [htl] at hfat
      unfold decV at gd
      by_cases hde : (decL tt.data.toList).err = 0
      · have hr : rjB s.data.toList ⟨p,0,fa⟩ = (decL tt.data.toList,⟨nx,0,fa⟩):=by unfold rjB;simp [hg,hde]
        rw [hr]
        rw [hde] at gd
        obtain ⟨⟨dno,dsq,dof,dde,dpr,dbo,dli,dto,dda,de,df⟩,hd⟩ : ∃ d,decL tt.data.toList = d:=⟨_,rfl⟩
        rw [hd] at gd hfat ⊢
        clear hd hde hr
        unfold bunV
        simp only at gd hfat ⊢
        obtain ⟨db,hdb⟩ : ∃ b : ByteArray,(⟨dda.toArray⟩ : ByteArray) = b:=⟨_,rfl⟩
        simp only [hdb] at gd ⊢
        clear hdb
        replace gd:=Lib.hid gd
        clear hg htl hl hpos hp
        go_enter Tryd.func34,Tryd.ntmps34
        go_wp2
        refine wp_region_in (by kernel_rfl) (by kernel_rfl) ?_
        intro W0_1 hE_1 hN_1
        have bW0_1 : Below w.heap.size w W0_1:=(by rw [hE_1.out];(repeat(first|(with_reducible first|assumption|exact Below.refl _ _|refine je ?_|refine jl ?_)|((with_reducible refine jp ?_ ?_);first|focus(dsimp only;assumption)|focus(simp;done)|focus(dsimp only;omega))|(with_reducible refine bt ?_ (by assumption)))))
        have kk2 : blk W0_1 (b) = some (rdC s p 0 fa):=(by rw [hE_1.out];(apply jt;(focus repeat(first|(with_reducible first|assumption|apply jd|apply js)|((with_reducible apply jo);first|focus(dsimp only;assumption)|focus(simp;done)|focus(dsimp only;omega))|((with_reducible apply jn);first|with_reducible rfl|focus(simp;done)|focus(simp;omega))|(with_reducible apply ja)|((with_reducible apply jb);with_reducible assumption)));rfl))
        have kk3 : blk W0_1 (w.heap.size) = some #[.int .i64 0,.int .u64 0,.int .i64 0,.int .i64 0,.int .i64 0,.int .i64 0,.int .i64 0,.int .i64 0,.string ⟨#[]⟩]:=(by rw [hE_1.out];(apply jt;(focus repeat(first|(with_reducible first|assumption|apply jd|apply js)|((with_reducible apply jo);first|focus(dsimp only;assumption)|focus(simp;done)|focus(dsimp only;omega))|((with_reducible apply jn);first|with_reducible rfl|focus(simp;done)|focus(simp;omega))|(with_reducible apply ja)|((with_reducible apply jb);with_reducible assumption)));rfl))
        have kn2:=calm_kn kk2
        have kn3:=calm_kn kk3
        clear hE_1
        repeat (go_big_quiet_step ((go_at_call 57;(with_reducible refine Class.same _ (cg.out _)))))
        refine wpQuiet_nil ?_
        rintro _ ⟨x_1,rfl⟩
        have hx_1 : Calm W0_1 x_1.wd:=x_1.ok
        have bw2 : Below w.heap.size w x_1.wd:=bt bW0_1 hx_1
        clear kn2;replace kk2:=blk_below hx_1 kk2;have kn2:=kn kk2
        clear kn3;replace kk3:=blk_below hx_1 kk3;have kn3:=kn kk3
        clear hx_1 bW0_1 hN_1
        generalize x_1.wd = w2 at *
        have sw2:=bw2.size
        go_wp2_with fail
        (with_reducible refine (gd.out _).mono ?_)
        rintro q w3 ⟨rfl,h3⟩
        have kb3 : blk w3 b = some (rdC s p 0 fa):=(by (apply jt;(focus repeat(first|(with_reducible first|assumption|apply jd|apply js)|((with_reducible apply jo);first|focus(dsimp only;assumption)|focus(simp;done)|focus(dsimp only;omega))|((with_reducible apply jn);first|with_reducible rfl|focus(simp;done)|focus(simp;omega))|(with_reducible apply ja)|((with_reducible apply jb);with_reducible assumption)));rfl))
        have kz3 : blk w3 w.heap.size = some #[.int .i64 0,.int .u64 0,.int .i64 0,.int .i64 0,.int .i64 0,.int .i64 0,.int .i64 0,.int .i64 0,.string ⟨#[]⟩]:=(by (apply jt;(focus repeat(first|(with_reducible first|assumption|apply jd|apply js)|((with_reducible apply jo);first|focus(dsimp only;assumption)|focus(simp;done)|focus(dsimp only;omega))|((with_reducible apply jn);first|with_reducible rfl|focus(simp;done)|focus(simp;omega))|(with_reducible apply ja)|((with_reducible apply jb);with_reducible assumption)));rfl))
        have t3 : Touch b w w3:=((Touch.refl b w).below bw2 (Nat.le_of_lt hlt)).below h3 (by have:=bw2.size;omega)
        have nb3:=kn kb3
        have nz3:=kn kz3
        go_wp2
        refine ret_row 2 27 _ (by (apply jt;(focus repeat(first|(with_reducible first|assumption|apply jd|apply js)|((with_reducible apply jo);first|focus(dsimp only;assumption)|focus(simp;done)|focus(dsimp only;omega))|((with_reducible apply jn);first|with_reducible rfl|focus(simp;done)|focus(simp;omega))|(with_reducible apply ja)|((with_reducible apply jb);with_reducible assumption)));rfl)) rfl rfl Tryd.underlying27 rfl (by kernel_rfl) rfl ⟨rfl,by (apply jt;(focus repeat(first|(with_reducible first|assumption|apply jd|apply js)|((with_reducible apply jo);first|focus(dsimp only;assumption)|focus(simp;done)|focus(dsimp only;omega))|((with_reducible apply jn);first|with_reducible rfl|focus(simp;done)|focus(simp;omega))|(with_reducible apply ja)|((with_reducible apply jb);with_reducible assumption)));rfl),?tch⟩
        case tch =>
          repeat (first|(with_reducible refine Touch.set ?_)|((with_reducible refine Touch.setN ?_ hlt ?_);rotate_left;focus (first|(with_reducible exact Nat.le_refl _)|(have:=sw2;omega)|(have:=sw2;have:=h3.size;omega)))|(with_reducible refine Touch.allocN ?_ hlt))
          with_reducible exact t3
      · have hr : rjB s.data.toList ⟨p,0,fa⟩ = (.bad 0 0,⟨p,(decL tt.data.toList).err,(decL tt.data.toList).fat + nx - tt.size⟩):=by unfold rjB;simp [hg,hde]
        rw [hr]
        obtain ⟨⟨dno,dsq,dof,dde,dpr,dbo,dli,dto,dda,de,df⟩,hd⟩ : ∃ d,decL tt.data.toList = d:=⟨_,rfl⟩
        rw [hd] at gd hfat hde ⊢
        clear hd hr
        simp only at gd hfat hde ⊢
        obtain ⟨db,hdb⟩ : ∃ b : ByteArray,(⟨dda.toArray⟩ : ByteArray) = b:=⟨_,rfl⟩
        simp only [hdb] at gd ⊢
        clear hdb
        have x1 : IntKind.i64.wrap (df + nx) = df + nx:=IntWalk.i64_in _ (by omega)
        have x2 : IntKind.i64.wrap (df + nx - (tt.size : Int)) = df + nx - tt.size:=IntWalk.i64_in _ (by omega)
        have d1 : (de != 0) = true:=by simp [hde]
        replace gd:=Lib.hid gd
        clear hg htl hl hpos hp hde
        go_enter Tryd.func34,Tryd.ntmps34
        go_wp2
        refine wp_region_in (by kernel_rfl) (by kernel_rfl) ?_
        intro W0_4 hE_4 hN_4
        have bW0_4 : Below w.heap.size w W0_4:=(by rw [hE_4.out];(repeat(first|(with_reducible first|assumption|exact Below.refl _ _|refine je ?_|refine jl ?_)|((with_reducible refine jp ?_ ?_);first|focus(dsimp only;assumption)|focus(simp;done)|focus(dsimp only;omega))|(with_reducible refine bt ?_ (by assumption)))))
        have kk5 : blk W0_4 (b) = some (rdC s p 0 fa):=(by rw [hE_4.out];(apply jt;(focus repeat(first|(with_reducible first|assumption|apply jd|apply js)|((with_reducible apply jo);first|focus(dsimp only;assumption)|focus(simp;done)|focus(dsimp only;omega))|((with_reducible apply jn);first|with_reducible rfl|focus(simp;done)|focus(simp;omega))|(with_reducible apply ja)|((with_reducible apply jb);with_reducible assumption)));rfl))
        have kk6 : blk W0_4 (w.heap.size) = some #[.int .i64 0,.int .u64 0,.int .i64 0,.int .i64 0,.int .i64 0,.int .i64 0,.int .i64 0,.int .i64 0,.string ⟨#[]⟩]:=(by rw [hE_4.out];(apply jt;(focus repeat(first|(with_reducible first|assumption|apply jd|apply js)|((with_reducible apply jo);first|focus(dsimp only;assumption)|focus(simp;done)|focus(dsimp only;omega))|((with_reducible apply jn);first|with_reducible rfl|focus(simp;done)|focus(simp;omega))|(with_reducible apply ja)|((with_reducible apply jb);with_reducible assumption)));rfl))
        have kn5:=calm_kn kk5
        have kn6:=calm_kn kk6
        clear hE_4
        repeat (go_big_quiet_step ((go_at_call 57;(with_reducible refine Class.same _ (cg.out _)))))
        refine wpQuiet_nil ?_
        rintro _ ⟨x_4,rfl⟩
        have hx_4 : Calm W0_4 x_4.wd:=x_4.ok
        have bw2 : Below w.heap.size w x_4.wd:=bt bW0_4 hx_4
        clear kn5;replace kk5:=blk_below hx_4 kk5;have kn5:=kn kk5
        clear kn6;replace kk6:=blk_below hx_4 kk6;have kn6:=kn kk6
        clear hx_4 bW0_4 hN_4
        generalize x_4.wd = w2 at *
        have sw2:=bw2.size
        go_wp2_with fail
        (with_reducible refine (gd.out _).mono ?_)
        rintro q w3 ⟨rfl,h3⟩
        have kb3 : blk w3 b = some (rdC s p 0 fa):=(by (apply jt;(focus repeat(first|(with_reducible first|assumption|apply jd|apply js)|((with_reducible apply jo);first|focus(dsimp only;assumption)|focus(simp;done)|focus(dsimp only;omega))|((with_reducible apply jn);first|with_reducible rfl|focus(simp;done)|focus(simp;omega))|(with_reducible apply ja)|((with_reducible apply jb);with_reducible assumption)));rfl))
        have kz3 : blk w3 w.heap.size = some #[.int .i64 0,.int .u64 0,.int .i64 0,.int .i64 0,.int .i64 0,.int .i64 0,.int .i64 0,.int .i64 0,.string ⟨#[]⟩]:=(by (apply jt;(focus repeat(first|(with_reducible first|assumption|apply jd|apply js)|((with_reducible apply jo);first|focus(dsimp only;assumption)|focus(simp;done)|focus(dsimp only;omega))|((with_reducible apply jn);first|with_reducible rfl|focus(simp;done)|focus(simp;omega))|(with_reducible apply ja)|((with_reducible apply jb);with_reducible assumption)));rfl))
        have t3 : Touch b w w3:=((Touch.refl b w).below bw2 (Nat.le_of_lt hlt)).below h3 (by have:=bw2.size;omega)
        have nb3:=kn kb3
        have nz3:=kn kz3
        go_wp2
        refine ret_row 2 27 _ (by (apply jt;(focus repeat(first|(with_reducible first|assumption|apply jd|apply js)|((with_reducible apply jo);first|focus(dsimp only;assumption)|focus(simp;done)|focus(dsimp only;omega))|((with_reducible apply jn);first|with_reducible rfl|focus(simp;done)|focus(simp;omega))|(with_reducible apply ja)|((with_reducible apply jb);with_reducible assumption)));rfl)) rfl rfl Tryd.underlying27 rfl (by kernel_rfl) rfl ⟨rfl,by (apply jt;(focus repeat(first|(with_reducible first|assumption|apply jd|apply js)|((with_reducible apply jo);first|focus(dsimp only;assumption)|focus(simp;done)|focus(dsimp only;omega))|((with_reducible apply jn);first|with_reducible rfl|focus(simp;done)|focus(simp;omega))|(with_reducible apply ja)|((with_reducible apply jb);with_reducible assumption)));rfl),?tch⟩
        case tch =>
          repeat (first|(with_reducible refine Touch.set ?_)|((with_reducible refine Touch.setN ?_ hlt ?_);rotate_left;focus (first|(with_reducible exact Nat.le_refl _)|(have:=sw2;omega)|(have:=sw2;have:=h3.size;omega)))|(with_reducible refine Touch.allocN ?_ hlt))
          with_reducible exact t3
    · have hr : rjB s.data.toList ⟨p,0,fa⟩ = (.bad 0 0,⟨p,z,nx⟩):=by unfold rjB;simp [hg,hz]
      rw [hr]
      have e2 : (z != 0) = true:=by simp [hz]
      clear hr hg hz hp
      go_enter Tryd.func34,Tryd.ntmps34
      go_wp2
      refine wp_region_in (by kernel_rfl) (by kernel_rfl) ?_
      intro W0_7 hE_7 hN_7
      have bW0_7 : Below w.heap.size w W0_7:=(by rw [hE_7.out];(repeat(first|(with_reducible first|assumption|exact Below.refl _ _|refine je ?_|refine jl ?_)|((with_reducible refine jp ?_ ?_);first|focus(dsimp only;assumption)|focus(simp;done)|focus(dsimp only;omega))|(with_reducible refine bt ?_ (by assumption)))))
      have kk8 : blk W0_7 (b) = some (rdC s p 0 fa):=(by rw [hE_7.out];(apply jt;(focus repeat(first|(with_reducible first|assumption|apply jd|apply js)|((with_reducible apply jo);first|focus(dsimp only;assumption)|focus(simp;done)|focus(dsimp only;omega))|((with_reducible apply jn);first|with_reducible rfl|focus(simp;done)|focus(simp;omega))|(with_reducible apply ja)|((with_reducible apply jb);with_reducible assumption)));rfl))
      have kk9 : blk W0_7 (w.heap.size) = some #[.int .i64 0,.int .u64 0,.int .i64 0,.int .i64 0,.int .i64 0,.int .i64 0,.int .i64 0,.int .i64 0,.string ⟨#[]⟩]:=(by rw [hE_7.out];(apply jt;(focus repeat(first|(with_reducible first|assumption|apply jd|apply js)|((with_reducible apply jo);first|focus(dsimp only;assumption)|focus(simp;done)|focus(dsimp only;omega))|((with_reducible apply jn);first|with_reducible rfl|focus(simp;done)|focus(simp;omega))|(with_reducible apply ja)|((with_reducible apply jb);with_reducible assumption)));rfl))
      have kn8:=calm_kn kk8
      have kn9:=calm_kn kk9
      clear hE_7
      repeat (go_big_quiet_step ((go_at_call 57;(with_reducible refine Class.same _ (cg.out _)))))
      refine wpQuiet_nil ?_
      rintro _ ⟨x_7,rfl⟩
      have hx_7 : Calm W0_7 x_7.wd:=x_7.ok
      have bw2 : Below w.heap.size w x_7.wd:=bt bW0_7 hx_7
      clear kn8;replace kk8:=blk_below hx_7 kk8;have kn8:=kn kk8
      clear kn9;replace kk9:=blk_below hx_7 kk9;have kn9:=kn kk9
      clear hx_7 bW0_7 hN_7
      generalize x_7.wd = w2 at *
      have sw2:=bw2.size
      go_wp2
      have t2 : Touch b w w2:=(Touch.refl b w).below bw2 (Nat.le_of_lt hlt)
      exact ret_row 2 27 _ (by (apply jt;(focus repeat(first|(with_reducible first|assumption|apply jd|apply js)|((with_reducible apply jo);first|focus(dsimp only;assumption)|focus(simp;done)|focus(dsimp only;omega))|((with_reducible apply jn);first|with_reducible rfl|focus(simp;done)|focus(simp;omega))|(with_reducible apply ja)|((with_reducible apply jb);with_reducible assumption)));rfl)) rfl rfl Tryd.underlying27 rfl (by kernel_rfl) rfl ⟨rfl,by (apply jt;(focus repeat(first|(with_reducible first|assumption|apply jd|apply js)|((with_reducible apply jo);first|focus(dsimp only;assumption)|focus(simp;done)|focus(dsimp only;omega))|((with_reducible apply jn);first|with_reducible rfl|focus(simp;done)|focus(simp;omega))|(with_reducible apply ja)|((with_reducible apply jb);with_reducible assumption)));rfl),by (repeat (first|(with_reducible refine Touch.set ?_)|((with_reducible refine Touch.setN ?_ hlt ?_);rotate_left;focus (first|(with_reducible exact Nat.le_refl _)|(have:=sw2;omega)|(have:=sw2;have:=h3.size;omega)))|(with_reducible refine Touch.allocN ?_ hlt)));with_reducible exact t2⟩
  · have hr : rjB s.data.toList ⟨p,er,fa⟩ = (.bad 0 0,⟨p,er,fa⟩):=by unfold rjB;simp [h1]
    rw [hr]
    have e1 : (er != 0) = true:=by simp [h1]
    clear h1 hr hp
    go_enter Tryd.func34,Tryd.ntmps34
    go_wp2
    have t0:=Touch.refl b w
    exact ret_row 2 27 _ (by (apply jt;(focus repeat(first|(with_reducible first|assumption|apply jd|apply js)|((with_reducible apply jo);first|focus(dsimp only;assumption)|focus(simp;done)|focus(dsimp only;omega))|((with_reducible apply jn);first|with_reducible rfl|focus(simp;done)|focus(simp;omega))|(with_reducible apply ja)|((with_reducible apply jb);with_reducible assumption)));rfl)) rfl rfl Tryd.underlying27 rfl (by kernel_rfl) rfl ⟨rfl,by (apply jt;(focus repeat(first|(with_reducible first|assumption|apply jd|apply js)|((with_reducible apply jo);first|focus(dsimp only;assumption)|focus(simp;done)|focus(dsimp only;omega))|((with_reducible apply jn);first|with_reducible rfl|focus(simp;done)|focus(simp;omega))|(with_reducible apply ja)|((with_reducible apply jb);with_reducible assumption)));rfl),by (repeat (first|(with_reducible refine Touch.set ?_)|((with_reducible refine Touch.setN ?_ hlt ?_);rotate_left;focus (first|(with_reducible exact Nat.le_refl _)|(have:=sw2;omega)|(have:=sw2;have:=h3.size;omega)))|(with_reducible refine Touch.allocN ?_ hlt)));with_reducible exact t0⟩
end Go.Proofs.YtaiofjffoboicaaDoor
