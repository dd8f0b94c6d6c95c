/- Parts of a proof, printed by a program of mine out of my texts: EgRNxA, EgRNxB, EgRPass. -/
import Derived.Maps.AppendAt
import Derived.Test.YtkaehoihpgelnaaDoorCM
import Derived.Test.YtkaehoihpgelnaaDoorCQ
import Derived.Test.YtkaehoihpgelnaaDoorCR
import Derived.Test.YtkaehoihpgelnaaDoorCS
import Derived.Test.YtkaehoihpgelnaaDoorCT
import Derived.Test.YtkaehoihpgelnaaDoorCW
set_option linter.unusedSimpArgs false
set_option linter.unusedVariables false
set_option maxRecDepth 100000
namespace Go.Proofs.YtkaehoihpgelnaaDoor
open Go.RowKit
def headE (h : List Int) : Int:=if h.length ≠ 3 then 3 else if ¬ (∀ v ∈ h,0 ≤ v ∧ v ≤ 1200) then 2 else if ∀ v ∈ h,v = 0 then 8 else 0
theorem linD_head (x : Rr) (h : List Int) : linD x h = if chkD x ≠ 0 then chkD x else headE h:=rfl
theorem headE_bad {h : List Int} (hl : h.length = 3) {k : Nat} (hk : k < h.length) (hb : ¬ (0 ≤ h[k] ∧ h[k] ≤ 1200)) : headE h = 2:=by
  unfold headE
  rw [if_neg (by omega),if_pos (fun hf => hb (hf _ (List.getElem_mem hk)))]
set_option maxHeartbeats 3200000 in
theorem headed_any (a : Option Addr) (cap : Nat) (h0 h1 h2 : Int) (w : World) (hrow : SRow ic 1 w a cap [h0,h1,h2]) :
    Calls Tryd.prog 91 #[.slice a 3 cap] w fun e w' => e = .returned (.int .i64 (headE [h0,h1,h2])) ∧ w = w':=by
  obtain ⟨h,hh⟩ : ∃ h,h = [h0,h1,h2]:=⟨_,rfl⟩
  have hl : h.length = 3:=by rw [hh];rfl
  rw [← hh] at hrow ⊢
  have HR:=Lib.hid hrow
  have HH:=Lib.hid hh;have HL:=Lib.hid hl
  have hcap:=hrow.1
  rw [hl] at hcap
  have hmax:=hrow.2.1
  unfold maxLen at hmax
  obtain ⟨b,o,rfl,_,_⟩:=hrow.2.2.2 (by omega)
  clear hrow hh hl
  have hun : undef = Value.tuple #[]:=rfl
  go_enter Tryd.func91,Tryd.ntmps91
  go_wp2
  go_loopw [3] (fun i wr => ∃ k : Nat,i = .int .i64 k ∧ k ≤ 3 ∧ w = wr ∧ Hid (∀ j (h9 : j < h.length),j < k → 0 ≤ h[j] ∧ h[j] ≤ 1200)) (fun i _ => 3 - (intOf i).toNat)
  case atStart => exact ⟨0,rfl,Nat.zero_le _,rfl,Lib.hid (fun j h h2 => absurd h2 (by omega))⟩
  case round =>
    obtain ⟨k,rfl,hk,rfl,HK⟩:=hrel
    by_cases hlt : k < 3
    · have hltz : (k : Int) < 3:=by omega
      have tl : decide ((k : Int) < 3) = true:=decide_eq_true hltz
      have hkl : k < h.length:=by rw [HL.out];exact hlt
      have c1:=(srow_cellE HR.out hkl).2
      obtain ⟨x,hx⟩ : ∃ x,x = h[k]:=⟨_,rfl⟩
      rw [← hx] at c1
      by_cases g1 : x < 0
      · have t1 : decide (x < 0) = true:=decide_eq_true g1
        have e9 : headE h = 2:=headE_bad HL.out hkl (by rw [← hx];omega)
        have E9:=Lib.hid e9
        clear hx HK e9 g1
        go_wp2
        go_ret
        exact ⟨by rw [E9.out];rfl,rfl⟩
      · have t1 : decide (x < 0) = false:=decide_eq_false g1
        by_cases g2 : 1200 < x
        · have t2 : decide (1200 < x) = true:=decide_eq_true g2
          have e9 : headE h = 2:=headE_bad HL.out hkl (by rw [← hx];omega)
          have E9:=Lib.hid e9
          clear hx HK e9 g1 g2
          go_wp2
          go_ret
          exact ⟨by rw [E9.out];rfl,rfl⟩
        · have t2 : decide (1200 < x) = false:=decide_eq_false g2
          have HK2 : Hid (∀ j (h9 : j < h.length),j < k + 1 → 0 ≤ h[j] ∧ h[j] ≤ 1200):=Lib.hid (fun j h h3 => by
            rcases Nat.lt_or_ge j k with h4|h4
            · exact HK.out j h h4
            · obtain rfl : j = k:=by omega
              rw [← hx];omega)
          clear hx HK g1 g2
          go_wp2
          go_roundw
          case rel => exact ⟨k + 1,by go_num,by omega,by trivial,HK2⟩
          case measure => simp [intOf];omega
    · obtain rfl : k = 3:=by omega
      have tl : decide (((3 : Nat) : Int) < 3) = false:=rfl
      have c0:=(srow_cellE HR.out (j:=0) (by rw [HL.out];omega)).2
      have c1:=(srow_cellE HR.out (j:=1) (by rw [HL.out];omega)).2
      have c2:=(srow_cellE HR.out (j:=2) (by rw [HL.out];omega)).2
      have rg : ∀ v ∈ h,0 ≤ v ∧ v ≤ 1200:=fun v hv => by
        obtain ⟨i,hi,rfl⟩:=List.getElem_of_mem hv
        exact HK.out i hi (by rw [HL.out] at hi;exact hi)
      have e0 : ∀ h9,h[0]'h9 = h0:=by rw [HH.out];intro _;rfl
      have e1 : ∀ h9,h[1]'h9 = h1:=by rw [HH.out];intro _;rfl
      have e2 : ∀ h9,h[2]'h9 = h2:=by rw [HH.out];intro _;rfl
      rw [e0,Nat.add_zero] at c0;rw [e1] at c1;rw [e2] at c2
      have hE : headE h = if h0 = 0 ∧ h1 = 0 ∧ h2 = 0 then 8 else 0:=by
        unfold headE
        rw [if_neg (by rw [HL.out];decide),if_neg (by simpa using rg),HH.out]
        by_cases g : h0 = 0 ∧ h1 = 0 ∧ h2 = 0
        · rw [if_pos g,if_pos (by simp [g])]
        · rw [if_neg g,if_neg (by simpa using g)]
      have HE:=Lib.hid hE
      clear HK rg e0 e1 e2 hE
      by_cases g0 : h0 = 0
      · by_cases g1 : h1 = 0
        · by_cases g2 : h2 = 0
          · have v : Hid (headE h = 8):=Lib.hid (by rw [HE.out,if_pos ⟨g0,g1,g2⟩])
            have s0 : (h0 == 0) = true:=by simpa using g0
            have s1 : (h1 == 0) = true:=by simpa using g1
            have s2 : (h2 == 0) = true:=by simpa using g2
            clear HE HH g0 g1 g2
            go_wp2
            go_ret
            exact ⟨by rw [v.out];rfl,rfl⟩
          · have v : Hid (headE h = 0):=Lib.hid (by rw [HE.out,if_neg (fun x => g2 x.2.2)])
            have s0 : (h0 == 0) = true:=by simpa using g0
            have s1 : (h1 == 0) = true:=by simpa using g1
            have s2 : (h2 == 0) = false:=by simpa using g2
            clear HE HH g0 g1 g2
            go_wp2
            go_ret
            exact ⟨by rw [v.out];rfl,rfl⟩
        · have v : Hid (headE h = 0):=Lib.hid (by rw [HE.out,if_neg (fun x => g1 x.2.1)])
          have s0 : (h0 == 0) = true:=by simpa using g0
          have s1 : (h1 == 0) = false:=by simpa using g1
          clear HE HH g0 g1
          go_wp2
          go_ret
          exact ⟨by rw [v.out];rfl,rfl⟩
      · have v : Hid (headE h = 0):=Lib.hid (by rw [HE.out,if_neg (fun x => g0 x.1)])
        have s0 : (h0 == 0) = false:=by simpa using g0
        clear HE HH g0
        go_wp2
        go_ret
        exact ⟨by rw [v.out];rfl,rfl⟩
set_option maxHeartbeats 3200000 in
theorem copied_any (aw : Option Addr) (cw : Nat) (ad : Option Addr) (cd : Nat) (w0 w1 w2 d0 d1 d2 q t : Int) (w : World) (hw : SRow ic 1 w aw cw [w0,w1,w2]) (hd : SRow ic 1 w ad cd [d0,d1,d2]) :
    Calls Tryd.prog 93 #[.agg #[.slice aw 3 cw,.int .i64 q,.slice ad 3 cd,.int .i64 t]] w fun e w' => ∃ v1 v2,e = .returned (.agg #[v1,.int .i64 q,v2,.int .i64 t]) ∧ w'.ownsRow w.heap.size 3 1 v1 3 (rowC ic [w0,w1,w2]) ∧ (∃ m,w.heap.size ≤ m ∧ (∀ k,v1.ownBlock = some k → k < m) ∧ w'.ownsRow m 3 1 v2 3 (rowC ic [d0,d1,d2])) ∧ Below w.heap.size w w':=by
  obtain ⟨i0,hi,hz0,hz1,hz2⟩:=info_parts infoI64
  have Hi:=Lib.hid hi;have Hz0:=Lib.hid hz0;have Hz1:=Lib.hid hz1;have Hz2:=Lib.hid hz2
  obtain ⟨bw,ow,rfl,lw,_⟩:=hw.2.2.2 (by simp)
  obtain ⟨bd,od,rfl,ld,_⟩:=hd.2.2.2 (by simp)
  have CW:=Lib.hid (fun (j : Nat) (u : Value) (hj : (rowC ic [w0,w1,w2])[j]? = some u) => row_cellsE hw hj)
  have CD:=Lib.hid (fun (j : Nat) (u : Value) (hj : (rowC ic [d0,d1,d2])[j]? = some u) => row_cellsE hd hj)
  clear hi hz0 hz1 hz2 hw hd
  go_enter Tryd.func93,Tryd.ntmps93
  obtain ⟨V,eV⟩ : ∃ v,v = (w.alloc (.cells #[.slice (some ⟨bw,ow,none⟩) 3 cw,.int .i64 q,.slice (some ⟨bd,od,none⟩) 3 cd,.int .i64 t] 26)).alloc (.cells #[.slice none 0 0,.int .i64 0,.slice none 0 0,.int .i64 0] 26):=⟨_,rfl⟩
  have k0 : blk V w.heap.size = some #[.slice (some ⟨bw,ow,none⟩) 3 cw,.int .i64 q,.slice (some ⟨bd,od,none⟩) 3 cd,.int .i64 t]:=(by rw [eV];exact blk_alloc (blk_alloc_new _ _ _ rfl) _)
  have z0 : blk V (w.heap.size + 1) = some #[.slice none 0 0,.int .i64 0,.slice none 0 0,.int .i64 0]:=(by rw [eV];exact blk_alloc_new _ _ _ (by simp))
  have b0 : Below w.heap.size w V:=(by rw [eV];exact ((Below.refl _ _).alloc (Nat.le_refl _) _).alloc (by simp) _)
  go_upto_region 1 with fail
  rw [← eV]
  clear eV
  have n0:=kn k0
  have gz:=blk_lt z0
  go_upto_region 2 with (at_builtin;go_loud ((refine wpList_append_own_at _ rfl _ _ 22 rfl V.heap.size 3 i0 (.int .i64 0) 1 8 Tryd.underlying22 Hi.out Hz0.out Hz1.out Hz2.out rfl (by decide) (.slice (some ⟨V.heap.size,0,none⟩) 0 0) 0 [] rfl (own_emptyE V _) ⟨bw,ow,none⟩ 3 cw (rowC ic [w0,w1,w2]) rfl rfl (fun j u hj => (by rw [Addr.add_mid];exact ((b0.alloc b0.size _).cell (p:=⟨bw,ow + j,none⟩) lw).trans (CW.out j u hj))) (ic_onesE _) (by unfold maxLen;omega) (by omega) (by simp) ?_);(intro v1 W1 ho1 hg1 _ hob1);(have k1:=(blk_kept (hg1.block w.heap.size (by have:=blk_lt k0;simp;omega) (fun e => by have h9 : V.heap.size = w.heap.size:=Option.some.inj e.symm;have:=blk_lt k0;omega))).trans (blk_alloc k0 _));(have z1:=(blk_kept (hg1.block (w.heap.size + 1) (by simp;omega) (fun e => by have h9 : V.heap.size = w.heap.size + 1:=Option.some.inj e.symm;omega))).trans (blk_alloc z0 _));(have b1:=(b0.alloc b0.size (.cells #[] 3)).grown hg1 (by have:=b0.size;simp;omega) (fun k e => by have h9 : V.heap.size = k:=Option.some.inj e;have:=b0.size;omega));(have n1:=kn k1);(have ho1' : W1.ownsRow V.heap.size 3 1 v1 [w0,w1,w2].length (rowC ic [w0,w1,w2]):=ho1);(obtain ⟨a1,c1,e1,hz1,hz2⟩:=srow_of_owns ic_len ho1');subst e1;(have HO1:=Lib.hid ho1');(have LB1:=Lib.hid (fun k e => (ho1'.lt k e).2));clear ho1 ho1' hg1 hob1 n0 k0 z0 b0 hz1 hz2))
  obtain ⟨X,eX⟩ : ∃ v,v = W1.setCell ⟨w.heap.size,0,none⟩ (.slice a1 3 c1):=⟨_,rfl⟩
  have kX : blk X w.heap.size = some #[.slice a1 3 c1,.int .i64 q,.slice (some ⟨bd,od,none⟩) 3 cd,.int .i64 t]:=(by rw [eX];exact blk_set k1)
  have zX : blk X (w.heap.size + 1) = some #[.slice none 0 0,.int .i64 0,.slice none 0 0,.int .i64 0]:=(by rw [eX];exact blk_other z1 (show w.heap.size + 1 ≠ w.heap.size by omega))
  have bX : Below w.heap.size w X:=(by rw [eX];exact b1.setCell (Nat.le_refl _) _)
  have OX:=Lib.hid (show X.ownsRow V.heap.size 3 1 (.slice a1 3 c1) 3 (rowC ic [w0,w1,w2]) from by rw [eX];exact owns_setO HO1.out (show w.heap.size < V.heap.size by omega) 0 (.slice a1 3 c1))
  rw [← eX]
  clear eX k1 z1 b1 n1 HO1 LB1
  have nX:=kn kX
  have gX:=blk_lt zX
  go_upto_region 3 with (at_builtin;go_loud ((refine wpList_append_own_at _ rfl _ _ 22 rfl X.heap.size 3 i0 (.int .i64 0) 1 8 Tryd.underlying22 Hi.out Hz0.out Hz1.out Hz2.out rfl (by decide) (.slice (some ⟨X.heap.size,0,none⟩) 0 0) 0 [] rfl (own_emptyE X _) ⟨bd,od,none⟩ 3 cd (rowC ic [d0,d1,d2]) rfl rfl (fun j u hj => (by rw [Addr.add_mid];exact ((bX.alloc bX.size _).cell (p:=⟨bd,od + j,none⟩) ld).trans (CD.out j u hj))) (ic_onesE _) (by unfold maxLen;omega) (by omega) (by simp) ?_);(intro v2 W2 ho2 hg2 _ hob2);(have k2:=(blk_kept (hg2.block w.heap.size (by have:=blk_lt kX;simp;omega) (fun e => by have h9 : X.heap.size = w.heap.size:=Option.some.inj e.symm;have:=blk_lt kX;omega))).trans (blk_alloc kX _));(have z2:=(blk_kept (hg2.block (w.heap.size + 1) (by simp;omega) (fun e => by have h9 : X.heap.size = w.heap.size + 1:=Option.some.inj e.symm;omega))).trans (blk_alloc zX _));(have b2:=(bX.alloc bX.size (.cells #[] 3)).grown hg2 (by have:=bX.size;simp;omega) (fun k e => by have h9 : X.heap.size = k:=Option.some.inj e;have:=bX.size;omega));(have n2:=kn k2);(have ho2' : W2.ownsRow X.heap.size 3 1 v2 [d0,d1,d2].length (rowC ic [d0,d1,d2]):=ho2);(have o12:=owns_keptE (OX.out.alloc (.cells #[] 3)) hg2 (fun k e e2 => by have h9 : X.heap.size = k:=Option.some.inj e2;have:=(OX.out.lt k e).2;omega));(obtain ⟨a2,c2,e2,hz1,hz2⟩:=srow_of_owns ic_len ho2');subst e2;(have HO2:=Lib.hid ho2');(have HO1:=Lib.hid o12);clear ho2 ho2' o12 hg2 hob2 nX kX zX bX hz1 hz2))
  have LX:=Lib.hid (fun k e => (OX.out.lt k e).2)
  obtain ⟨Y,eY⟩ : ∃ v,v = W2.setCell ⟨w.heap.size,2,none⟩ (.slice a2 3 c2):=⟨_,rfl⟩
  have kY : blk Y w.heap.size = some #[.slice a1 3 c1,.int .i64 q,.slice a2 3 c2,.int .i64 t]:=(by rw [eY];exact blk_set k2)
  have zY : blk Y (w.heap.size + 1) = some #[.slice none 0 0,.int .i64 0,.slice none 0 0,.int .i64 0]:=(by rw [eY];exact blk_other z2 (show w.heap.size + 1 ≠ w.heap.size by omega))
  have bY : Below w.heap.size w Y:=(by rw [eY];exact b2.setCell (Nat.le_refl _) _)
  have O1:=Lib.hid (show Y.ownsRow V.heap.size 3 1 (.slice a1 3 c1) 3 (rowC ic [w0,w1,w2]) from by rw [eY];exact owns_setO HO1.out (show w.heap.size < V.heap.size by omega) 2 (.slice a2 3 c2))
  have O2:=Lib.hid (show Y.ownsRow X.heap.size 3 1 (.slice a2 3 c2) 3 (rowC ic [d0,d1,d2]) from by rw [eY];exact owns_setO HO2.out (show w.heap.size < X.heap.size by omega) 2 (.slice a2 3 c2))
  rw [← eY]
  clear eY k2 z2 b2 n2 HO1 HO2
  have nY:=kn kY
  have mY:=kn zY
  go_wp2
  have L9 : w.heap.size + 1 < V.heap.size:=gz
  have L8 : w.heap.size + 1 < X.heap.size:=gX
  refine ret_blk (b:=w.heap.size + 1) (c:=#[.slice a1 3 c1,.int .i64 q,.slice a2 3 c2,.int .i64 t]) (v:=.agg #[.slice a1 3 c1,.int .i64 q,.slice a2 3 c2,.int .i64 t]) (by have h9:=blk_set (i:=3) (v:=.int .i64 t) (blk_set (i:=2) (v:=.slice a2 3 c2) (blk_set (i:=1) (v:=.int .i64 q) (blk_set (i:=0) (v:=.slice a1 3 c1) zY)));exact h9) (fun W' hc => by simp [results,Tryd.results93,go_sem,hc]) rfl ⟨_,_,rfl,?_,⟨X.heap.size,by omega,LX.out,?_⟩,?_⟩
  · exact owns_base (owns_setO (owns_setO (owns_setO (owns_setO O1.out L9 _ _) L9 _ _) L9 _ _) L9 _ _) (by omega)
  · exact owns_setO (owns_setO (owns_setO (owns_setO O2.out L8 _ _) L8 _ _) L8 _ _) L8 _ _
  · exact (((bY.setCell (Nat.le_succ _) _).setCell (Nat.le_succ _) _).setCell (Nat.le_succ _) _).setCell (Nat.le_succ _) _
set_option maxHeartbeats 6400000 in
theorem rpass_any (g gw hb cw cd : Nat) (sp spw : List Value) (w0 w1 w2 d0 d1 d2 q t h0 h1 h2 : Int) (w : World) (hx : okD ⟨[w0,w1,w2],[d0,d1,d2],q,t⟩) (hwg : gw ≠ g) (hhg : hb ≠ g)
  (kg : blk w g = some (rowC ic [d0,d1,d2] ++ sp).toArray) (kw : blk w gw = some (rowC ic [w0,w1,w2] ++ spw).toArray) (kh : blk w hb = some #[.int .i64 h0,.int .i64 h1,.int .i64 h2]) :
  Calls Tryd.prog 109 #[.agg #[.slice (some ⟨gw,0,none⟩) 3 cw,.int .i64 q,.slice (some ⟨g,0,none⟩) 3 cd,.int .i64 t],.slice (some ⟨hb,0,none⟩) 3 3] w fun e w' => e = .returned (.agg #[.slice (some ⟨gw,0,none⟩) 3 cw,.int .i64 q,.slice (some ⟨g,0,none⟩) 3 cd,.int .i64 (passD ⟨[w0,w1,w2],[d0,d1,d2],q,t⟩ [h0,h1,h2]).t]) ∧ w.grownBy w' (some g) ∧ blk w' g = some (rowC ic (passD ⟨[w0,w1,w2],[d0,d1,d2],q,t⟩ [h0,h1,h2]).d ++ sp).toArray ∧ blk w' gw = some (rowC ic [w0,w1,w2] ++ spw).toArray ∧ blk w' hb = some #[.int .i64 h0,.int .i64 h1,.int .i64 h2]:=by
 have ht : 0 ≤ t ∧ t ≤ 2:=hx.2.2.2.2.2
 have dd:=hx.2.2.2.2.1
 have da:=dd d0 (by simp)
 have db:=dd d1 (by simp)
 have dc:=dd d2 (by simp)
 have q1 : 1 ≤ q ∧ q ≤ 1200:=hx.2.2.2.1
 have hw0:=hx.2.2.1 w0 (by simp);have hw1:=hx.2.2.1 w1 (by simp);have hw2:=hx.2.2.1 w2 (by simp)
 obtain ⟨M0,hM0⟩ : ∃ M,w0 * q = M:=⟨_,rfl⟩
 obtain ⟨M1,hM1⟩ : ∃ M,w1 * q = M:=⟨_,rfl⟩
 obtain ⟨M2,hM2⟩ : ∃ M,w2 * q = M:=⟨_,rfl⟩
 have bM : ∀ x M : Int,1 ≤ x ∧ x ≤ 100 → x * q = M → 0 ≤ M ∧ M ≤ 120000:=fun x M h9 h8 => by
  have e1 : 0 ≤ x * q:=Int.mul_nonneg (by omega) (by omega)
  have e2 : x * q ≤ 100 * 1200:=Int.mul_le_mul (by omega) (by omega) (by omega) (by omega)
  omega
 have bM0:=bM w0 M0 hw0 hM0;have bM1:=bM w1 M1 hw1 hM1;have bM2:=bM w2 M2 hw2 hM2
 have HMM0:=Lib.hid hM0;have HMM1:=Lib.hid hM1;have HMM2:=Lib.hid hM2
 clear bM hM0 hM1 hM2 dd hx
 have lg:=blk_lt kg;have lw:=blk_lt kw;have lh:=blk_lt kh
 obtain ⟨V,eV⟩ : ∃ v,v = (w.alloc (.cells #[.slice (some ⟨gw,0,none⟩) 3 cw,.int .i64 q,.slice (some ⟨g,0,none⟩) 3 cd,.int .i64 t] 26)).alloc (.cells #[.slice none 0 0,.int .i64 0,.slice none 0 0,.int .i64 0] 26):=⟨_,rfl⟩
 obtain ⟨c,ec⟩ : ∃ n,n = w.heap.size:=⟨_,rfl⟩
 obtain ⟨zb,ez⟩ : ∃ n,n = w.heap.size + 1:=⟨_,rfl⟩
 have kcV : blk V c = some #[.slice (some ⟨gw,0,none⟩) 3 cw,.int .i64 q,.slice (some ⟨g,0,none⟩) 3 cd,.int .i64 t]:=(by rw [eV,ec];exact blk_alloc (blk_alloc_new _ _ _ rfl) _)
 have kzV : blk V zb = some #[.slice none 0 0,.int .i64 0,.slice none 0 0,.int .i64 0]:=(by rw [eV,ez];exact blk_alloc_new _ _ _ (by simp))
 have kgV : blk V g = some (rowC ic [d0,d1,d2] ++ sp).toArray:=(by rw [eV];exact blk_alloc (blk_alloc kg _) _)
 have kwV : blk V gw = some (rowC ic [w0,w1,w2] ++ spw).toArray:=(by rw [eV];exact blk_alloc (blk_alloc kw _) _)
 have khV : blk V hb = some #[.int .i64 h0,.int .i64 h1,.int .i64 h2]:=(by rw [eV];exact blk_alloc (blk_alloc kh _) _)
 have bV : w.grownBy V (some g):=grown_thenB (igrown_self w g) (by rw [eV];exact ((Below.refl _ _).alloc (Nat.le_refl _) _).alloc (by simp) _)
 have ne_g_c : g ≠ c:=by omega
 have ne_gw_c : gw ≠ c:=by omega
 have ne_hb_c : hb ≠ c:=by omega
 have ne_zb_c : zb ≠ c:=by omega
 have ne_c_g : c ≠ g:=by omega
 have ne_gw_g : gw ≠ g:=hwg
 have ne_hb_g : hb ≠ g:=hhg
 have ne_zb_g : zb ≠ g:=by omega
 have ne_g_zb : g ≠ zb:=by omega
 have ne_gw_zb : gw ≠ zb:=by omega
 have ne_hb_zb : hb ≠ zb:=by omega
 have gr_c : some g = some c ∨ w.heap.size ≤ c:=.inr (by omega)
 have gr_g : some g = some g ∨ w.heap.size ≤ g:=.inl rfl
 have gr_zb : some g = some zb ∨ w.heap.size ≤ zb:=.inr (by omega)
 have HEV:=Lib.hid eV;have HCB:=Lib.hid ec;have HZB:=Lib.hid ez
 clear eV ec ez kg kw kh lg lw lh
 go_enter Tryd.func109,Tryd.ntmps109
 go_upto_region 1 with fail
 rw [← HZB.out,← HEV.out,← HCB.out]
 rcases (by omega : t = 0 ∨ t = 1 ∨ t = 2) with rfl|rfl|rfl
 ·have nV:=kn kcV
  have mV:=kn khV
  have fV:=(kn kgV).2.1
  have g0V : V.cell? ⟨g,0,none⟩ = some (.int .i64 (d0)):=blk_cellI (M:=[d0,d1,d2]) (k:=0) rfl kgV
  have g1V : V.cell? ⟨g,1,none⟩ = some (.int .i64 (d1)):=blk_cellI (M:=[d0,d1,d2]) (k:=1) rfl kgV
  have g2V : V.cell? ⟨g,2,none⟩ = some (.int .i64 (d2)):=blk_cellI (M:=[d0,d1,d2]) (k:=2) rfl kgV
  have w0V : V.cell? ⟨gw,0,none⟩ = some (.int .i64 w0):=blk_cellI (M:=[w0,w1,w2]) (k:=0) rfl kwV
  have w1V : V.cell? ⟨gw,1,none⟩ = some (.int .i64 w1):=blk_cellI (M:=[w0,w1,w2]) (k:=1) rfl kwV
  have w2V : V.cell? ⟨gw,2,none⟩ = some (.int .i64 w2):=blk_cellI (M:=[w0,w1,w2]) (k:=2) rfl kwV
  by_cases z0 : h0 = 0
  ·have x1 : (h0 == 0) = true:=by simp [z0]
   have Z9:=Lib.hid z0
   clear z0
   go_upto_region 3 with fail
   obtain ⟨U1,eU1⟩ : ∃ v,v = V.setCell ⟨g,0,none⟩ (.int .i64 (0)):=⟨_,rfl⟩
   have kcU1 : blk U1 c = some #[.slice (some ⟨gw,0,none⟩) 3 cw,.int .i64 q,.slice (some ⟨g,0,none⟩) 3 cd,.int .i64 0]:=(by rw [eU1];exact blk_other kcV ne_c_g)
   have kgU1 : blk U1 g = some (rowC ic [0,d1,d2] ++ sp).toArray:=(by rw [eU1];exact blk_setI (M:=[d0,d1,d2]) (k:=0) (x:=(d0)) rfl kgV)
   have kwU1 : blk U1 gw = some (rowC ic [w0,w1,w2] ++ spw).toArray:=(by rw [eU1];exact blk_other kwV ne_gw_g)
   have khU1 : blk U1 hb = some #[.int .i64 h0,.int .i64 h1,.int .i64 h2]:=(by rw [eU1];exact blk_other khV ne_hb_g)
   have kzU1 : blk U1 zb = some #[.slice none 0 0,.int .i64 0,.slice none 0 0,.int .i64 0]:=(by rw [eU1];exact blk_other kzV ne_zb_g)
   have bU1 : w.grownBy U1 (some g):=(by rw [eU1];exact grown_setCell _ _ bV gr_g)
   rw [← eU1]
   clear eU1
   clear nV mV fV g0V g1V g2V w0V w1V w2V
   have nU1:=kn kcU1
   have mU1:=kn khU1
   have fU1:=(kn kgU1).2.1
   have g0U1 : U1.cell? ⟨g,0,none⟩ = some (.int .i64 (0)):=blk_cellI (M:=[0,d1,d2]) (k:=0) rfl kgU1
   have g1U1 : U1.cell? ⟨g,1,none⟩ = some (.int .i64 (d1)):=blk_cellI (M:=[0,d1,d2]) (k:=1) rfl kgU1
   have g2U1 : U1.cell? ⟨g,2,none⟩ = some (.int .i64 (d2)):=blk_cellI (M:=[0,d1,d2]) (k:=2) rfl kgU1
   have w0U1 : U1.cell? ⟨gw,0,none⟩ = some (.int .i64 w0):=blk_cellI (M:=[w0,w1,w2]) (k:=0) rfl kwU1
   have w1U1 : U1.cell? ⟨gw,1,none⟩ = some (.int .i64 w1):=blk_cellI (M:=[w0,w1,w2]) (k:=1) rfl kwU1
   have w2U1 : U1.cell? ⟨gw,2,none⟩ = some (.int .i64 w2):=blk_cellI (M:=[w0,w1,w2]) (k:=2) rfl kwU1
   go_upto_region 4 with fail
   obtain ⟨U2,eU2⟩ : ∃ v,v = U1.setCell ⟨c,3,none⟩ (.int .i64 2):=⟨_,rfl⟩
   have kcU2 : blk U2 c = some #[.slice (some ⟨gw,0,none⟩) 3 cw,.int .i64 q,.slice (some ⟨g,0,none⟩) 3 cd,.int .i64 2]:=(by rw [eU2];exact blk_set kcU1)
   have kgU2 : blk U2 g = some (rowC ic [0,d1,d2] ++ sp).toArray:=(by rw [eU2];exact blk_other kgU1 ne_g_c)
   have kwU2 : blk U2 gw = some (rowC ic [w0,w1,w2] ++ spw).toArray:=(by rw [eU2];exact blk_other kwU1 ne_gw_c)
   have khU2 : blk U2 hb = some #[.int .i64 h0,.int .i64 h1,.int .i64 h2]:=(by rw [eU2];exact blk_other khU1 ne_hb_c)
   have kzU2 : blk U2 zb = some #[.slice none 0 0,.int .i64 0,.slice none 0 0,.int .i64 0]:=(by rw [eU2];exact blk_other kzU1 ne_zb_c)
   have bU2 : w.grownBy U2 (some g):=(by rw [eU2];exact grown_setCell _ _ bU1 gr_c)
   rw [← eU2]
   clear eU2
   clear nU1 mU1 fU1 g0U1 g1U1 g2U1 w0U1 w1U1 w2U1
   have nU2:=kn kcU2
   have mU2:=kn khU2
   have fU2:=(kn kgU2).2.1
   have g0U2 : U2.cell? ⟨g,0,none⟩ = some (.int .i64 (0)):=blk_cellI (M:=[0,d1,d2]) (k:=0) rfl kgU2
   have g1U2 : U2.cell? ⟨g,1,none⟩ = some (.int .i64 (d1)):=blk_cellI (M:=[0,d1,d2]) (k:=1) rfl kgU2
   have g2U2 : U2.cell? ⟨g,2,none⟩ = some (.int .i64 (d2)):=blk_cellI (M:=[0,d1,d2]) (k:=2) rfl kgU2
   have w0U2 : U2.cell? ⟨gw,0,none⟩ = some (.int .i64 w0):=blk_cellI (M:=[w0,w1,w2]) (k:=0) rfl kwU2
   have w1U2 : U2.cell? ⟨gw,1,none⟩ = some (.int .i64 w1):=blk_cellI (M:=[w0,w1,w2]) (k:=1) rfl kwU2
   have w2U2 : U2.cell? ⟨gw,2,none⟩ = some (.int .i64 w2):=blk_cellI (M:=[w0,w1,w2]) (k:=2) rfl kwU2
   by_cases z2 : h2 = 0
   ·have y2 : (h2 == 0) = true:=by simp [z2]
    have e2 : True:=trivial
    have EP:=Lib.hid (show passD ⟨[w0,w1,w2],[d0,d1,d2],q,0⟩ [h0,h1,h2] = ⟨[w0,w1,w2],[0,d1,0],q,2⟩ by simp [passD,at3,Z9.out,z2,e2])
    clear z2 e2
    go_upto_region 7 with fail
    obtain ⟨U3,eU3⟩ : ∃ v,v = U2.setCell ⟨g,2,none⟩ (.int .i64 (0)):=⟨_,rfl⟩
    have kcU3 : blk U3 c = some #[.slice (some ⟨gw,0,none⟩) 3 cw,.int .i64 q,.slice (some ⟨g,0,none⟩) 3 cd,.int .i64 2]:=(by rw [eU3];exact blk_other kcU2 ne_c_g)
    have kgU3 : blk U3 g = some (rowC ic [0,d1,0] ++ sp).toArray:=(by rw [eU3];exact blk_setI (M:=[0,d1,d2]) (k:=2) (x:=(d2)) rfl kgU2)
    have kwU3 : blk U3 gw = some (rowC ic [w0,w1,w2] ++ spw).toArray:=(by rw [eU3];exact blk_other kwU2 ne_gw_g)
    have khU3 : blk U3 hb = some #[.int .i64 h0,.int .i64 h1,.int .i64 h2]:=(by rw [eU3];exact blk_other khU2 ne_hb_g)
    have kzU3 : blk U3 zb = some #[.slice none 0 0,.int .i64 0,.slice none 0 0,.int .i64 0]:=(by rw [eU3];exact blk_other kzU2 ne_zb_g)
    have bU3 : w.grownBy U3 (some g):=(by rw [eU3];exact grown_setCell _ _ bU2 gr_g)
    rw [← eU3]
    clear eU3
    clear nU2 mU2 fU2 g0U2 g1U2 g2U2 w0U2 w1U2 w2U2
    have nU3:=kn kcU3
    have mU3:=kn khU3
    have fU3:=(kn kgU3).2.1
    have g0U3 : U3.cell? ⟨g,0,none⟩ = some (.int .i64 (0)):=blk_cellI (M:=[0,d1,0]) (k:=0) rfl kgU3
    have g1U3 : U3.cell? ⟨g,1,none⟩ = some (.int .i64 (d1)):=blk_cellI (M:=[0,d1,0]) (k:=1) rfl kgU3
    have g2U3 : U3.cell? ⟨g,2,none⟩ = some (.int .i64 (0)):=blk_cellI (M:=[0,d1,0]) (k:=2) rfl kgU3
    have w0U3 : U3.cell? ⟨gw,0,none⟩ = some (.int .i64 w0):=blk_cellI (M:=[w0,w1,w2]) (k:=0) rfl kwU3
    have w1U3 : U3.cell? ⟨gw,1,none⟩ = some (.int .i64 w1):=blk_cellI (M:=[w0,w1,w2]) (k:=1) rfl kwU3
    have w2U3 : U3.cell? ⟨gw,2,none⟩ = some (.int .i64 w2):=blk_cellI (M:=[w0,w1,w2]) (k:=2) rfl kwU3
    have nzU3:=kn kzU3
    go_wp2
    refine ret_blk (b:=zb) (c:=#[.slice (some ⟨gw,0,none⟩) 3 cw,.int .i64 q,.slice (some ⟨g,0,none⟩) 3 cd,.int .i64 2]) (v:=.agg #[.slice (some ⟨gw,0,none⟩) 3 cw,.int .i64 q,.slice (some ⟨g,0,none⟩) 3 cd,.int .i64 2]) (by have h9:=blk_set (i:=3) (v:=.int .i64 2) (blk_set (i:=2) (v:=.slice (some ⟨g,0,none⟩) 3 cd) (blk_set (i:=1) (v:=.int .i64 q) (blk_set (i:=0) (v:=.slice (some ⟨gw,0,none⟩) 3 cw) (kzU3))));exact h9) (fun W' hc => by simp [results,Tryd.results109,go_sem,hc]) rfl ⟨by rw [EP.out],grown_setCell _ _ (grown_setCell _ _ (grown_setCell _ _ (grown_setCell _ _ (bU3) gr_zb) gr_zb) gr_zb) gr_zb,?_,?_,?_⟩
    ·rw [EP.out];exact blk_other (blk_other (blk_other (blk_other kgU3 ne_g_zb) ne_g_zb) ne_g_zb) ne_g_zb
    ·exact blk_other (blk_other (blk_other (blk_other kwU3 ne_gw_zb) ne_gw_zb) ne_gw_zb) ne_gw_zb
    ·exact blk_other (blk_other (blk_other (blk_other khU3 ne_hb_zb) ne_hb_zb) ne_hb_zb) ne_hb_zb
   ·have y2 : (h2 == 0) = false:=by simpa using z2
    have e2 : w2 * q = M2:=HMM2.out
    have EP:=Lib.hid (show passD ⟨[w0,w1,w2],[d0,d1,d2],q,0⟩ [h0,h1,h2] = ⟨[w0,w1,w2],[0,d1,min 1099511627776 (d2 + M2)],q,2⟩ by simp [passD,at3,Z9.out,z2,e2])
    clear z2
    have v2 : IntKind.i64.wrap M2 = M2:=IntWalk.i64_in _ (by omega)
    have v2' : IntKind.i64.wrap (d2 + M2) = d2 + M2:=IntWalk.i64_in _ (by omega)
    go_upto_region 6 with fail
    refine wp_region_tail 22 (by kernel_rfl) (by kernel_rfl) ?_
    intro W0 hE hN
    have j0 : blk W0 c = some #[.slice (some ⟨gw,0,none⟩) 3 cw,.int .i64 q,.slice (some ⟨g,0,none⟩) 3 cd,.int .i64 2]:=(by rw [hE.out];exact kcU2)
    have j1 : blk W0 g = some (rowC ic [0,d1,d2] ++ sp).toArray:=(by rw [hE.out];exact kgU2)
    have j2 : blk W0 gw = some (rowC ic [w0,w1,w2] ++ spw).toArray:=(by rw [hE.out];exact kwU2)
    have j3 : blk W0 hb = some #[.int .i64 h0,.int .i64 h1,.int .i64 h2]:=(by rw [hE.out];exact khU2)
    have j4 : blk W0 zb = some #[.slice none 0 0,.int .i64 0,.slice none 0 0,.int .i64 0]:=(by rw [hE.out];exact kzU2)
    have j9 : w.grownBy W0 (some g):=(by rw [hE.out];exact bU2)
    clear hE
    clear nU2 mU2 fU2 g0U2 g1U2 g2U2 w0U2 w1U2 w2U2
    clear kcU2 kgU2 kwU2 khU2 kzU2 bU2
    have q1:=calm_kn j0
    have q4:=calm_kn j3
    have r0 : ∀ X : Class (Calm W0),X.wd.cell? ⟨g,0,none⟩ = some (.int .i64 (0)):=fun X => blk_cellI (M:=[0,d1,d2]) (k:=0) rfl (blk_below X.ok j1)
    have s0 : ∀ X : Class (Calm W0),X.wd.cell? ⟨gw,0,none⟩ = some (.int .i64 w0):=fun X => blk_cellI (M:=[w0,w1,w2]) (k:=0) rfl (blk_below X.ok j2)
    have r1 : ∀ X : Class (Calm W0),X.wd.cell? ⟨g,1,none⟩ = some (.int .i64 (d1)):=fun X => blk_cellI (M:=[0,d1,d2]) (k:=1) rfl (blk_below X.ok j1)
    have s1 : ∀ X : Class (Calm W0),X.wd.cell? ⟨gw,1,none⟩ = some (.int .i64 w1):=fun X => blk_cellI (M:=[w0,w1,w2]) (k:=1) rfl (blk_below X.ok j2)
    have r2 : ∀ X : Class (Calm W0),X.wd.cell? ⟨g,2,none⟩ = some (.int .i64 (d2)):=fun X => blk_cellI (M:=[0,d1,d2]) (k:=2) rfl (blk_below X.ok j1)
    have s2 : ∀ X : Class (Calm W0),X.wd.cell? ⟨gw,2,none⟩ = some (.int .i64 w2):=fun X => blk_cellI (M:=[w0,w1,w2]) (k:=2) rfl (blk_below X.ok j2)
    simp only [List.take_succ_cons,List.take_zero,List.drop_succ_cons,List.drop_zero]
    repeat (go_big_quiet_step (fail))
    refine wpQuiet_nil ?_
    rintro _ ⟨x',rfl⟩
    have kcU4:=blk_below x'.ok j0
    have kgU4:=blk_below x'.ok j1
    have kwU4:=blk_below x'.ok j2
    have khU4:=blk_below x'.ok j3
    have kzU4:=blk_below x'.ok j4
    have bU4 : w.grownBy x'.wd (some g):=grown_thenB j9 x'.ok
    obtain ⟨U4,hu⟩ : ∃ u,u = x'.wd:=⟨_,rfl⟩
    rw [← hu] at kcU4 kgU4 kwU4 khU4 kzU4 bU4 ⊢
    clear hu x' hN q1 q4 r0 r1 r2 s0 s1 s2 j0 j1 j2 j3 j4 j9
    have nU4:=kn kcU4
    have mU4:=kn khU4
    have fU4:=(kn kgU4).2.1
    have g0U4 : U4.cell? ⟨g,0,none⟩ = some (.int .i64 (0)):=blk_cellI (M:=[0,d1,d2]) (k:=0) rfl kgU4
    have g1U4 : U4.cell? ⟨g,1,none⟩ = some (.int .i64 (d1)):=blk_cellI (M:=[0,d1,d2]) (k:=1) rfl kgU4
    have g2U4 : U4.cell? ⟨g,2,none⟩ = some (.int .i64 (d2)):=blk_cellI (M:=[0,d1,d2]) (k:=2) rfl kgU4
    have w0U4 : U4.cell? ⟨gw,0,none⟩ = some (.int .i64 w0):=blk_cellI (M:=[w0,w1,w2]) (k:=0) rfl kwU4
    have w1U4 : U4.cell? ⟨gw,1,none⟩ = some (.int .i64 w1):=blk_cellI (M:=[w0,w1,w2]) (k:=1) rfl kwU4
    have w2U4 : U4.cell? ⟨gw,2,none⟩ = some (.int .i64 w2):=blk_cellI (M:=[w0,w1,w2]) (k:=2) rfl kwU4
    go_upto_region 7 with fail
    obtain ⟨U3,eU3⟩ : ∃ v,v = U4.setCell ⟨g,2,none⟩ (.int .i64 (min 1099511627776 (d2 + M2))):=⟨_,rfl⟩
    have kcU3 : blk U3 c = some #[.slice (some ⟨gw,0,none⟩) 3 cw,.int .i64 q,.slice (some ⟨g,0,none⟩) 3 cd,.int .i64 2]:=(by rw [eU3];exact blk_other kcU4 ne_c_g)
    have kgU3 : blk U3 g = some (rowC ic [0,d1,min 1099511627776 (d2 + M2)] ++ sp).toArray:=(by rw [eU3];exact blk_setI (M:=[0,d1,d2]) (k:=2) (x:=(d2)) rfl kgU4)
    have kwU3 : blk U3 gw = some (rowC ic [w0,w1,w2] ++ spw).toArray:=(by rw [eU3];exact blk_other kwU4 ne_gw_g)
    have khU3 : blk U3 hb = some #[.int .i64 h0,.int .i64 h1,.int .i64 h2]:=(by rw [eU3];exact blk_other khU4 ne_hb_g)
    have kzU3 : blk U3 zb = some #[.slice none 0 0,.int .i64 0,.slice none 0 0,.int .i64 0]:=(by rw [eU3];exact blk_other kzU4 ne_zb_g)
    have bU3 : w.grownBy U3 (some g):=(by rw [eU3];exact grown_setCell _ _ bU4 gr_g)
    rw [← eU3]
    clear eU3
    clear nU4 mU4 fU4 g0U4 g1U4 g2U4 w0U4 w1U4 w2U4
    have nU3:=kn kcU3
    have mU3:=kn khU3
    have fU3:=(kn kgU3).2.1
    have g0U3 : U3.cell? ⟨g,0,none⟩ = some (.int .i64 (0)):=blk_cellI (M:=[0,d1,min 1099511627776 (d2 + M2)]) (k:=0) rfl kgU3
    have g1U3 : U3.cell? ⟨g,1,none⟩ = some (.int .i64 (d1)):=blk_cellI (M:=[0,d1,min 1099511627776 (d2 + M2)]) (k:=1) rfl kgU3
    have g2U3 : U3.cell? ⟨g,2,none⟩ = some (.int .i64 (min 1099511627776 (d2 + M2))):=blk_cellI (M:=[0,d1,min 1099511627776 (d2 + M2)]) (k:=2) rfl kgU3
    have w0U3 : U3.cell? ⟨gw,0,none⟩ = some (.int .i64 w0):=blk_cellI (M:=[w0,w1,w2]) (k:=0) rfl kwU3
    have w1U3 : U3.cell? ⟨gw,1,none⟩ = some (.int .i64 w1):=blk_cellI (M:=[w0,w1,w2]) (k:=1) rfl kwU3
    have w2U3 : U3.cell? ⟨gw,2,none⟩ = some (.int .i64 w2):=blk_cellI (M:=[w0,w1,w2]) (k:=2) rfl kwU3
    have nzU3:=kn kzU3
    go_wp2
    refine ret_blk (b:=zb) (c:=#[.slice (some ⟨gw,0,none⟩) 3 cw,.int .i64 q,.slice (some ⟨g,0,none⟩) 3 cd,.int .i64 2]) (v:=.agg #[.slice (some ⟨gw,0,none⟩) 3 cw,.int .i64 q,.slice (some ⟨g,0,none⟩) 3 cd,.int .i64 2]) (by have h9:=blk_set (i:=3) (v:=.int .i64 2) (blk_set (i:=2) (v:=.slice (some ⟨g,0,none⟩) 3 cd) (blk_set (i:=1) (v:=.int .i64 q) (blk_set (i:=0) (v:=.slice (some ⟨gw,0,none⟩) 3 cw) (kzU3))));exact h9) (fun W' hc => by simp [results,Tryd.results109,go_sem,hc]) rfl ⟨by rw [EP.out],grown_setCell _ _ (grown_setCell _ _ (grown_setCell _ _ (grown_setCell _ _ (bU3) gr_zb) gr_zb) gr_zb) gr_zb,?_,?_,?_⟩
    ·rw [EP.out];exact blk_other (blk_other (blk_other (blk_other kgU3 ne_g_zb) ne_g_zb) ne_g_zb) ne_g_zb
    ·exact blk_other (blk_other (blk_other (blk_other kwU3 ne_gw_zb) ne_gw_zb) ne_gw_zb) ne_gw_zb
    ·exact blk_other (blk_other (blk_other (blk_other khU3 ne_hb_zb) ne_hb_zb) ne_hb_zb) ne_hb_zb
  ·have x1 : (h0 == 0) = false:=by simpa using z0
   have Z9:=Lib.hid z0
   clear z0
   go_upto_region 4 with fail
   obtain ⟨U2,eU2⟩ : ∃ v,v = V.setCell ⟨c,3,none⟩ (.int .i64 2):=⟨_,rfl⟩
   have kcU2 : blk U2 c = some #[.slice (some ⟨gw,0,none⟩) 3 cw,.int .i64 q,.slice (some ⟨g,0,none⟩) 3 cd,.int .i64 2]:=(by rw [eU2];exact blk_set kcV)
   have kgU2 : blk U2 g = some (rowC ic [d0,d1,d2] ++ sp).toArray:=(by rw [eU2];exact blk_other kgV ne_g_c)
   have kwU2 : blk U2 gw = some (rowC ic [w0,w1,w2] ++ spw).toArray:=(by rw [eU2];exact blk_other kwV ne_gw_c)
   have khU2 : blk U2 hb = some #[.int .i64 h0,.int .i64 h1,.int .i64 h2]:=(by rw [eU2];exact blk_other khV ne_hb_c)
   have kzU2 : blk U2 zb = some #[.slice none 0 0,.int .i64 0,.slice none 0 0,.int .i64 0]:=(by rw [eU2];exact blk_other kzV ne_zb_c)
   have bU2 : w.grownBy U2 (some g):=(by rw [eU2];exact grown_setCell _ _ bV gr_c)
   rw [← eU2]
   clear eU2
   clear nV mV fV g0V g1V g2V w0V w1V w2V
   have nU2:=kn kcU2
   have mU2:=kn khU2
   have fU2:=(kn kgU2).2.1
   have g0U2 : U2.cell? ⟨g,0,none⟩ = some (.int .i64 (d0)):=blk_cellI (M:=[d0,d1,d2]) (k:=0) rfl kgU2
   have g1U2 : U2.cell? ⟨g,1,none⟩ = some (.int .i64 (d1)):=blk_cellI (M:=[d0,d1,d2]) (k:=1) rfl kgU2
   have g2U2 : U2.cell? ⟨g,2,none⟩ = some (.int .i64 (d2)):=blk_cellI (M:=[d0,d1,d2]) (k:=2) rfl kgU2
   have w0U2 : U2.cell? ⟨gw,0,none⟩ = some (.int .i64 w0):=blk_cellI (M:=[w0,w1,w2]) (k:=0) rfl kwU2
   have w1U2 : U2.cell? ⟨gw,1,none⟩ = some (.int .i64 w1):=blk_cellI (M:=[w0,w1,w2]) (k:=1) rfl kwU2
   have w2U2 : U2.cell? ⟨gw,2,none⟩ = some (.int .i64 w2):=blk_cellI (M:=[w0,w1,w2]) (k:=2) rfl kwU2
   by_cases z2 : h2 = 0
   ·have y2 : (h2 == 0) = true:=by simp [z2]
    have e2 : True:=trivial
    have EP:=Lib.hid (show passD ⟨[w0,w1,w2],[d0,d1,d2],q,0⟩ [h0,h1,h2] = ⟨[w0,w1,w2],[d0,d1,0],q,2⟩ by simp [passD,at3,Z9.out,z2,e2])
    clear z2 e2
    go_upto_region 7 with fail
    obtain ⟨U3,eU3⟩ : ∃ v,v = U2.setCell ⟨g,2,none⟩ (.int .i64 (0)):=⟨_,rfl⟩
    have kcU3 : blk U3 c = some #[.slice (some ⟨gw,0,none⟩) 3 cw,.int .i64 q,.slice (some ⟨g,0,none⟩) 3 cd,.int .i64 2]:=(by rw [eU3];exact blk_other kcU2 ne_c_g)
    have kgU3 : blk U3 g = some (rowC ic [d0,d1,0] ++ sp).toArray:=(by rw [eU3];exact blk_setI (M:=[d0,d1,d2]) (k:=2) (x:=(d2)) rfl kgU2)
    have kwU3 : blk U3 gw = some (rowC ic [w0,w1,w2] ++ spw).toArray:=(by rw [eU3];exact blk_other kwU2 ne_gw_g)
    have khU3 : blk U3 hb = some #[.int .i64 h0,.int .i64 h1,.int .i64 h2]:=(by rw [eU3];exact blk_other khU2 ne_hb_g)
    have kzU3 : blk U3 zb = some #[.slice none 0 0,.int .i64 0,.slice none 0 0,.int .i64 0]:=(by rw [eU3];exact blk_other kzU2 ne_zb_g)
    have bU3 : w.grownBy U3 (some g):=(by rw [eU3];exact grown_setCell _ _ bU2 gr_g)
    rw [← eU3]
    clear eU3
    clear nU2 mU2 fU2 g0U2 g1U2 g2U2 w0U2 w1U2 w2U2
    have nU3:=kn kcU3
    have mU3:=kn khU3
    have fU3:=(kn kgU3).2.1
    have g0U3 : U3.cell? ⟨g,0,none⟩ = some (.int .i64 (d0)):=blk_cellI (M:=[d0,d1,0]) (k:=0) rfl kgU3
    have g1U3 : U3.cell? ⟨g,1,none⟩ = some (.int .i64 (d1)):=blk_cellI (M:=[d0,d1,0]) (k:=1) rfl kgU3
    have g2U3 : U3.cell? ⟨g,2,none⟩ = some (.int .i64 (0)):=blk_cellI (M:=[d0,d1,0]) (k:=2) rfl kgU3
    have w0U3 : U3.cell? ⟨gw,0,none⟩ = some (.int .i64 w0):=blk_cellI (M:=[w0,w1,w2]) (k:=0) rfl kwU3
    have w1U3 : U3.cell? ⟨gw,1,none⟩ = some (.int .i64 w1):=blk_cellI (M:=[w0,w1,w2]) (k:=1) rfl kwU3
    have w2U3 : U3.cell? ⟨gw,2,none⟩ = some (.int .i64 w2):=blk_cellI (M:=[w0,w1,w2]) (k:=2) rfl kwU3
    have nzU3:=kn kzU3
    go_wp2
    refine ret_blk (b:=zb) (c:=#[.slice (some ⟨gw,0,none⟩) 3 cw,.int .i64 q,.slice (some ⟨g,0,none⟩) 3 cd,.int .i64 2]) (v:=.agg #[.slice (some ⟨gw,0,none⟩) 3 cw,.int .i64 q,.slice (some ⟨g,0,none⟩) 3 cd,.int .i64 2]) (by have h9:=blk_set (i:=3) (v:=.int .i64 2) (blk_set (i:=2) (v:=.slice (some ⟨g,0,none⟩) 3 cd) (blk_set (i:=1) (v:=.int .i64 q) (blk_set (i:=0) (v:=.slice (some ⟨gw,0,none⟩) 3 cw) (kzU3))));exact h9) (fun W' hc => by simp [results,Tryd.results109,go_sem,hc]) rfl ⟨by rw [EP.out],grown_setCell _ _ (grown_setCell _ _ (grown_setCell _ _ (grown_setCell _ _ (bU3) gr_zb) gr_zb) gr_zb) gr_zb,?_,?_,?_⟩
    ·rw [EP.out];exact blk_other (blk_other (blk_other (blk_other kgU3 ne_g_zb) ne_g_zb) ne_g_zb) ne_g_zb
    ·exact blk_other (blk_other (blk_other (blk_other kwU3 ne_gw_zb) ne_gw_zb) ne_gw_zb) ne_gw_zb
    ·exact blk_other (blk_other (blk_other (blk_other khU3 ne_hb_zb) ne_hb_zb) ne_hb_zb) ne_hb_zb
   ·have y2 : (h2 == 0) = false:=by simpa using z2
    have e2 : w2 * q = M2:=HMM2.out
    have EP:=Lib.hid (show passD ⟨[w0,w1,w2],[d0,d1,d2],q,0⟩ [h0,h1,h2] = ⟨[w0,w1,w2],[d0,d1,min 1099511627776 (d2 + M2)],q,2⟩ by simp [passD,at3,Z9.out,z2,e2])
    clear z2
    have v2 : IntKind.i64.wrap M2 = M2:=IntWalk.i64_in _ (by omega)
    have v2' : IntKind.i64.wrap (d2 + M2) = d2 + M2:=IntWalk.i64_in _ (by omega)
    go_upto_region 6 with fail
    refine wp_region_tail 22 (by kernel_rfl) (by kernel_rfl) ?_
    intro W0 hE hN
    have j0 : blk W0 c = some #[.slice (some ⟨gw,0,none⟩) 3 cw,.int .i64 q,.slice (some ⟨g,0,none⟩) 3 cd,.int .i64 2]:=(by rw [hE.out];exact kcU2)
    have j1 : blk W0 g = some (rowC ic [d0,d1,d2] ++ sp).toArray:=(by rw [hE.out];exact kgU2)
    have j2 : blk W0 gw = some (rowC ic [w0,w1,w2] ++ spw).toArray:=(by rw [hE.out];exact kwU2)
    have j3 : blk W0 hb = some #[.int .i64 h0,.int .i64 h1,.int .i64 h2]:=(by rw [hE.out];exact khU2)
    have j4 : blk W0 zb = some #[.slice none 0 0,.int .i64 0,.slice none 0 0,.int .i64 0]:=(by rw [hE.out];exact kzU2)
    have j9 : w.grownBy W0 (some g):=(by rw [hE.out];exact bU2)
    clear hE
    clear nU2 mU2 fU2 g0U2 g1U2 g2U2 w0U2 w1U2 w2U2
    clear kcU2 kgU2 kwU2 khU2 kzU2 bU2
    have q1:=calm_kn j0
    have q4:=calm_kn j3
    have r0 : ∀ X : Class (Calm W0),X.wd.cell? ⟨g,0,none⟩ = some (.int .i64 (d0)):=fun X => blk_cellI (M:=[d0,d1,d2]) (k:=0) rfl (blk_below X.ok j1)
    have s0 : ∀ X : Class (Calm W0),X.wd.cell? ⟨gw,0,none⟩ = some (.int .i64 w0):=fun X => blk_cellI (M:=[w0,w1,w2]) (k:=0) rfl (blk_below X.ok j2)
    have r1 : ∀ X : Class (Calm W0),X.wd.cell? ⟨g,1,none⟩ = some (.int .i64 (d1)):=fun X => blk_cellI (M:=[d0,d1,d2]) (k:=1) rfl (blk_below X.ok j1)
    have s1 : ∀ X : Class (Calm W0),X.wd.cell? ⟨gw,1,none⟩ = some (.int .i64 w1):=fun X => blk_cellI (M:=[w0,w1,w2]) (k:=1) rfl (blk_below X.ok j2)
    have r2 : ∀ X : Class (Calm W0),X.wd.cell? ⟨g,2,none⟩ = some (.int .i64 (d2)):=fun X => blk_cellI (M:=[d0,d1,d2]) (k:=2) rfl (blk_below X.ok j1)
    have s2 : ∀ X : Class (Calm W0),X.wd.cell? ⟨gw,2,none⟩ = some (.int .i64 w2):=fun X => blk_cellI (M:=[w0,w1,w2]) (k:=2) rfl (blk_below X.ok j2)
    simp only [List.take_succ_cons,List.take_zero,List.drop_succ_cons,List.drop_zero]
    repeat (go_big_quiet_step (fail))
    refine wpQuiet_nil ?_
    rintro _ ⟨x',rfl⟩
    have kcU4:=blk_below x'.ok j0
    have kgU4:=blk_below x'.ok j1
    have kwU4:=blk_below x'.ok j2
    have khU4:=blk_below x'.ok j3
    have kzU4:=blk_below x'.ok j4
    have bU4 : w.grownBy x'.wd (some g):=grown_thenB j9 x'.ok
    obtain ⟨U4,hu⟩ : ∃ u,u = x'.wd:=⟨_,rfl⟩
    rw [← hu] at kcU4 kgU4 kwU4 khU4 kzU4 bU4 ⊢
    clear hu x' hN q1 q4 r0 r1 r2 s0 s1 s2 j0 j1 j2 j3 j4 j9
    have nU4:=kn kcU4
    have mU4:=kn khU4
    have fU4:=(kn kgU4).2.1
    have g0U4 : U4.cell? ⟨g,0,none⟩ = some (.int .i64 (d0)):=blk_cellI (M:=[d0,d1,d2]) (k:=0) rfl kgU4
    have g1U4 : U4.cell? ⟨g,1,none⟩ = some (.int .i64 (d1)):=blk_cellI (M:=[d0,d1,d2]) (k:=1) rfl kgU4
    have g2U4 : U4.cell? ⟨g,2,none⟩ = some (.int .i64 (d2)):=blk_cellI (M:=[d0,d1,d2]) (k:=2) rfl kgU4
    have w0U4 : U4.cell? ⟨gw,0,none⟩ = some (.int .i64 w0):=blk_cellI (M:=[w0,w1,w2]) (k:=0) rfl kwU4
    have w1U4 : U4.cell? ⟨gw,1,none⟩ = some (.int .i64 w1):=blk_cellI (M:=[w0,w1,w2]) (k:=1) rfl kwU4
    have w2U4 : U4.cell? ⟨gw,2,none⟩ = some (.int .i64 w2):=blk_cellI (M:=[w0,w1,w2]) (k:=2) rfl kwU4
    go_upto_region 7 with fail
    obtain ⟨U3,eU3⟩ : ∃ v,v = U4.setCell ⟨g,2,none⟩ (.int .i64 (min 1099511627776 (d2 + M2))):=⟨_,rfl⟩
    have kcU3 : blk U3 c = some #[.slice (some ⟨gw,0,none⟩) 3 cw,.int .i64 q,.slice (some ⟨g,0,none⟩) 3 cd,.int .i64 2]:=(by rw [eU3];exact blk_other kcU4 ne_c_g)
    have kgU3 : blk U3 g = some (rowC ic [d0,d1,min 1099511627776 (d2 + M2)] ++ sp).toArray:=(by rw [eU3];exact blk_setI (M:=[d0,d1,d2]) (k:=2) (x:=(d2)) rfl kgU4)
    have kwU3 : blk U3 gw = some (rowC ic [w0,w1,w2] ++ spw).toArray:=(by rw [eU3];exact blk_other kwU4 ne_gw_g)
    have khU3 : blk U3 hb = some #[.int .i64 h0,.int .i64 h1,.int .i64 h2]:=(by rw [eU3];exact blk_other khU4 ne_hb_g)
    have kzU3 : blk U3 zb = some #[.slice none 0 0,.int .i64 0,.slice none 0 0,.int .i64 0]:=(by rw [eU3];exact blk_other kzU4 ne_zb_g)
    have bU3 : w.grownBy U3 (some g):=(by rw [eU3];exact grown_setCell _ _ bU4 gr_g)
    rw [← eU3]
    clear eU3
    clear nU4 mU4 fU4 g0U4 g1U4 g2U4 w0U4 w1U4 w2U4
    have nU3:=kn kcU3
    have mU3:=kn khU3
    have fU3:=(kn kgU3).2.1
    have g0U3 : U3.cell? ⟨g,0,none⟩ = some (.int .i64 (d0)):=blk_cellI (M:=[d0,d1,min 1099511627776 (d2 + M2)]) (k:=0) rfl kgU3
    have g1U3 : U3.cell? ⟨g,1,none⟩ = some (.int .i64 (d1)):=blk_cellI (M:=[d0,d1,min 1099511627776 (d2 + M2)]) (k:=1) rfl kgU3
    have g2U3 : U3.cell? ⟨g,2,none⟩ = some (.int .i64 (min 1099511627776 (d2 + M2))):=blk_cellI (M:=[d0,d1,min 1099511627776 (d2 + M2)]) (k:=2) rfl kgU3
    have w0U3 : U3.cell? ⟨gw,0,none⟩ = some (.int .i64 w0):=blk_cellI (M:=[w0,w1,w2]) (k:=0) rfl kwU3
    have w1U3 : U3.cell? ⟨gw,1,none⟩ = some (.int .i64 w1):=blk_cellI (M:=[w0,w1,w2]) (k:=1) rfl kwU3
    have w2U3 : U3.cell? ⟨gw,2,none⟩ = some (.int .i64 w2):=blk_cellI (M:=[w0,w1,w2]) (k:=2) rfl kwU3
    have nzU3:=kn kzU3
    go_wp2
    refine ret_blk (b:=zb) (c:=#[.slice (some ⟨gw,0,none⟩) 3 cw,.int .i64 q,.slice (some ⟨g,0,none⟩) 3 cd,.int .i64 2]) (v:=.agg #[.slice (some ⟨gw,0,none⟩) 3 cw,.int .i64 q,.slice (some ⟨g,0,none⟩) 3 cd,.int .i64 2]) (by have h9:=blk_set (i:=3) (v:=.int .i64 2) (blk_set (i:=2) (v:=.slice (some ⟨g,0,none⟩) 3 cd) (blk_set (i:=1) (v:=.int .i64 q) (blk_set (i:=0) (v:=.slice (some ⟨gw,0,none⟩) 3 cw) (kzU3))));exact h9) (fun W' hc => by simp [results,Tryd.results109,go_sem,hc]) rfl ⟨by rw [EP.out],grown_setCell _ _ (grown_setCell _ _ (grown_setCell _ _ (grown_setCell _ _ (bU3) gr_zb) gr_zb) gr_zb) gr_zb,?_,?_,?_⟩
    ·rw [EP.out];exact blk_other (blk_other (blk_other (blk_other kgU3 ne_g_zb) ne_g_zb) ne_g_zb) ne_g_zb
    ·exact blk_other (blk_other (blk_other (blk_other kwU3 ne_gw_zb) ne_gw_zb) ne_gw_zb) ne_gw_zb
    ·exact blk_other (blk_other (blk_other (blk_other khU3 ne_hb_zb) ne_hb_zb) ne_hb_zb) ne_hb_zb
 ·have nV:=kn kcV
  have mV:=kn khV
  have fV:=(kn kgV).2.1
  have g0V : V.cell? ⟨g,0,none⟩ = some (.int .i64 (d0)):=blk_cellI (M:=[d0,d1,d2]) (k:=0) rfl kgV
  have g1V : V.cell? ⟨g,1,none⟩ = some (.int .i64 (d1)):=blk_cellI (M:=[d0,d1,d2]) (k:=1) rfl kgV
  have g2V : V.cell? ⟨g,2,none⟩ = some (.int .i64 (d2)):=blk_cellI (M:=[d0,d1,d2]) (k:=2) rfl kgV
  have w0V : V.cell? ⟨gw,0,none⟩ = some (.int .i64 w0):=blk_cellI (M:=[w0,w1,w2]) (k:=0) rfl kwV
  have w1V : V.cell? ⟨gw,1,none⟩ = some (.int .i64 w1):=blk_cellI (M:=[w0,w1,w2]) (k:=1) rfl kwV
  have w2V : V.cell? ⟨gw,2,none⟩ = some (.int .i64 w2):=blk_cellI (M:=[w0,w1,w2]) (k:=2) rfl kwV
  by_cases z1 : h1 = 0
  ·have x1 : (h1 == 0) = true:=by simp [z1]
   have Z9:=Lib.hid z1
   clear z1
   go_upto_region 3 with fail
   obtain ⟨U1,eU1⟩ : ∃ v,v = V.setCell ⟨g,1,none⟩ (.int .i64 (0)):=⟨_,rfl⟩
   have kcU1 : blk U1 c = some #[.slice (some ⟨gw,0,none⟩) 3 cw,.int .i64 q,.slice (some ⟨g,0,none⟩) 3 cd,.int .i64 1]:=(by rw [eU1];exact blk_other kcV ne_c_g)
   have kgU1 : blk U1 g = some (rowC ic [d0,0,d2] ++ sp).toArray:=(by rw [eU1];exact blk_setI (M:=[d0,d1,d2]) (k:=1) (x:=(d1)) rfl kgV)
   have kwU1 : blk U1 gw = some (rowC ic [w0,w1,w2] ++ spw).toArray:=(by rw [eU1];exact blk_other kwV ne_gw_g)
   have khU1 : blk U1 hb = some #[.int .i64 h0,.int .i64 h1,.int .i64 h2]:=(by rw [eU1];exact blk_other khV ne_hb_g)
   have kzU1 : blk U1 zb = some #[.slice none 0 0,.int .i64 0,.slice none 0 0,.int .i64 0]:=(by rw [eU1];exact blk_other kzV ne_zb_g)
   have bU1 : w.grownBy U1 (some g):=(by rw [eU1];exact grown_setCell _ _ bV gr_g)
   rw [← eU1]
   clear eU1
   clear nV mV fV g0V g1V g2V w0V w1V w2V
   have nU1:=kn kcU1
   have mU1:=kn khU1
   have fU1:=(kn kgU1).2.1
   have g0U1 : U1.cell? ⟨g,0,none⟩ = some (.int .i64 (d0)):=blk_cellI (M:=[d0,0,d2]) (k:=0) rfl kgU1
   have g1U1 : U1.cell? ⟨g,1,none⟩ = some (.int .i64 (0)):=blk_cellI (M:=[d0,0,d2]) (k:=1) rfl kgU1
   have g2U1 : U1.cell? ⟨g,2,none⟩ = some (.int .i64 (d2)):=blk_cellI (M:=[d0,0,d2]) (k:=2) rfl kgU1
   have w0U1 : U1.cell? ⟨gw,0,none⟩ = some (.int .i64 w0):=blk_cellI (M:=[w0,w1,w2]) (k:=0) rfl kwU1
   have w1U1 : U1.cell? ⟨gw,1,none⟩ = some (.int .i64 w1):=blk_cellI (M:=[w0,w1,w2]) (k:=1) rfl kwU1
   have w2U1 : U1.cell? ⟨gw,2,none⟩ = some (.int .i64 w2):=blk_cellI (M:=[w0,w1,w2]) (k:=2) rfl kwU1
   go_upto_region 4 with fail
   obtain ⟨U2,eU2⟩ : ∃ v,v = U1.setCell ⟨c,3,none⟩ (.int .i64 0):=⟨_,rfl⟩
   have kcU2 : blk U2 c = some #[.slice (some ⟨gw,0,none⟩) 3 cw,.int .i64 q,.slice (some ⟨g,0,none⟩) 3 cd,.int .i64 0]:=(by rw [eU2];exact blk_set kcU1)
   have kgU2 : blk U2 g = some (rowC ic [d0,0,d2] ++ sp).toArray:=(by rw [eU2];exact blk_other kgU1 ne_g_c)
   have kwU2 : blk U2 gw = some (rowC ic [w0,w1,w2] ++ spw).toArray:=(by rw [eU2];exact blk_other kwU1 ne_gw_c)
   have khU2 : blk U2 hb = some #[.int .i64 h0,.int .i64 h1,.int .i64 h2]:=(by rw [eU2];exact blk_other khU1 ne_hb_c)
   have kzU2 : blk U2 zb = some #[.slice none 0 0,.int .i64 0,.slice none 0 0,.int .i64 0]:=(by rw [eU2];exact blk_other kzU1 ne_zb_c)
   have bU2 : w.grownBy U2 (some g):=(by rw [eU2];exact grown_setCell _ _ bU1 gr_c)
   rw [← eU2]
   clear eU2
   clear nU1 mU1 fU1 g0U1 g1U1 g2U1 w0U1 w1U1 w2U1
   have nU2:=kn kcU2
   have mU2:=kn khU2
   have fU2:=(kn kgU2).2.1
   have g0U2 : U2.cell? ⟨g,0,none⟩ = some (.int .i64 (d0)):=blk_cellI (M:=[d0,0,d2]) (k:=0) rfl kgU2
   have g1U2 : U2.cell? ⟨g,1,none⟩ = some (.int .i64 (0)):=blk_cellI (M:=[d0,0,d2]) (k:=1) rfl kgU2
   have g2U2 : U2.cell? ⟨g,2,none⟩ = some (.int .i64 (d2)):=blk_cellI (M:=[d0,0,d2]) (k:=2) rfl kgU2
   have w0U2 : U2.cell? ⟨gw,0,none⟩ = some (.int .i64 w0):=blk_cellI (M:=[w0,w1,w2]) (k:=0) rfl kwU2
   have w1U2 : U2.cell? ⟨gw,1,none⟩ = some (.int .i64 w1):=blk_cellI (M:=[w0,w1,w2]) (k:=1) rfl kwU2
   have w2U2 : U2.cell? ⟨gw,2,none⟩ = some (.int .i64 w2):=blk_cellI (M:=[w0,w1,w2]) (k:=2) rfl kwU2
   by_cases z0 : h0 = 0
   ·have y0 : (h0 == 0) = true:=by simp [z0]
    have e0 : True:=trivial
    have EP:=Lib.hid (show passD ⟨[w0,w1,w2],[d0,d1,d2],q,1⟩ [h0,h1,h2] = ⟨[w0,w1,w2],[0,0,d2],q,0⟩ by simp [passD,at3,Z9.out,z0,e0])
    clear z0 e0
    go_upto_region 7 with fail
    obtain ⟨U3,eU3⟩ : ∃ v,v = U2.setCell ⟨g,0,none⟩ (.int .i64 (0)):=⟨_,rfl⟩
    have kcU3 : blk U3 c = some #[.slice (some ⟨gw,0,none⟩) 3 cw,.int .i64 q,.slice (some ⟨g,0,none⟩) 3 cd,.int .i64 0]:=(by rw [eU3];exact blk_other kcU2 ne_c_g)
    have kgU3 : blk U3 g = some (rowC ic [0,0,d2] ++ sp).toArray:=(by rw [eU3];exact blk_setI (M:=[d0,0,d2]) (k:=0) (x:=(d0)) rfl kgU2)
    have kwU3 : blk U3 gw = some (rowC ic [w0,w1,w2] ++ spw).toArray:=(by rw [eU3];exact blk_other kwU2 ne_gw_g)
    have khU3 : blk U3 hb = some #[.int .i64 h0,.int .i64 h1,.int .i64 h2]:=(by rw [eU3];exact blk_other khU2 ne_hb_g)
    have kzU3 : blk U3 zb = some #[.slice none 0 0,.int .i64 0,.slice none 0 0,.int .i64 0]:=(by rw [eU3];exact blk_other kzU2 ne_zb_g)
    have bU3 : w.grownBy U3 (some g):=(by rw [eU3];exact grown_setCell _ _ bU2 gr_g)
    rw [← eU3]
    clear eU3
    clear nU2 mU2 fU2 g0U2 g1U2 g2U2 w0U2 w1U2 w2U2
    have nU3:=kn kcU3
    have mU3:=kn khU3
    have fU3:=(kn kgU3).2.1
    have g0U3 : U3.cell? ⟨g,0,none⟩ = some (.int .i64 (0)):=blk_cellI (M:=[0,0,d2]) (k:=0) rfl kgU3
    have g1U3 : U3.cell? ⟨g,1,none⟩ = some (.int .i64 (0)):=blk_cellI (M:=[0,0,d2]) (k:=1) rfl kgU3
    have g2U3 : U3.cell? ⟨g,2,none⟩ = some (.int .i64 (d2)):=blk_cellI (M:=[0,0,d2]) (k:=2) rfl kgU3
    have w0U3 : U3.cell? ⟨gw,0,none⟩ = some (.int .i64 w0):=blk_cellI (M:=[w0,w1,w2]) (k:=0) rfl kwU3
    have w1U3 : U3.cell? ⟨gw,1,none⟩ = some (.int .i64 w1):=blk_cellI (M:=[w0,w1,w2]) (k:=1) rfl kwU3
    have w2U3 : U3.cell? ⟨gw,2,none⟩ = some (.int .i64 w2):=blk_cellI (M:=[w0,w1,w2]) (k:=2) rfl kwU3
    have nzU3:=kn kzU3
    go_wp2
    refine ret_blk (b:=zb) (c:=#[.slice (some ⟨gw,0,none⟩) 3 cw,.int .i64 q,.slice (some ⟨g,0,none⟩) 3 cd,.int .i64 0]) (v:=.agg #[.slice (some ⟨gw,0,none⟩) 3 cw,.int .i64 q,.slice (some ⟨g,0,none⟩) 3 cd,.int .i64 0]) (by have h9:=blk_set (i:=3) (v:=.int .i64 0) (blk_set (i:=2) (v:=.slice (some ⟨g,0,none⟩) 3 cd) (blk_set (i:=1) (v:=.int .i64 q) (blk_set (i:=0) (v:=.slice (some ⟨gw,0,none⟩) 3 cw) (kzU3))));exact h9) (fun W' hc => by simp [results,Tryd.results109,go_sem,hc]) rfl ⟨by rw [EP.out],grown_setCell _ _ (grown_setCell _ _ (grown_setCell _ _ (grown_setCell _ _ (bU3) gr_zb) gr_zb) gr_zb) gr_zb,?_,?_,?_⟩
    ·rw [EP.out];exact blk_other (blk_other (blk_other (blk_other kgU3 ne_g_zb) ne_g_zb) ne_g_zb) ne_g_zb
    ·exact blk_other (blk_other (blk_other (blk_other kwU3 ne_gw_zb) ne_gw_zb) ne_gw_zb) ne_gw_zb
    ·exact blk_other (blk_other (blk_other (blk_other khU3 ne_hb_zb) ne_hb_zb) ne_hb_zb) ne_hb_zb
   ·have y0 : (h0 == 0) = false:=by simpa using z0
    have e0 : w0 * q = M0:=HMM0.out
    have EP:=Lib.hid (show passD ⟨[w0,w1,w2],[d0,d1,d2],q,1⟩ [h0,h1,h2] = ⟨[w0,w1,w2],[min 1099511627776 (d0 + M0),0,d2],q,0⟩ by simp [passD,at3,Z9.out,z0,e0])
    clear z0
    have v0 : IntKind.i64.wrap M0 = M0:=IntWalk.i64_in _ (by omega)
    have v0' : IntKind.i64.wrap (d0 + M0) = d0 + M0:=IntWalk.i64_in _ (by omega)
    go_upto_region 6 with fail
    refine wp_region_tail 22 (by kernel_rfl) (by kernel_rfl) ?_
    intro W0 hE hN
    have j0 : blk W0 c = some #[.slice (some ⟨gw,0,none⟩) 3 cw,.int .i64 q,.slice (some ⟨g,0,none⟩) 3 cd,.int .i64 0]:=(by rw [hE.out];exact kcU2)
    have j1 : blk W0 g = some (rowC ic [d0,0,d2] ++ sp).toArray:=(by rw [hE.out];exact kgU2)
    have j2 : blk W0 gw = some (rowC ic [w0,w1,w2] ++ spw).toArray:=(by rw [hE.out];exact kwU2)
    have j3 : blk W0 hb = some #[.int .i64 h0,.int .i64 h1,.int .i64 h2]:=(by rw [hE.out];exact khU2)
    have j4 : blk W0 zb = some #[.slice none 0 0,.int .i64 0,.slice none 0 0,.int .i64 0]:=(by rw [hE.out];exact kzU2)
    have j9 : w.grownBy W0 (some g):=(by rw [hE.out];exact bU2)
    clear hE
    clear nU2 mU2 fU2 g0U2 g1U2 g2U2 w0U2 w1U2 w2U2
    clear kcU2 kgU2 kwU2 khU2 kzU2 bU2
    have q1:=calm_kn j0
    have q4:=calm_kn j3
    have r0 : ∀ X : Class (Calm W0),X.wd.cell? ⟨g,0,none⟩ = some (.int .i64 (d0)):=fun X => blk_cellI (M:=[d0,0,d2]) (k:=0) rfl (blk_below X.ok j1)
    have s0 : ∀ X : Class (Calm W0),X.wd.cell? ⟨gw,0,none⟩ = some (.int .i64 w0):=fun X => blk_cellI (M:=[w0,w1,w2]) (k:=0) rfl (blk_below X.ok j2)
    have r1 : ∀ X : Class (Calm W0),X.wd.cell? ⟨g,1,none⟩ = some (.int .i64 (0)):=fun X => blk_cellI (M:=[d0,0,d2]) (k:=1) rfl (blk_below X.ok j1)
    have s1 : ∀ X : Class (Calm W0),X.wd.cell? ⟨gw,1,none⟩ = some (.int .i64 w1):=fun X => blk_cellI (M:=[w0,w1,w2]) (k:=1) rfl (blk_below X.ok j2)
    have r2 : ∀ X : Class (Calm W0),X.wd.cell? ⟨g,2,none⟩ = some (.int .i64 (d2)):=fun X => blk_cellI (M:=[d0,0,d2]) (k:=2) rfl (blk_below X.ok j1)
    have s2 : ∀ X : Class (Calm W0),X.wd.cell? ⟨gw,2,none⟩ = some (.int .i64 w2):=fun X => blk_cellI (M:=[w0,w1,w2]) (k:=2) rfl (blk_below X.ok j2)
    simp only [List.take_succ_cons,List.take_zero,List.drop_succ_cons,List.drop_zero]
    repeat (go_big_quiet_step (fail))
    refine wpQuiet_nil ?_
    rintro _ ⟨x',rfl⟩
    have kcU4:=blk_below x'.ok j0
    have kgU4:=blk_below x'.ok j1
    have kwU4:=blk_below x'.ok j2
    have khU4:=blk_below x'.ok j3
    have kzU4:=blk_below x'.ok j4
    have bU4 : w.grownBy x'.wd (some g):=grown_thenB j9 x'.ok
    obtain ⟨U4,hu⟩ : ∃ u,u = x'.wd:=⟨_,rfl⟩
    rw [← hu] at kcU4 kgU4 kwU4 khU4 kzU4 bU4 ⊢
    clear hu x' hN q1 q4 r0 r1 r2 s0 s1 s2 j0 j1 j2 j3 j4 j9
    have nU4:=kn kcU4
    have mU4:=kn khU4
    have fU4:=(kn kgU4).2.1
    have g0U4 : U4.cell? ⟨g,0,none⟩ = some (.int .i64 (d0)):=blk_cellI (M:=[d0,0,d2]) (k:=0) rfl kgU4
    have g1U4 : U4.cell? ⟨g,1,none⟩ = some (.int .i64 (0)):=blk_cellI (M:=[d0,0,d2]) (k:=1) rfl kgU4
    have g2U4 : U4.cell? ⟨g,2,none⟩ = some (.int .i64 (d2)):=blk_cellI (M:=[d0,0,d2]) (k:=2) rfl kgU4
    have w0U4 : U4.cell? ⟨gw,0,none⟩ = some (.int .i64 w0):=blk_cellI (M:=[w0,w1,w2]) (k:=0) rfl kwU4
    have w1U4 : U4.cell? ⟨gw,1,none⟩ = some (.int .i64 w1):=blk_cellI (M:=[w0,w1,w2]) (k:=1) rfl kwU4
    have w2U4 : U4.cell? ⟨gw,2,none⟩ = some (.int .i64 w2):=blk_cellI (M:=[w0,w1,w2]) (k:=2) rfl kwU4
    go_upto_region 7 with fail
    obtain ⟨U3,eU3⟩ : ∃ v,v = U4.setCell ⟨g,0,none⟩ (.int .i64 (min 1099511627776 (d0 + M0))):=⟨_,rfl⟩
    have kcU3 : blk U3 c = some #[.slice (some ⟨gw,0,none⟩) 3 cw,.int .i64 q,.slice (some ⟨g,0,none⟩) 3 cd,.int .i64 0]:=(by rw [eU3];exact blk_other kcU4 ne_c_g)
    have kgU3 : blk U3 g = some (rowC ic [min 1099511627776 (d0 + M0),0,d2] ++ sp).toArray:=(by rw [eU3];exact blk_setI (M:=[d0,0,d2]) (k:=0) (x:=(d0)) rfl kgU4)
    have kwU3 : blk U3 gw = some (rowC ic [w0,w1,w2] ++ spw).toArray:=(by rw [eU3];exact blk_other kwU4 ne_gw_g)
    have khU3 : blk U3 hb = some #[.int .i64 h0,.int .i64 h1,.int .i64 h2]:=(by rw [eU3];exact blk_other khU4 ne_hb_g)
    have kzU3 : blk U3 zb = some #[.slice none 0 0,.int .i64 0,.slice none 0 0,.int .i64 0]:=(by rw [eU3];exact blk_other kzU4 ne_zb_g)
    have bU3 : w.grownBy U3 (some g):=(by rw [eU3];exact grown_setCell _ _ bU4 gr_g)
    rw [← eU3]
    clear eU3
    clear nU4 mU4 fU4 g0U4 g1U4 g2U4 w0U4 w1U4 w2U4
    have nU3:=kn kcU3
    have mU3:=kn khU3
    have fU3:=(kn kgU3).2.1
    have g0U3 : U3.cell? ⟨g,0,none⟩ = some (.int .i64 (min 1099511627776 (d0 + M0))):=blk_cellI (M:=[min 1099511627776 (d0 + M0),0,d2]) (k:=0) rfl kgU3
    have g1U3 : U3.cell? ⟨g,1,none⟩ = some (.int .i64 (0)):=blk_cellI (M:=[min 1099511627776 (d0 + M0),0,d2]) (k:=1) rfl kgU3
    have g2U3 : U3.cell? ⟨g,2,none⟩ = some (.int .i64 (d2)):=blk_cellI (M:=[min 1099511627776 (d0 + M0),0,d2]) (k:=2) rfl kgU3
    have w0U3 : U3.cell? ⟨gw,0,none⟩ = some (.int .i64 w0):=blk_cellI (M:=[w0,w1,w2]) (k:=0) rfl kwU3
    have w1U3 : U3.cell? ⟨gw,1,none⟩ = some (.int .i64 w1):=blk_cellI (M:=[w0,w1,w2]) (k:=1) rfl kwU3
    have w2U3 : U3.cell? ⟨gw,2,none⟩ = some (.int .i64 w2):=blk_cellI (M:=[w0,w1,w2]) (k:=2) rfl kwU3
    have nzU3:=kn kzU3
    go_wp2
    refine ret_blk (b:=zb) (c:=#[.slice (some ⟨gw,0,none⟩) 3 cw,.int .i64 q,.slice (some ⟨g,0,none⟩) 3 cd,.int .i64 0]) (v:=.agg #[.slice (some ⟨gw,0,none⟩) 3 cw,.int .i64 q,.slice (some ⟨g,0,none⟩) 3 cd,.int .i64 0]) (by have h9:=blk_set (i:=3) (v:=.int .i64 0) (blk_set (i:=2) (v:=.slice (some ⟨g,0,none⟩) 3 cd) (blk_set (i:=1) (v:=.int .i64 q) (blk_set (i:=0) (v:=.slice (some ⟨gw,0,none⟩) 3 cw) (kzU3))));exact h9) (fun W' hc => by simp [results,Tryd.results109,go_sem,hc]) rfl ⟨by rw [EP.out],grown_setCell _ _ (grown_setCell _ _ (grown_setCell _ _ (grown_setCell _ _ (bU3) gr_zb) gr_zb) gr_zb) gr_zb,?_,?_,?_⟩
    ·rw [EP.out];exact blk_other (blk_other (blk_other (blk_other kgU3 ne_g_zb) ne_g_zb) ne_g_zb) ne_g_zb
    ·exact blk_other (blk_other (blk_other (blk_other kwU3 ne_gw_zb) ne_gw_zb) ne_gw_zb) ne_gw_zb
    ·exact blk_other (blk_other (blk_other (blk_other khU3 ne_hb_zb) ne_hb_zb) ne_hb_zb) ne_hb_zb
  ·have x1 : (h1 == 0) = false:=by simpa using z1
   have Z9:=Lib.hid z1
   clear z1
   go_upto_region 4 with fail
   obtain ⟨U2,eU2⟩ : ∃ v,v = V.setCell ⟨c,3,none⟩ (.int .i64 0):=⟨_,rfl⟩
   have kcU2 : blk U2 c = some #[.slice (some ⟨gw,0,none⟩) 3 cw,.int .i64 q,.slice (some ⟨g,0,none⟩) 3 cd,.int .i64 0]:=(by rw [eU2];exact blk_set kcV)
   have kgU2 : blk U2 g = some (rowC ic [d0,d1,d2] ++ sp).toArray:=(by rw [eU2];exact blk_other kgV ne_g_c)
   have kwU2 : blk U2 gw = some (rowC ic [w0,w1,w2] ++ spw).toArray:=(by rw [eU2];exact blk_other kwV ne_gw_c)
   have khU2 : blk U2 hb = some #[.int .i64 h0,.int .i64 h1,.int .i64 h2]:=(by rw [eU2];exact blk_other khV ne_hb_c)
   have kzU2 : blk U2 zb = some #[.slice none 0 0,.int .i64 0,.slice none 0 0,.int .i64 0]:=(by rw [eU2];exact blk_other kzV ne_zb_c)
   have bU2 : w.grownBy U2 (some g):=(by rw [eU2];exact grown_setCell _ _ bV gr_c)
   rw [← eU2]
   clear eU2
   clear nV mV fV g0V g1V g2V w0V w1V w2V
   have nU2:=kn kcU2
   have mU2:=kn khU2
   have fU2:=(kn kgU2).2.1
   have g0U2 : U2.cell? ⟨g,0,none⟩ = some (.int .i64 (d0)):=blk_cellI (M:=[d0,d1,d2]) (k:=0) rfl kgU2
   have g1U2 : U2.cell? ⟨g,1,none⟩ = some (.int .i64 (d1)):=blk_cellI (M:=[d0,d1,d2]) (k:=1) rfl kgU2
   have g2U2 : U2.cell? ⟨g,2,none⟩ = some (.int .i64 (d2)):=blk_cellI (M:=[d0,d1,d2]) (k:=2) rfl kgU2
   have w0U2 : U2.cell? ⟨gw,0,none⟩ = some (.int .i64 w0):=blk_cellI (M:=[w0,w1,w2]) (k:=0) rfl kwU2
   have w1U2 : U2.cell? ⟨gw,1,none⟩ = some (.int .i64 w1):=blk_cellI (M:=[w0,w1,w2]) (k:=1) rfl kwU2
   have w2U2 : U2.cell? ⟨gw,2,none⟩ = some (.int .i64 w2):=blk_cellI (M:=[w0,w1,w2]) (k:=2) rfl kwU2
   by_cases z0 : h0 = 0
   ·have y0 : (h0 == 0) = true:=by simp [z0]
    have e0 : True:=trivial
    have EP:=Lib.hid (show passD ⟨[w0,w1,w2],[d0,d1,d2],q,1⟩ [h0,h1,h2] = ⟨[w0,w1,w2],[0,d1,d2],q,0⟩ by simp [passD,at3,Z9.out,z0,e0])
    clear z0 e0
    go_upto_region 7 with fail
    obtain ⟨U3,eU3⟩ : ∃ v,v = U2.setCell ⟨g,0,none⟩ (.int .i64 (0)):=⟨_,rfl⟩
    have kcU3 : blk U3 c = some #[.slice (some ⟨gw,0,none⟩) 3 cw,.int .i64 q,.slice (some ⟨g,0,none⟩) 3 cd,.int .i64 0]:=(by rw [eU3];exact blk_other kcU2 ne_c_g)
    have kgU3 : blk U3 g = some (rowC ic [0,d1,d2] ++ sp).toArray:=(by rw [eU3];exact blk_setI (M:=[d0,d1,d2]) (k:=0) (x:=(d0)) rfl kgU2)
    have kwU3 : blk U3 gw = some (rowC ic [w0,w1,w2] ++ spw).toArray:=(by rw [eU3];exact blk_other kwU2 ne_gw_g)
    have khU3 : blk U3 hb = some #[.int .i64 h0,.int .i64 h1,.int .i64 h2]:=(by rw [eU3];exact blk_other khU2 ne_hb_g)
    have kzU3 : blk U3 zb = some #[.slice none 0 0,.int .i64 0,.slice none 0 0,.int .i64 0]:=(by rw [eU3];exact blk_other kzU2 ne_zb_g)
    have bU3 : w.grownBy U3 (some g):=(by rw [eU3];exact grown_setCell _ _ bU2 gr_g)
    rw [← eU3]
    clear eU3
    clear nU2 mU2 fU2 g0U2 g1U2 g2U2 w0U2 w1U2 w2U2
    have nU3:=kn kcU3
    have mU3:=kn khU3
    have fU3:=(kn kgU3).2.1
    have g0U3 : U3.cell? ⟨g,0,none⟩ = some (.int .i64 (0)):=blk_cellI (M:=[0,d1,d2]) (k:=0) rfl kgU3
    have g1U3 : U3.cell? ⟨g,1,none⟩ = some (.int .i64 (d1)):=blk_cellI (M:=[0,d1,d2]) (k:=1) rfl kgU3
    have g2U3 : U3.cell? ⟨g,2,none⟩ = some (.int .i64 (d2)):=blk_cellI (M:=[0,d1,d2]) (k:=2) rfl kgU3
    have w0U3 : U3.cell? ⟨gw,0,none⟩ = some (.int .i64 w0):=blk_cellI (M:=[w0,w1,w2]) (k:=0) rfl kwU3
    have w1U3 : U3.cell? ⟨gw,1,none⟩ = some (.int .i64 w1):=blk_cellI (M:=[w0,w1,w2]) (k:=1) rfl kwU3
    have w2U3 : U3.cell? ⟨gw,2,none⟩ = some (.int .i64 w2):=blk_cellI (M:=[w0,w1,w2]) (k:=2) rfl kwU3
    have nzU3:=kn kzU3
    go_wp2
    refine ret_blk (b:=zb) (c:=#[.slice (some ⟨gw,0,none⟩) 3 cw,.int .i64 q,.slice (some ⟨g,0,none⟩) 3 cd,.int .i64 0]) (v:=.agg #[.slice (some ⟨gw,0,none⟩) 3 cw,.int .i64 q,.slice (some ⟨g,0,none⟩) 3 cd,.int .i64 0]) (by have h9:=blk_set (i:=3) (v:=.int .i64 0) (blk_set (i:=2) (v:=.slice (some ⟨g,0,none⟩) 3 cd) (blk_set (i:=1) (v:=.int .i64 q) (blk_set (i:=0) (v:=.slice (some ⟨gw,0,none⟩) 3 cw) (kzU3))));exact h9) (fun W' hc => by simp [results,Tryd.results109,go_sem,hc]) rfl ⟨by rw [EP.out],grown_setCell _ _ (grown_setCell _ _ (grown_setCell _ _ (grown_setCell _ _ (bU3) gr_zb) gr_zb) gr_zb) gr_zb,?_,?_,?_⟩
    ·rw [EP.out];exact blk_other (blk_other (blk_other (blk_other kgU3 ne_g_zb) ne_g_zb) ne_g_zb) ne_g_zb
    ·exact blk_other (blk_other (blk_other (blk_other kwU3 ne_gw_zb) ne_gw_zb) ne_gw_zb) ne_gw_zb
    ·exact blk_other (blk_other (blk_other (blk_other khU3 ne_hb_zb) ne_hb_zb) ne_hb_zb) ne_hb_zb
   ·have y0 : (h0 == 0) = false:=by simpa using z0
    have e0 : w0 * q = M0:=HMM0.out
    have EP:=Lib.hid (show passD ⟨[w0,w1,w2],[d0,d1,d2],q,1⟩ [h0,h1,h2] = ⟨[w0,w1,w2],[min 1099511627776 (d0 + M0),d1,d2],q,0⟩ by simp [passD,at3,Z9.out,z0,e0])
    clear z0
    have v0 : IntKind.i64.wrap M0 = M0:=IntWalk.i64_in _ (by omega)
    have v0' : IntKind.i64.wrap (d0 + M0) = d0 + M0:=IntWalk.i64_in _ (by omega)
    go_upto_region 6 with fail
    refine wp_region_tail 22 (by kernel_rfl) (by kernel_rfl) ?_
    intro W0 hE hN
    have j0 : blk W0 c = some #[.slice (some ⟨gw,0,none⟩) 3 cw,.int .i64 q,.slice (some ⟨g,0,none⟩) 3 cd,.int .i64 0]:=(by rw [hE.out];exact kcU2)
    have j1 : blk W0 g = some (rowC ic [d0,d1,d2] ++ sp).toArray:=(by rw [hE.out];exact kgU2)
    have j2 : blk W0 gw = some (rowC ic [w0,w1,w2] ++ spw).toArray:=(by rw [hE.out];exact kwU2)
    have j3 : blk W0 hb = some #[.int .i64 h0,.int .i64 h1,.int .i64 h2]:=(by rw [hE.out];exact khU2)
    have j4 : blk W0 zb = some #[.slice none 0 0,.int .i64 0,.slice none 0 0,.int .i64 0]:=(by rw [hE.out];exact kzU2)
    have j9 : w.grownBy W0 (some g):=(by rw [hE.out];exact bU2)
    clear hE
    clear nU2 mU2 fU2 g0U2 g1U2 g2U2 w0U2 w1U2 w2U2
    clear kcU2 kgU2 kwU2 khU2 kzU2 bU2
    have q1:=calm_kn j0
    have q4:=calm_kn j3
    have r0 : ∀ X : Class (Calm W0),X.wd.cell? ⟨g,0,none⟩ = some (.int .i64 (d0)):=fun X => blk_cellI (M:=[d0,d1,d2]) (k:=0) rfl (blk_below X.ok j1)
    have s0 : ∀ X : Class (Calm W0),X.wd.cell? ⟨gw,0,none⟩ = some (.int .i64 w0):=fun X => blk_cellI (M:=[w0,w1,w2]) (k:=0) rfl (blk_below X.ok j2)
    have r1 : ∀ X : Class (Calm W0),X.wd.cell? ⟨g,1,none⟩ = some (.int .i64 (d1)):=fun X => blk_cellI (M:=[d0,d1,d2]) (k:=1) rfl (blk_below X.ok j1)
    have s1 : ∀ X : Class (Calm W0),X.wd.cell? ⟨gw,1,none⟩ = some (.int .i64 w1):=fun X => blk_cellI (M:=[w0,w1,w2]) (k:=1) rfl (blk_below X.ok j2)
    have r2 : ∀ X : Class (Calm W0),X.wd.cell? ⟨g,2,none⟩ = some (.int .i64 (d2)):=fun X => blk_cellI (M:=[d0,d1,d2]) (k:=2) rfl (blk_below X.ok j1)
    have s2 : ∀ X : Class (Calm W0),X.wd.cell? ⟨gw,2,none⟩ = some (.int .i64 w2):=fun X => blk_cellI (M:=[w0,w1,w2]) (k:=2) rfl (blk_below X.ok j2)
    simp only [List.take_succ_cons,List.take_zero,List.drop_succ_cons,List.drop_zero]
    repeat (go_big_quiet_step (fail))
    refine wpQuiet_nil ?_
    rintro _ ⟨x',rfl⟩
    have kcU4:=blk_below x'.ok j0
    have kgU4:=blk_below x'.ok j1
    have kwU4:=blk_below x'.ok j2
    have khU4:=blk_below x'.ok j3
    have kzU4:=blk_below x'.ok j4
    have bU4 : w.grownBy x'.wd (some g):=grown_thenB j9 x'.ok
    obtain ⟨U4,hu⟩ : ∃ u,u = x'.wd:=⟨_,rfl⟩
    rw [← hu] at kcU4 kgU4 kwU4 khU4 kzU4 bU4 ⊢
    clear hu x' hN q1 q4 r0 r1 r2 s0 s1 s2 j0 j1 j2 j3 j4 j9
    have nU4:=kn kcU4
    have mU4:=kn khU4
    have fU4:=(kn kgU4).2.1
    have g0U4 : U4.cell? ⟨g,0,none⟩ = some (.int .i64 (d0)):=blk_cellI (M:=[d0,d1,d2]) (k:=0) rfl kgU4
    have g1U4 : U4.cell? ⟨g,1,none⟩ = some (.int .i64 (d1)):=blk_cellI (M:=[d0,d1,d2]) (k:=1) rfl kgU4
    have g2U4 : U4.cell? ⟨g,2,none⟩ = some (.int .i64 (d2)):=blk_cellI (M:=[d0,d1,d2]) (k:=2) rfl kgU4
    have w0U4 : U4.cell? ⟨gw,0,none⟩ = some (.int .i64 w0):=blk_cellI (M:=[w0,w1,w2]) (k:=0) rfl kwU4
    have w1U4 : U4.cell? ⟨gw,1,none⟩ = some (.int .i64 w1):=blk_cellI (M:=[w0,w1,w2]) (k:=1) rfl kwU4
    have w2U4 : U4.cell? ⟨gw,2,none⟩ = some (.int .i64 w2):=blk_cellI (M:=[w0,w1,w2]) (k:=2) rfl kwU4
    go_upto_region 7 with fail
    obtain ⟨U3,eU3⟩ : ∃ v,v = U4.setCell ⟨g,0,none⟩ (.int .i64 (min 1099511627776 (d0 + M0))):=⟨_,rfl⟩
    have kcU3 : blk U3 c = some #[.slice (some ⟨gw,0,none⟩) 3 cw,.int .i64 q,.slice (some ⟨g,0,none⟩) 3 cd,.int .i64 0]:=(by rw [eU3];exact blk_other kcU4 ne_c_g)
    have kgU3 : blk U3 g = some (rowC ic [min 1099511627776 (d0 + M0),d1,d2] ++ sp).toArray:=(by rw [eU3];exact blk_setI (M:=[d0,d1,d2]) (k:=0) (x:=(d0)) rfl kgU4)
    have kwU3 : blk U3 gw = some (rowC ic [w0,w1,w2] ++ spw).toArray:=(by rw [eU3];exact blk_other kwU4 ne_gw_g)
    have khU3 : blk U3 hb = some #[.int .i64 h0,.int .i64 h1,.int .i64 h2]:=(by rw [eU3];exact blk_other khU4 ne_hb_g)
    have kzU3 : blk U3 zb = some #[.slice none 0 0,.int .i64 0,.slice none 0 0,.int .i64 0]:=(by rw [eU3];exact blk_other kzU4 ne_zb_g)
    have bU3 : w.grownBy U3 (some g):=(by rw [eU3];exact grown_setCell _ _ bU4 gr_g)
    rw [← eU3]
    clear eU3
    clear nU4 mU4 fU4 g0U4 g1U4 g2U4 w0U4 w1U4 w2U4
    have nU3:=kn kcU3
    have mU3:=kn khU3
    have fU3:=(kn kgU3).2.1
    have g0U3 : U3.cell? ⟨g,0,none⟩ = some (.int .i64 (min 1099511627776 (d0 + M0))):=blk_cellI (M:=[min 1099511627776 (d0 + M0),d1,d2]) (k:=0) rfl kgU3
    have g1U3 : U3.cell? ⟨g,1,none⟩ = some (.int .i64 (d1)):=blk_cellI (M:=[min 1099511627776 (d0 + M0),d1,d2]) (k:=1) rfl kgU3
    have g2U3 : U3.cell? ⟨g,2,none⟩ = some (.int .i64 (d2)):=blk_cellI (M:=[min 1099511627776 (d0 + M0),d1,d2]) (k:=2) rfl kgU3
    have w0U3 : U3.cell? ⟨gw,0,none⟩ = some (.int .i64 w0):=blk_cellI (M:=[w0,w1,w2]) (k:=0) rfl kwU3
    have w1U3 : U3.cell? ⟨gw,1,none⟩ = some (.int .i64 w1):=blk_cellI (M:=[w0,w1,w2]) (k:=1) rfl kwU3
    have w2U3 : U3.cell? ⟨gw,2,none⟩ = some (.int .i64 w2):=blk_cellI (M:=[w0,w1,w2]) (k:=2) rfl kwU3
    have nzU3:=kn kzU3
    go_wp2
    refine ret_blk (b:=zb) (c:=#[.slice (some ⟨gw,0,none⟩) 3 cw,.int .i64 q,.slice (some ⟨g,0,none⟩) 3 cd,.int .i64 0]) (v:=.agg #[.slice (some ⟨gw,0,none⟩) 3 cw,.int .i64 q,.slice (some ⟨g,0,none⟩) 3 cd,.int .i64 0]) (by have h9:=blk_set (i:=3) (v:=.int .i64 0) (blk_set (i:=2) (v:=.slice (some ⟨g,0,none⟩) 3 cd) (blk_set (i:=1) (v:=.int .i64 q) (blk_set (i:=0) (v:=.slice (some ⟨gw,0,none⟩) 3 cw) (kzU3))));exact h9) (fun W' hc => by simp [results,Tryd.results109,go_sem,hc]) rfl ⟨by rw [EP.out],grown_setCell _ _ (grown_setCell _ _ (grown_setCell _ _ (grown_setCell _ _ (bU3) gr_zb) gr_zb) gr_zb) gr_zb,?_,?_,?_⟩
    ·rw [EP.out];exact blk_other (blk_other (blk_other (blk_other kgU3 ne_g_zb) ne_g_zb) ne_g_zb) ne_g_zb
    ·exact blk_other (blk_other (blk_other (blk_other kwU3 ne_gw_zb) ne_gw_zb) ne_gw_zb) ne_gw_zb
    ·exact blk_other (blk_other (blk_other (blk_other khU3 ne_hb_zb) ne_hb_zb) ne_hb_zb) ne_hb_zb
 ·have nV:=kn kcV
  have mV:=kn khV
  have fV:=(kn kgV).2.1
  have g0V : V.cell? ⟨g,0,none⟩ = some (.int .i64 (d0)):=blk_cellI (M:=[d0,d1,d2]) (k:=0) rfl kgV
  have g1V : V.cell? ⟨g,1,none⟩ = some (.int .i64 (d1)):=blk_cellI (M:=[d0,d1,d2]) (k:=1) rfl kgV
  have g2V : V.cell? ⟨g,2,none⟩ = some (.int .i64 (d2)):=blk_cellI (M:=[d0,d1,d2]) (k:=2) rfl kgV
  have w0V : V.cell? ⟨gw,0,none⟩ = some (.int .i64 w0):=blk_cellI (M:=[w0,w1,w2]) (k:=0) rfl kwV
  have w1V : V.cell? ⟨gw,1,none⟩ = some (.int .i64 w1):=blk_cellI (M:=[w0,w1,w2]) (k:=1) rfl kwV
  have w2V : V.cell? ⟨gw,2,none⟩ = some (.int .i64 w2):=blk_cellI (M:=[w0,w1,w2]) (k:=2) rfl kwV
  by_cases z2 : h2 = 0
  ·have x1 : (h2 == 0) = true:=by simp [z2]
   have Z9:=Lib.hid z2
   clear z2
   go_upto_region 3 with fail
   obtain ⟨U1,eU1⟩ : ∃ v,v = V.setCell ⟨g,2,none⟩ (.int .i64 (0)):=⟨_,rfl⟩
   have kcU1 : blk U1 c = some #[.slice (some ⟨gw,0,none⟩) 3 cw,.int .i64 q,.slice (some ⟨g,0,none⟩) 3 cd,.int .i64 2]:=(by rw [eU1];exact blk_other kcV ne_c_g)
   have kgU1 : blk U1 g = some (rowC ic [d0,d1,0] ++ sp).toArray:=(by rw [eU1];exact blk_setI (M:=[d0,d1,d2]) (k:=2) (x:=(d2)) rfl kgV)
   have kwU1 : blk U1 gw = some (rowC ic [w0,w1,w2] ++ spw).toArray:=(by rw [eU1];exact blk_other kwV ne_gw_g)
   have khU1 : blk U1 hb = some #[.int .i64 h0,.int .i64 h1,.int .i64 h2]:=(by rw [eU1];exact blk_other khV ne_hb_g)
   have kzU1 : blk U1 zb = some #[.slice none 0 0,.int .i64 0,.slice none 0 0,.int .i64 0]:=(by rw [eU1];exact blk_other kzV ne_zb_g)
   have bU1 : w.grownBy U1 (some g):=(by rw [eU1];exact grown_setCell _ _ bV gr_g)
   rw [← eU1]
   clear eU1
   clear nV mV fV g0V g1V g2V w0V w1V w2V
   have nU1:=kn kcU1
   have mU1:=kn khU1
   have fU1:=(kn kgU1).2.1
   have g0U1 : U1.cell? ⟨g,0,none⟩ = some (.int .i64 (d0)):=blk_cellI (M:=[d0,d1,0]) (k:=0) rfl kgU1
   have g1U1 : U1.cell? ⟨g,1,none⟩ = some (.int .i64 (d1)):=blk_cellI (M:=[d0,d1,0]) (k:=1) rfl kgU1
   have g2U1 : U1.cell? ⟨g,2,none⟩ = some (.int .i64 (0)):=blk_cellI (M:=[d0,d1,0]) (k:=2) rfl kgU1
   have w0U1 : U1.cell? ⟨gw,0,none⟩ = some (.int .i64 w0):=blk_cellI (M:=[w0,w1,w2]) (k:=0) rfl kwU1
   have w1U1 : U1.cell? ⟨gw,1,none⟩ = some (.int .i64 w1):=blk_cellI (M:=[w0,w1,w2]) (k:=1) rfl kwU1
   have w2U1 : U1.cell? ⟨gw,2,none⟩ = some (.int .i64 w2):=blk_cellI (M:=[w0,w1,w2]) (k:=2) rfl kwU1
   go_upto_region 4 with fail
   obtain ⟨U2,eU2⟩ : ∃ v,v = U1.setCell ⟨c,3,none⟩ (.int .i64 1):=⟨_,rfl⟩
   have kcU2 : blk U2 c = some #[.slice (some ⟨gw,0,none⟩) 3 cw,.int .i64 q,.slice (some ⟨g,0,none⟩) 3 cd,.int .i64 1]:=(by rw [eU2];exact blk_set kcU1)
   have kgU2 : blk U2 g = some (rowC ic [d0,d1,0] ++ sp).toArray:=(by rw [eU2];exact blk_other kgU1 ne_g_c)
   have kwU2 : blk U2 gw = some (rowC ic [w0,w1,w2] ++ spw).toArray:=(by rw [eU2];exact blk_other kwU1 ne_gw_c)
   have khU2 : blk U2 hb = some #[.int .i64 h0,.int .i64 h1,.int .i64 h2]:=(by rw [eU2];exact blk_other khU1 ne_hb_c)
   have kzU2 : blk U2 zb = some #[.slice none 0 0,.int .i64 0,.slice none 0 0,.int .i64 0]:=(by rw [eU2];exact blk_other kzU1 ne_zb_c)
   have bU2 : w.grownBy U2 (some g):=(by rw [eU2];exact grown_setCell _ _ bU1 gr_c)
   rw [← eU2]
   clear eU2
   clear nU1 mU1 fU1 g0U1 g1U1 g2U1 w0U1 w1U1 w2U1
   have nU2:=kn kcU2
   have mU2:=kn khU2
   have fU2:=(kn kgU2).2.1
   have g0U2 : U2.cell? ⟨g,0,none⟩ = some (.int .i64 (d0)):=blk_cellI (M:=[d0,d1,0]) (k:=0) rfl kgU2
   have g1U2 : U2.cell? ⟨g,1,none⟩ = some (.int .i64 (d1)):=blk_cellI (M:=[d0,d1,0]) (k:=1) rfl kgU2
   have g2U2 : U2.cell? ⟨g,2,none⟩ = some (.int .i64 (0)):=blk_cellI (M:=[d0,d1,0]) (k:=2) rfl kgU2
   have w0U2 : U2.cell? ⟨gw,0,none⟩ = some (.int .i64 w0):=blk_cellI (M:=[w0,w1,w2]) (k:=0) rfl kwU2
   have w1U2 : U2.cell? ⟨gw,1,none⟩ = some (.int .i64 w1):=blk_cellI (M:=[w0,w1,w2]) (k:=1) rfl kwU2
   have w2U2 : U2.cell? ⟨gw,2,none⟩ = some (.int .i64 w2):=blk_cellI (M:=[w0,w1,w2]) (k:=2) rfl kwU2
   by_cases z1 : h1 = 0
   ·have y1 : (h1 == 0) = true:=by simp [z1]
    have e1 : True:=trivial
    have EP:=Lib.hid (show passD ⟨[w0,w1,w2],[d0,d1,d2],q,2⟩ [h0,h1,h2] = ⟨[w0,w1,w2],[d0,0,0],q,1⟩ by simp [passD,at3,Z9.out,z1,e1])
    clear z1 e1
    go_upto_region 7 with fail
    obtain ⟨U3,eU3⟩ : ∃ v,v = U2.setCell ⟨g,1,none⟩ (.int .i64 (0)):=⟨_,rfl⟩
    have kcU3 : blk U3 c = some #[.slice (some ⟨gw,0,none⟩) 3 cw,.int .i64 q,.slice (some ⟨g,0,none⟩) 3 cd,.int .i64 1]:=(by rw [eU3];exact blk_other kcU2 ne_c_g)
    have kgU3 : blk U3 g = some (rowC ic [d0,0,0] ++ sp).toArray:=(by rw [eU3];exact blk_setI (M:=[d0,d1,0]) (k:=1) (x:=(d1)) rfl kgU2)
    have kwU3 : blk U3 gw = some (rowC ic [w0,w1,w2] ++ spw).toArray:=(by rw [eU3];exact blk_other kwU2 ne_gw_g)
    have khU3 : blk U3 hb = some #[.int .i64 h0,.int .i64 h1,.int .i64 h2]:=(by rw [eU3];exact blk_other khU2 ne_hb_g)
    have kzU3 : blk U3 zb = some #[.slice none 0 0,.int .i64 0,.slice none 0 0,.int .i64 0]:=(by rw [eU3];exact blk_other kzU2 ne_zb_g)
    have bU3 : w.grownBy U3 (some g):=(by rw [eU3];exact grown_setCell _ _ bU2 gr_g)
    rw [← eU3]
    clear eU3
    clear nU2 mU2 fU2 g0U2 g1U2 g2U2 w0U2 w1U2 w2U2
    have nU3:=kn kcU3
    have mU3:=kn khU3
    have fU3:=(kn kgU3).2.1
    have g0U3 : U3.cell? ⟨g,0,none⟩ = some (.int .i64 (d0)):=blk_cellI (M:=[d0,0,0]) (k:=0) rfl kgU3
    have g1U3 : U3.cell? ⟨g,1,none⟩ = some (.int .i64 (0)):=blk_cellI (M:=[d0,0,0]) (k:=1) rfl kgU3
    have g2U3 : U3.cell? ⟨g,2,none⟩ = some (.int .i64 (0)):=blk_cellI (M:=[d0,0,0]) (k:=2) rfl kgU3
    have w0U3 : U3.cell? ⟨gw,0,none⟩ = some (.int .i64 w0):=blk_cellI (M:=[w0,w1,w2]) (k:=0) rfl kwU3
    have w1U3 : U3.cell? ⟨gw,1,none⟩ = some (.int .i64 w1):=blk_cellI (M:=[w0,w1,w2]) (k:=1) rfl kwU3
    have w2U3 : U3.cell? ⟨gw,2,none⟩ = some (.int .i64 w2):=blk_cellI (M:=[w0,w1,w2]) (k:=2) rfl kwU3
    have nzU3:=kn kzU3
    go_wp2
    refine ret_blk (b:=zb) (c:=#[.slice (some ⟨gw,0,none⟩) 3 cw,.int .i64 q,.slice (some ⟨g,0,none⟩) 3 cd,.int .i64 1]) (v:=.agg #[.slice (some ⟨gw,0,none⟩) 3 cw,.int .i64 q,.slice (some ⟨g,0,none⟩) 3 cd,.int .i64 1]) (by have h9:=blk_set (i:=3) (v:=.int .i64 1) (blk_set (i:=2) (v:=.slice (some ⟨g,0,none⟩) 3 cd) (blk_set (i:=1) (v:=.int .i64 q) (blk_set (i:=0) (v:=.slice (some ⟨gw,0,none⟩) 3 cw) (kzU3))));exact h9) (fun W' hc => by simp [results,Tryd.results109,go_sem,hc]) rfl ⟨by rw [EP.out],grown_setCell _ _ (grown_setCell _ _ (grown_setCell _ _ (grown_setCell _ _ (bU3) gr_zb) gr_zb) gr_zb) gr_zb,?_,?_,?_⟩
    ·rw [EP.out];exact blk_other (blk_other (blk_other (blk_other kgU3 ne_g_zb) ne_g_zb) ne_g_zb) ne_g_zb
    ·exact blk_other (blk_other (blk_other (blk_other kwU3 ne_gw_zb) ne_gw_zb) ne_gw_zb) ne_gw_zb
    ·exact blk_other (blk_other (blk_other (blk_other khU3 ne_hb_zb) ne_hb_zb) ne_hb_zb) ne_hb_zb
   ·have y1 : (h1 == 0) = false:=by simpa using z1
    have e1 : w1 * q = M1:=HMM1.out
    have EP:=Lib.hid (show passD ⟨[w0,w1,w2],[d0,d1,d2],q,2⟩ [h0,h1,h2] = ⟨[w0,w1,w2],[d0,min 1099511627776 (d1 + M1),0],q,1⟩ by simp [passD,at3,Z9.out,z1,e1])
    clear z1
    have v1 : IntKind.i64.wrap M1 = M1:=IntWalk.i64_in _ (by omega)
    have v1' : IntKind.i64.wrap (d1 + M1) = d1 + M1:=IntWalk.i64_in _ (by omega)
    go_upto_region 6 with fail
    refine wp_region_tail 22 (by kernel_rfl) (by kernel_rfl) ?_
    intro W0 hE hN
    have j0 : blk W0 c = some #[.slice (some ⟨gw,0,none⟩) 3 cw,.int .i64 q,.slice (some ⟨g,0,none⟩) 3 cd,.int .i64 1]:=(by rw [hE.out];exact kcU2)
    have j1 : blk W0 g = some (rowC ic [d0,d1,0] ++ sp).toArray:=(by rw [hE.out];exact kgU2)
    have j2 : blk W0 gw = some (rowC ic [w0,w1,w2] ++ spw).toArray:=(by rw [hE.out];exact kwU2)
    have j3 : blk W0 hb = some #[.int .i64 h0,.int .i64 h1,.int .i64 h2]:=(by rw [hE.out];exact khU2)
    have j4 : blk W0 zb = some #[.slice none 0 0,.int .i64 0,.slice none 0 0,.int .i64 0]:=(by rw [hE.out];exact kzU2)
    have j9 : w.grownBy W0 (some g):=(by rw [hE.out];exact bU2)
    clear hE
    clear nU2 mU2 fU2 g0U2 g1U2 g2U2 w0U2 w1U2 w2U2
    clear kcU2 kgU2 kwU2 khU2 kzU2 bU2
    have q1:=calm_kn j0
    have q4:=calm_kn j3
    have r0 : ∀ X : Class (Calm W0),X.wd.cell? ⟨g,0,none⟩ = some (.int .i64 (d0)):=fun X => blk_cellI (M:=[d0,d1,0]) (k:=0) rfl (blk_below X.ok j1)
    have s0 : ∀ X : Class (Calm W0),X.wd.cell? ⟨gw,0,none⟩ = some (.int .i64 w0):=fun X => blk_cellI (M:=[w0,w1,w2]) (k:=0) rfl (blk_below X.ok j2)
    have r1 : ∀ X : Class (Calm W0),X.wd.cell? ⟨g,1,none⟩ = some (.int .i64 (d1)):=fun X => blk_cellI (M:=[d0,d1,0]) (k:=1) rfl (blk_below X.ok j1)
    have s1 : ∀ X : Class (Calm W0),X.wd.cell? ⟨gw,1,none⟩ = some (.int .i64 w1):=fun X => blk_cellI (M:=[w0,w1,w2]) (k:=1) rfl (blk_below X.ok j2)
    have r2 : ∀ X : Class (Calm W0),X.wd.cell? ⟨g,2,none⟩ = some (.int .i64 (0)):=fun X => blk_cellI (M:=[d0,d1,0]) (k:=2) rfl (blk_below X.ok j1)
    have s2 : ∀ X : Class (Calm W0),X.wd.cell? ⟨gw,2,none⟩ = some (.int .i64 w2):=fun X => blk_cellI (M:=[w0,w1,w2]) (k:=2) rfl (blk_below X.ok j2)
    simp only [List.take_succ_cons,List.take_zero,List.drop_succ_cons,List.drop_zero]
    repeat (go_big_quiet_step (fail))
    refine wpQuiet_nil ?_
    rintro _ ⟨x',rfl⟩
    have kcU4:=blk_below x'.ok j0
    have kgU4:=blk_below x'.ok j1
    have kwU4:=blk_below x'.ok j2
    have khU4:=blk_below x'.ok j3
    have kzU4:=blk_below x'.ok j4
    have bU4 : w.grownBy x'.wd (some g):=grown_thenB j9 x'.ok
    obtain ⟨U4,hu⟩ : ∃ u,u = x'.wd:=⟨_,rfl⟩
    rw [← hu] at kcU4 kgU4 kwU4 khU4 kzU4 bU4 ⊢
    clear hu x' hN q1 q4 r0 r1 r2 s0 s1 s2 j0 j1 j2 j3 j4 j9
    have nU4:=kn kcU4
    have mU4:=kn khU4
    have fU4:=(kn kgU4).2.1
    have g0U4 : U4.cell? ⟨g,0,none⟩ = some (.int .i64 (d0)):=blk_cellI (M:=[d0,d1,0]) (k:=0) rfl kgU4
    have g1U4 : U4.cell? ⟨g,1,none⟩ = some (.int .i64 (d1)):=blk_cellI (M:=[d0,d1,0]) (k:=1) rfl kgU4
    have g2U4 : U4.cell? ⟨g,2,none⟩ = some (.int .i64 (0)):=blk_cellI (M:=[d0,d1,0]) (k:=2) rfl kgU4
    have w0U4 : U4.cell? ⟨gw,0,none⟩ = some (.int .i64 w0):=blk_cellI (M:=[w0,w1,w2]) (k:=0) rfl kwU4
    have w1U4 : U4.cell? ⟨gw,1,none⟩ = some (.int .i64 w1):=blk_cellI (M:=[w0,w1,w2]) (k:=1) rfl kwU4
    have w2U4 : U4.cell? ⟨gw,2,none⟩ = some (.int .i64 w2):=blk_cellI (M:=[w0,w1,w2]) (k:=2) rfl kwU4
    go_upto_region 7 with fail
    obtain ⟨U3,eU3⟩ : ∃ v,v = U4.setCell ⟨g,1,none⟩ (.int .i64 (min 1099511627776 (d1 + M1))):=⟨_,rfl⟩
    have kcU3 : blk U3 c = some #[.slice (some ⟨gw,0,none⟩) 3 cw,.int .i64 q,.slice (some ⟨g,0,none⟩) 3 cd,.int .i64 1]:=(by rw [eU3];exact blk_other kcU4 ne_c_g)
    have kgU3 : blk U3 g = some (rowC ic [d0,min 1099511627776 (d1 + M1),0] ++ sp).toArray:=(by rw [eU3];exact blk_setI (M:=[d0,d1,0]) (k:=1) (x:=(d1)) rfl kgU4)
    have kwU3 : blk U3 gw = some (rowC ic [w0,w1,w2] ++ spw).toArray:=(by rw [eU3];exact blk_other kwU4 ne_gw_g)
    have khU3 : blk U3 hb = some #[.int .i64 h0,.int .i64 h1,.int .i64 h2]:=(by rw [eU3];exact blk_other khU4 ne_hb_g)
    have kzU3 : blk U3 zb = some #[.slice none 0 0,.int .i64 0,.slice none 0 0,.int .i64 0]:=(by rw [eU3];exact blk_other kzU4 ne_zb_g)
    have bU3 : w.grownBy U3 (some g):=(by rw [eU3];exact grown_setCell _ _ bU4 gr_g)
    rw [← eU3]
    clear eU3
    clear nU4 mU4 fU4 g0U4 g1U4 g2U4 w0U4 w1U4 w2U4
    have nU3:=kn kcU3
    have mU3:=kn khU3
    have fU3:=(kn kgU3).2.1
    have g0U3 : U3.cell? ⟨g,0,none⟩ = some (.int .i64 (d0)):=blk_cellI (M:=[d0,min 1099511627776 (d1 + M1),0]) (k:=0) rfl kgU3
    have g1U3 : U3.cell? ⟨g,1,none⟩ = some (.int .i64 (min 1099511627776 (d1 + M1))):=blk_cellI (M:=[d0,min 1099511627776 (d1 + M1),0]) (k:=1) rfl kgU3
    have g2U3 : U3.cell? ⟨g,2,none⟩ = some (.int .i64 (0)):=blk_cellI (M:=[d0,min 1099511627776 (d1 + M1),0]) (k:=2) rfl kgU3
    have w0U3 : U3.cell? ⟨gw,0,none⟩ = some (.int .i64 w0):=blk_cellI (M:=[w0,w1,w2]) (k:=0) rfl kwU3
    have w1U3 : U3.cell? ⟨gw,1,none⟩ = some (.int .i64 w1):=blk_cellI (M:=[w0,w1,w2]) (k:=1) rfl kwU3
    have w2U3 : U3.cell? ⟨gw,2,none⟩ = some (.int .i64 w2):=blk_cellI (M:=[w0,w1,w2]) (k:=2) rfl kwU3
    have nzU3:=kn kzU3
    go_wp2
    refine ret_blk (b:=zb) (c:=#[.slice (some ⟨gw,0,none⟩) 3 cw,.int .i64 q,.slice (some ⟨g,0,none⟩) 3 cd,.int .i64 1]) (v:=.agg #[.slice (some ⟨gw,0,none⟩) 3 cw,.int .i64 q,.slice (some ⟨g,0,none⟩) 3 cd,.int .i64 1]) (by have h9:=blk_set (i:=3) (v:=.int .i64 1) (blk_set (i:=2) (v:=.slice (some ⟨g,0,none⟩) 3 cd) (blk_set (i:=1) (v:=.int .i64 q) (blk_set (i:=0) (v:=.slice (some ⟨gw,0,none⟩) 3 cw) (kzU3))));exact h9) (fun W' hc => by simp [results,Tryd.results109,go_sem,hc]) rfl ⟨by rw [EP.out],grown_setCell _ _ (grown_setCell _ _ (grown_setCell _ _ (grown_setCell _ _ (bU3) gr_zb) gr_zb) gr_zb) gr_zb,?_,?_,?_⟩
    ·rw [EP.out];exact blk_other (blk_other (blk_other (blk_other kgU3 ne_g_zb) ne_g_zb) ne_g_zb) ne_g_zb
    ·exact blk_other (blk_other (blk_other (blk_other kwU3 ne_gw_zb) ne_gw_zb) ne_gw_zb) ne_gw_zb
    ·exact blk_other (blk_other (blk_other (blk_other khU3 ne_hb_zb) ne_hb_zb) ne_hb_zb) ne_hb_zb
  ·have x1 : (h2 == 0) = false:=by simpa using z2
   have Z9:=Lib.hid z2
   clear z2
   go_upto_region 4 with fail
   obtain ⟨U2,eU2⟩ : ∃ v,v = V.setCell ⟨c,3,none⟩ (.int .i64 1):=⟨_,rfl⟩
   have kcU2 : blk U2 c = some #[.slice (some ⟨gw,0,none⟩) 3 cw,.int .i64 q,.slice (some ⟨g,0,none⟩) 3 cd,.int .i64 1]:=(by rw [eU2];exact blk_set kcV)
   have kgU2 : blk U2 g = some (rowC ic [d0,d1,d2] ++ sp).toArray:=(by rw [eU2];exact blk_other kgV ne_g_c)
   have kwU2 : blk U2 gw = some (rowC ic [w0,w1,w2] ++ spw).toArray:=(by rw [eU2];exact blk_other kwV ne_gw_c)
   have khU2 : blk U2 hb = some #[.int .i64 h0,.int .i64 h1,.int .i64 h2]:=(by rw [eU2];exact blk_other khV ne_hb_c)
   have kzU2 : blk U2 zb = some #[.slice none 0 0,.int .i64 0,.slice none 0 0,.int .i64 0]:=(by rw [eU2];exact blk_other kzV ne_zb_c)
   have bU2 : w.grownBy U2 (some g):=(by rw [eU2];exact grown_setCell _ _ bV gr_c)
   rw [← eU2]
   clear eU2
   clear nV mV fV g0V g1V g2V w0V w1V w2V
   have nU2:=kn kcU2
   have mU2:=kn khU2
   have fU2:=(kn kgU2).2.1
   have g0U2 : U2.cell? ⟨g,0,none⟩ = some (.int .i64 (d0)):=blk_cellI (M:=[d0,d1,d2]) (k:=0) rfl kgU2
   have g1U2 : U2.cell? ⟨g,1,none⟩ = some (.int .i64 (d1)):=blk_cellI (M:=[d0,d1,d2]) (k:=1) rfl kgU2
   have g2U2 : U2.cell? ⟨g,2,none⟩ = some (.int .i64 (d2)):=blk_cellI (M:=[d0,d1,d2]) (k:=2) rfl kgU2
   have w0U2 : U2.cell? ⟨gw,0,none⟩ = some (.int .i64 w0):=blk_cellI (M:=[w0,w1,w2]) (k:=0) rfl kwU2
   have w1U2 : U2.cell? ⟨gw,1,none⟩ = some (.int .i64 w1):=blk_cellI (M:=[w0,w1,w2]) (k:=1) rfl kwU2
   have w2U2 : U2.cell? ⟨gw,2,none⟩ = some (.int .i64 w2):=blk_cellI (M:=[w0,w1,w2]) (k:=2) rfl kwU2
   by_cases z1 : h1 = 0
   ·have y1 : (h1 == 0) = true:=by simp [z1]
    have e1 : True:=trivial
    have EP:=Lib.hid (show passD ⟨[w0,w1,w2],[d0,d1,d2],q,2⟩ [h0,h1,h2] = ⟨[w0,w1,w2],[d0,0,d2],q,1⟩ by simp [passD,at3,Z9.out,z1,e1])
    clear z1 e1
    go_upto_region 7 with fail
    obtain ⟨U3,eU3⟩ : ∃ v,v = U2.setCell ⟨g,1,none⟩ (.int .i64 (0)):=⟨_,rfl⟩
    have kcU3 : blk U3 c = some #[.slice (some ⟨gw,0,none⟩) 3 cw,.int .i64 q,.slice (some ⟨g,0,none⟩) 3 cd,.int .i64 1]:=(by rw [eU3];exact blk_other kcU2 ne_c_g)
    have kgU3 : blk U3 g = some (rowC ic [d0,0,d2] ++ sp).toArray:=(by rw [eU3];exact blk_setI (M:=[d0,d1,d2]) (k:=1) (x:=(d1)) rfl kgU2)
    have kwU3 : blk U3 gw = some (rowC ic [w0,w1,w2] ++ spw).toArray:=(by rw [eU3];exact blk_other kwU2 ne_gw_g)
    have khU3 : blk U3 hb = some #[.int .i64 h0,.int .i64 h1,.int .i64 h2]:=(by rw [eU3];exact blk_other khU2 ne_hb_g)
    have kzU3 : blk U3 zb = some #[.slice none 0 0,.int .i64 0,.slice none 0 0,.int .i64 0]:=(by rw [eU3];exact blk_other kzU2 ne_zb_g)
    have bU3 : w.grownBy U3 (some g):=(by rw [eU3];exact grown_setCell _ _ bU2 gr_g)
    rw [← eU3]
    clear eU3
    clear nU2 mU2 fU2 g0U2 g1U2 g2U2 w0U2 w1U2 w2U2
    have nU3:=kn kcU3
    have mU3:=kn khU3
    have fU3:=(kn kgU3).2.1
    have g0U3 : U3.cell? ⟨g,0,none⟩ = some (.int .i64 (d0)):=blk_cellI (M:=[d0,0,d2]) (k:=0) rfl kgU3
    have g1U3 : U3.cell? ⟨g,1,none⟩ = some (.int .i64 (0)):=blk_cellI (M:=[d0,0,d2]) (k:=1) rfl kgU3
    have g2U3 : U3.cell? ⟨g,2,none⟩ = some (.int .i64 (d2)):=blk_cellI (M:=[d0,0,d2]) (k:=2) rfl kgU3
    have w0U3 : U3.cell? ⟨gw,0,none⟩ = some (.int .i64 w0):=blk_cellI (M:=[w0,w1,w2]) (k:=0) rfl kwU3
    have w1U3 : U3.cell? ⟨gw,1,none⟩ = some (.int .i64 w1):=blk_cellI (M:=[w0,w1,w2]) (k:=1) rfl kwU3
    have w2U3 : U3.cell? ⟨gw,2,none⟩ = some (.int .i64 w2):=blk_cellI (M:=[w0,w1,w2]) (k:=2) rfl kwU3
    have nzU3:=kn kzU3
    go_wp2
    refine ret_blk (b:=zb) (c:=#[.slice (some ⟨gw,0,none⟩) 3 cw,.int .i64 q,.slice (some ⟨g,0,none⟩) 3 cd,.int .i64 1]) (v:=.agg #[.slice (some ⟨gw,0,none⟩) 3 cw,.int .i64 q,.slice (some ⟨g,0,none⟩) 3 cd,.int .i64 1]) (by have h9:=blk_set (i:=3) (v:=.int .i64 1) (blk_set (i:=2) (v:=.slice (some ⟨g,0,none⟩) 3 cd) (blk_set (i:=1) (v:=.int .i64 q) (blk_set (i:=0) (v:=.slice (some ⟨gw,0,none⟩) 3 cw) (kzU3))));exact h9) (fun W' hc => by simp [results,Tryd.results109,go_sem,hc]) rfl ⟨by rw [EP.out],grown_setCell _ _ (grown_setCell _ _ (grown_setCell _ _ (grown_setCell _ _ (bU3) gr_zb) gr_zb) gr_zb) gr_zb,?_,?_,?_⟩
    ·rw [EP.out];exact blk_other (blk_other (blk_other (blk_other kgU3 ne_g_zb) ne_g_zb) ne_g_zb) ne_g_zb
    ·exact blk_other (blk_other (blk_other (blk_other kwU3 ne_gw_zb) ne_gw_zb) ne_gw_zb) ne_gw_zb
    ·exact blk_other (blk_other (blk_other (blk_other khU3 ne_hb_zb) ne_hb_zb) ne_hb_zb) ne_hb_zb
   ·have y1 : (h1 == 0) = false:=by simpa using z1
    have e1 : w1 * q = M1:=HMM1.out
    have EP:=Lib.hid (show passD ⟨[w0,w1,w2],[d0,d1,d2],q,2⟩ [h0,h1,h2] = ⟨[w0,w1,w2],[d0,min 1099511627776 (d1 + M1),d2],q,1⟩ by simp [passD,at3,Z9.out,z1,e1])
    clear z1
    have v1 : IntKind.i64.wrap M1 = M1:=IntWalk.i64_in _ (by omega)
    have v1' : IntKind.i64.wrap (d1 + M1) = d1 + M1:=IntWalk.i64_in _ (by omega)
    go_upto_region 6 with fail
    refine wp_region_tail 22 (by kernel_rfl) (by kernel_rfl) ?_
    intro W0 hE hN
    have j0 : blk W0 c = some #[.slice (some ⟨gw,0,none⟩) 3 cw,.int .i64 q,.slice (some ⟨g,0,none⟩) 3 cd,.int .i64 1]:=(by rw [hE.out];exact kcU2)
    have j1 : blk W0 g = some (rowC ic [d0,d1,d2] ++ sp).toArray:=(by rw [hE.out];exact kgU2)
    have j2 : blk W0 gw = some (rowC ic [w0,w1,w2] ++ spw).toArray:=(by rw [hE.out];exact kwU2)
    have j3 : blk W0 hb = some #[.int .i64 h0,.int .i64 h1,.int .i64 h2]:=(by rw [hE.out];exact khU2)
    have j4 : blk W0 zb = some #[.slice none 0 0,.int .i64 0,.slice none 0 0,.int .i64 0]:=(by rw [hE.out];exact kzU2)
    have j9 : w.grownBy W0 (some g):=(by rw [hE.out];exact bU2)
    clear hE
    clear nU2 mU2 fU2 g0U2 g1U2 g2U2 w0U2 w1U2 w2U2
    clear kcU2 kgU2 kwU2 khU2 kzU2 bU2
    have q1:=calm_kn j0
    have q4:=calm_kn j3
    have r0 : ∀ X : Class (Calm W0),X.wd.cell? ⟨g,0,none⟩ = some (.int .i64 (d0)):=fun X => blk_cellI (M:=[d0,d1,d2]) (k:=0) rfl (blk_below X.ok j1)
    have s0 : ∀ X : Class (Calm W0),X.wd.cell? ⟨gw,0,none⟩ = some (.int .i64 w0):=fun X => blk_cellI (M:=[w0,w1,w2]) (k:=0) rfl (blk_below X.ok j2)
    have r1 : ∀ X : Class (Calm W0),X.wd.cell? ⟨g,1,none⟩ = some (.int .i64 (d1)):=fun X => blk_cellI (M:=[d0,d1,d2]) (k:=1) rfl (blk_below X.ok j1)
    have s1 : ∀ X : Class (Calm W0),X.wd.cell? ⟨gw,1,none⟩ = some (.int .i64 w1):=fun X => blk_cellI (M:=[w0,w1,w2]) (k:=1) rfl (blk_below X.ok j2)
    have r2 : ∀ X : Class (Calm W0),X.wd.cell? ⟨g,2,none⟩ = some (.int .i64 (d2)):=fun X => blk_cellI (M:=[d0,d1,d2]) (k:=2) rfl (blk_below X.ok j1)
    have s2 : ∀ X : Class (Calm W0),X.wd.cell? ⟨gw,2,none⟩ = some (.int .i64 w2):=fun X => blk_cellI (M:=[w0,w1,w2]) (k:=2) rfl (blk_below X.ok j2)
    simp only [List.take_succ_cons,List.take_zero,List.drop_succ_cons,List.drop_zero]
    repeat (go_big_quiet_step (fail))
    refine wpQuiet_nil ?_
    rintro _ ⟨x',rfl⟩
    have kcU4:=blk_below x'.ok j0
    have kgU4:=blk_below x'.ok j1
    have kwU4:=blk_below x'.ok j2
    have khU4:=blk_below x'.ok j3
    have kzU4:=blk_below x'.ok j4
    have bU4 : w.grownBy x'.wd (some g):=grown_thenB j9 x'.ok
    obtain ⟨U4,hu⟩ : ∃ u,u = x'.wd:=⟨_,rfl⟩
    rw [← hu] at kcU4 kgU4 kwU4 khU4 kzU4 bU4 ⊢
    clear hu x' hN q1 q4 r0 r1 r2 s0 s1 s2 j0 j1 j2 j3 j4 j9
    have nU4:=kn kcU4
    have mU4:=kn khU4
    have fU4:=(kn kgU4).2.1
    have g0U4 : U4.cell? ⟨g,0,none⟩ = some (.int .i64 (d0)):=blk_cellI (M:=[d0,d1,d2]) (k:=0) rfl kgU4
    have g1U4 : U4.cell? ⟨g,1,none⟩ = some (.int .i64 (d1)):=blk_cellI (M:=[d0,d1,d2]) (k:=1) rfl kgU4
    have g2U4 : U4.cell? ⟨g,2,none⟩ = some (.int .i64 (d2)):=blk_cellI (M:=[d0,d1,d2]) (k:=2) rfl kgU4
    have w0U4 : U4.cell? ⟨gw,0,none⟩ = some (.int .i64 w0):=blk_cellI (M:=[w0,w1,w2]) (k:=0) rfl kwU4
    have w1U4 : U4.cell? ⟨gw,1,none⟩ = some (.int .i64 w1):=blk_cellI (M:=[w0,w1,w2]) (k:=1) rfl kwU4
    have w2U4 : U4.cell? ⟨gw,2,none⟩ = some (.int .i64 w2):=blk_cellI (M:=[w0,w1,w2]) (k:=2) rfl kwU4
    go_upto_region 7 with fail
    obtain ⟨U3,eU3⟩ : ∃ v,v = U4.setCell ⟨g,1,none⟩ (.int .i64 (min 1099511627776 (d1 + M1))):=⟨_,rfl⟩
    have kcU3 : blk U3 c = some #[.slice (some ⟨gw,0,none⟩) 3 cw,.int .i64 q,.slice (some ⟨g,0,none⟩) 3 cd,.int .i64 1]:=(by rw [eU3];exact blk_other kcU4 ne_c_g)
    have kgU3 : blk U3 g = some (rowC ic [d0,min 1099511627776 (d1 + M1),d2] ++ sp).toArray:=(by rw [eU3];exact blk_setI (M:=[d0,d1,d2]) (k:=1) (x:=(d1)) rfl kgU4)
    have kwU3 : blk U3 gw = some (rowC ic [w0,w1,w2] ++ spw).toArray:=(by rw [eU3];exact blk_other kwU4 ne_gw_g)
    have khU3 : blk U3 hb = some #[.int .i64 h0,.int .i64 h1,.int .i64 h2]:=(by rw [eU3];exact blk_other khU4 ne_hb_g)
    have kzU3 : blk U3 zb = some #[.slice none 0 0,.int .i64 0,.slice none 0 0,.int .i64 0]:=(by rw [eU3];exact blk_other kzU4 ne_zb_g)
    have bU3 : w.grownBy U3 (some g):=(by rw [eU3];exact grown_setCell _ _ bU4 gr_g)
    rw [← eU3]
    clear eU3
    clear nU4 mU4 fU4 g0U4 g1U4 g2U4 w0U4 w1U4 w2U4
    have nU3:=kn kcU3
    have mU3:=kn khU3
    have fU3:=(kn kgU3).2.1
    have g0U3 : U3.cell? ⟨g,0,none⟩ = some (.int .i64 (d0)):=blk_cellI (M:=[d0,min 1099511627776 (d1 + M1),d2]) (k:=0) rfl kgU3
    have g1U3 : U3.cell? ⟨g,1,none⟩ = some (.int .i64 (min 1099511627776 (d1 + M1))):=blk_cellI (M:=[d0,min 1099511627776 (d1 + M1),d2]) (k:=1) rfl kgU3
    have g2U3 : U3.cell? ⟨g,2,none⟩ = some (.int .i64 (d2)):=blk_cellI (M:=[d0,min 1099511627776 (d1 + M1),d2]) (k:=2) rfl kgU3
    have w0U3 : U3.cell? ⟨gw,0,none⟩ = some (.int .i64 w0):=blk_cellI (M:=[w0,w1,w2]) (k:=0) rfl kwU3
    have w1U3 : U3.cell? ⟨gw,1,none⟩ = some (.int .i64 w1):=blk_cellI (M:=[w0,w1,w2]) (k:=1) rfl kwU3
    have w2U3 : U3.cell? ⟨gw,2,none⟩ = some (.int .i64 w2):=blk_cellI (M:=[w0,w1,w2]) (k:=2) rfl kwU3
    have nzU3:=kn kzU3
    go_wp2
    refine ret_blk (b:=zb) (c:=#[.slice (some ⟨gw,0,none⟩) 3 cw,.int .i64 q,.slice (some ⟨g,0,none⟩) 3 cd,.int .i64 1]) (v:=.agg #[.slice (some ⟨gw,0,none⟩) 3 cw,.int .i64 q,.slice (some ⟨g,0,none⟩) 3 cd,.int .i64 1]) (by have h9:=blk_set (i:=3) (v:=.int .i64 1) (blk_set (i:=2) (v:=.slice (some ⟨g,0,none⟩) 3 cd) (blk_set (i:=1) (v:=.int .i64 q) (blk_set (i:=0) (v:=.slice (some ⟨gw,0,none⟩) 3 cw) (kzU3))));exact h9) (fun W' hc => by simp [results,Tryd.results109,go_sem,hc]) rfl ⟨by rw [EP.out],grown_setCell _ _ (grown_setCell _ _ (grown_setCell _ _ (grown_setCell _ _ (bU3) gr_zb) gr_zb) gr_zb) gr_zb,?_,?_,?_⟩
    ·rw [EP.out];exact blk_other (blk_other (blk_other (blk_other kgU3 ne_g_zb) ne_g_zb) ne_g_zb) ne_g_zb
    ·exact blk_other (blk_other (blk_other (blk_other kwU3 ne_gw_zb) ne_gw_zb) ne_gw_zb) ne_gw_zb
    ·exact blk_other (blk_other (blk_other (blk_other khU3 ne_hb_zb) ne_hb_zb) ne_hb_zb) ne_hb_zb
end Go.Proofs.YtkaehoihpgelnaaDoor
