/- Parts of a proof, printed by a program of mine out of my texts: EgRChk, EgRLst, EgRQue, EgRQu2, EgRQx. -/
import Derived.Maps.AppendAt
import Derived.Test.YtkaehoihpgelnaaDoorCF
import Derived.Test.YtkaehoihpgelnaaDoorCK
import Derived.Test.YtkaehoihpgelnaaDoorCL
import Derived.Test.YtkaehoihpgelnaaDoorCR
import Derived.Test.YtkaehoihpgelnaaDoorCU
import Derived.Test.YtkaehoihpgelnaaDoorCW
set_option linter.unusedSimpArgs false
set_option linter.unusedVariables false
set_option maxRecDepth 100000
namespace Go.Proofs.YtkaehoihpgelnaaDoor
open Go.RowKit
set_option maxHeartbeats 1600000 in
theorem rweighed_any (a : Option Addr) (cap : Nat) (ws : List Int) (q : Int) (w : World) (hrow : SRow ic 1 w a cap ws) :
    Calls Tryd.prog 68 #[.slice a ws.length cap,.int .i64 q] w fun e w' => e = .returned (.int .i64 (weiS ws q)) ∧ w = w':=by
  have HR:=Lib.hid hrow
  have hcap:=hrow.1
  have hmax:=hrow.2.1
  unfold maxLen at hmax
  clear hrow
  have hun : undef = Value.tuple #[]:=rfl
  go_enter Tryd.func68,Tryd.ntmps68
  go_wp2
  go_loopw [5] (fun i wr => ∃ k : Nat,i = .int .i64 k ∧ k ≤ ws.length ∧ w = wr ∧ Hid (∀ j (h : j < ws.length),j < k → 1 ≤ ws[j] ∧ ws[j] ≤ 100)) (fun i _ => ws.length - (intOf i).toNat)
  case atStart => exact ⟨0,rfl,Nat.zero_le _,rfl,Lib.hid (fun j h h2 => absurd h2 (by omega))⟩
  case round =>
    obtain ⟨k,rfl,hk,rfl,HK⟩:=hrel
    by_cases hlt : k < ws.length
    · have hltz : (k : Int) < (ws.length : Int):=by omega
      obtain ⟨b,o,rfl,_,_⟩:=HR.out.2.2.2 (by omega)
      have c1:=(srow_cellE HR.out hlt).2
      obtain ⟨x,hx⟩ : ∃ x,x = ws[k]:=⟨_,rfl⟩
      rw [← hx] at c1
      by_cases h1 : x < 1
      · have t1 : decide (x < 1) = true:=decide_eq_true h1
        have e9 : weiS ws q = 2:=by unfold weiS;rw [if_neg (okW_bad hlt (by omega))]
        have E9:=Lib.hid e9
        clear hx HK e9 h1
        go_wp2
        go_ret
        exact ⟨by rw [E9.out];rfl,rfl⟩
      · have t1 : decide (x < 1) = false:=decide_eq_false h1
        by_cases h2 : 100 < x
        · have t2 : decide (100 < x) = true:=decide_eq_true h2
          have e9 : weiS ws q = 2:=by unfold weiS;rw [if_neg (okW_bad hlt (by omega))]
          have E9:=Lib.hid e9
          clear hx HK e9 h1 h2
          go_wp2
          go_ret
          exact ⟨by rw [E9.out];rfl,rfl⟩
        · have t2 : decide (100 < x) = false:=decide_eq_false h2
          have HK2 : Hid (∀ j (h : j < ws.length),j < k + 1 → 1 ≤ ws[j] ∧ ws[j] ≤ 100):=Lib.hid (fun j h h3 => by
            rcases Nat.lt_or_ge j k with h4|h4
            · exact HK.out j h h4
            · obtain rfl : j = k:=by omega
              rw [← hx];omega)
          clear hx HK h1 h2
          go_wp2
          go_roundw
          case rel => exact ⟨k + 1,by go_num,by omega,by trivial,HK2⟩
          case measure => simp [intOf];omega
    · obtain rfl : k = ws.length:=by omega
      have hok : okW ws:=all_at (fun j h => HK.out j h h)
      clear HK
      by_cases h1 : q < 1
      · have t1 : decide (q < 1) = true:=decide_eq_true h1
        have E9:=Lib.hid (show weiS ws q = 2 by unfold weiS;rw [if_pos hok,if_pos (.inl h1)])
        clear h1 hok
        go_wp2
        go_ret
        exact ⟨by rw [E9.out];rfl,rfl⟩
      · have t1 : decide (q < 1) = false:=decide_eq_false h1
        by_cases h2 : 1200 < q
        · have t2 : decide (1200 < q) = true:=decide_eq_true h2
          have E9:=Lib.hid (show weiS ws q = 2 by unfold weiS;rw [if_pos hok,if_pos (.inr h2)])
          clear h1 h2 hok
          go_wp2
          go_ret
          exact ⟨by rw [E9.out];rfl,rfl⟩
        · have t2 : decide (1200 < q) = false:=decide_eq_false h2
          have E9:=Lib.hid (weiS_ok (q:=q) hok (by omega) (by omega))
          clear h1 h2 hok
          go_wp2
          go_ret
          exact ⟨by rw [E9.out];rfl,rfl⟩
set_option maxHeartbeats 1600000 in
theorem rdchk_any (aw : Option Addr) (cw : Nat) (ad : Option Addr) (cd : Nat) (x : Rr) (w : World) (hw : SRow ic 1 w aw cw x.w) (hd : SRow ic 1 w ad cd x.d) :
    Calls Tryd.prog 53 #[.agg #[.slice aw x.w.length cw,.int .i64 x.q,.slice ad x.d.length cd,.int .i64 x.t]] w fun e w' => e = .returned (.int .i64 (chkD x)) ∧ Below w.heap.size w w':=by
  obtain ⟨ws,ds,q,t⟩:=x
  simp only at hw hd ⊢
  have HW:=Lib.hid hw;have HD:=Lib.hid hd
  have hcap:=hd.1
  have hmax:=hd.2.1
  unfold maxLen at hmax
  have hun : undef = Value.tuple #[]:=rfl
  clear hw hd
  obtain ⟨R,hR⟩ : ∃ R,chkD ⟨ws,ds,q,t⟩ = R:=⟨_,rfl⟩
  have hR2 : (if ws.length ≠ 3 ∨ ds.length ≠ 3 then 3 else if weiS ws q ≠ 0 then weiS ws q else if ¬ okF ds then 2 else if t < 0 ∨ 3 ≤ t then 2 else 0) = R:=hR
  rw [hR]
  clear hR
  by_cases h1 : ws.length = 3
  · have t1 : ((ws.length : Int) != 3) = false:=by simp [h1]
    by_cases h2 : ds.length = 3
    · have t2 : ((ds.length : Int) != 3) = false:=by simp [h2]
      rw [if_neg (by omega)] at hR2
      have gw : ∀ W,Below w.heap.size w W → Calls Tryd.prog 68 #[.slice aw ws.length cw,.int .i64 q] W fun e w' => e = .returned (.int .i64 (weiS ws q)) ∧ W = w':=fun W hB => rweighed_any aw cw ws q W (HW.out.below hB)
      obtain ⟨c,hc⟩ : ∃ c,weiS ws q = c:=⟨_,rfl⟩
      rw [hc] at gw hR2
      have GW:=Lib.hid gw
      have W1:=Lib.hid h1;have D1:=Lib.hid h2
      clear gw hc h1 h2
      by_cases h3 : c = 0
      · subst h3
        rw [if_neg (by simp)] at hR2
        have t3 : ((0 : Int) != 0) = false:=rfl
        go_enter Tryd.func53,Tryd.ntmps53
        go_wp2_with (go_at_call 68;(with_reducible refine (GW.out _ (by (repeat(first|(with_reducible first|assumption|exact Below.refl _ _|refine je ?_|refine jl ?_)|((with_reducible refine jp ?_ ?_);first|focus(dsimp only;assumption)|focus(simp;done)|focus(dsimp only;omega))|(with_reducible refine bt ?_ (by assumption)))))).mono ?_);rintro e w2 ⟨rfl,rfl⟩)
        obtain ⟨V,hV⟩ : ∃ V,V = w.alloc (.cells #[.slice aw ws.length cw,.int .i64 q,.slice ad ds.length cd,.int .i64 t] 26):=⟨_,rfl⟩
        have kV : blk V w.heap.size = some #[.slice aw ws.length cw,.int .i64 q,.slice ad ds.length cd,.int .i64 t]:=by rw [hV];exact blk_alloc_new _ _ _ rfl
        have bV : Below w.heap.size w V:=by rw [hV];exact (Below.refl _ _).alloc (Nat.le_refl _) _
        have nV:=kn kV
        have HDV:=Lib.hid (HD.out.below bV)
        rw [← hV]
        clear hV
        go_loopw [4] (fun i wr => ∃ k : Nat,i = .int .i64 k ∧ k ≤ ds.length ∧ V = wr ∧ Hid (∀ j (h : j < ds.length),j < k → 0 ≤ ds[j] ∧ ds[j] ≤ 1099511627776)) (fun i _ => ds.length - (intOf i).toNat)
        case atStart => exact ⟨0,rfl,Nat.zero_le _,rfl,Lib.hid (fun j h h2 => absurd h2 (by omega))⟩
        case round =>
          obtain ⟨k,rfl,hk,rfl,HK⟩:=hrel
          have d13:=D1.out
          by_cases hlt : k < ds.length
          · have hltz : (k : Int) < (ds.length : Int):=by omega
            have hl3 : decide ((k : Int) < 3) = true:=decide_eq_true (by omega)
            clear d13
            obtain ⟨b,o,rfl,_,_⟩:=HDV.out.2.2.2 (by omega)
            have c1:=(srow_cellE HDV.out hlt).2
            obtain ⟨x,hx⟩ : ∃ x,x = ds[k]:=⟨_,rfl⟩
            rw [← hx] at c1
            by_cases g1 : x < 0
            · have s1 : decide (x < 0) = true:=decide_eq_true g1
              rw [if_pos (okF_bad hlt (by omega))] at hR2
              clear hx HK g1
              have H2:=Lib.hid hR2
              clear hR2
              go_wp2
              go_ret
              exact ⟨by rw [← H2.out];rfl,bV⟩
            · have s1 : decide (x < 0) = false:=decide_eq_false g1
              by_cases g2 : 1099511627776 < x
              · have s2 : decide (1099511627776 < x) = true:=decide_eq_true g2
                rw [if_pos (okF_bad hlt (by omega))] at hR2
                clear hx HK g1 g2
                have H2:=Lib.hid hR2
                clear hR2
                go_wp2
                go_ret
                exact ⟨by rw [← H2.out];rfl,bV⟩
              · have s2 : decide (1099511627776 < x) = false:=decide_eq_false g2
                have HK2 : Hid (∀ j (h : j < ds.length),j < k + 1 → 0 ≤ ds[j] ∧ ds[j] ≤ 1099511627776):=Lib.hid (fun j h h3 => by
                  rcases Nat.lt_or_ge j k with h4|h4
                  · exact HK.out j h h4
                  · obtain rfl : j = k:=by omega
                    rw [← hx];omega)
                clear hx HK g1 g2
                go_wp2
                go_roundw
                case rel => exact ⟨k + 1,by go_num,by omega,by trivial,HK2⟩
                case measure => simp [intOf];omega
          · obtain rfl : k = ds.length:=by omega
            have hl3 : decide ((ds.length : Int) < 3) = false:=decide_eq_false (by omega)
            clear d13
            have hok : okF ds:=all_at (fun j h => HK.out j h h)
            rw [if_neg (by simpa using hok)] at hR2
            clear HK hok
            by_cases g1 : t < 0
            · have s1 : decide (t < 0) = true:=decide_eq_true g1
              rw [if_pos (.inl g1)] at hR2
              clear g1
              have H2:=Lib.hid hR2
              clear hR2
              go_wp2
              go_ret
              exact ⟨by rw [← H2.out];rfl,bV⟩
            · have s1 : decide (t < 0) = false:=decide_eq_false g1
              by_cases g2 : 3 ≤ t
              · have s2 : decide (2 < t) = true:=decide_eq_true (by omega)
                rw [if_pos (.inr g2)] at hR2
                clear g1 g2
                have H2:=Lib.hid hR2
                clear hR2
                go_wp2
                go_ret
                exact ⟨by rw [← H2.out];rfl,bV⟩
              · have s2 : decide (2 < t) = false:=decide_eq_false (by omega)
                rw [if_neg (by omega)] at hR2
                clear g1 g2
                have H2:=Lib.hid hR2
                clear hR2
                go_wp2
                go_ret
                exact ⟨by rw [← H2.out];rfl,bV⟩
      · rw [if_pos h3] at hR2
        have t3 : (c != 0) = true:=by simpa using h3
        clear h3
        have H2:=Lib.hid hR2
        clear hR2
        go_enter Tryd.func53,Tryd.ntmps53
        go_wp2_with (go_at_call 68;(with_reducible refine (GW.out _ (by (repeat(first|(with_reducible first|assumption|exact Below.refl _ _|refine je ?_|refine jl ?_)|((with_reducible refine jp ?_ ?_);first|focus(dsimp only;assumption)|focus(simp;done)|focus(dsimp only;omega))|(with_reducible refine bt ?_ (by assumption)))))).mono ?_);rintro e w2 ⟨rfl,rfl⟩)
        go_ret
        exact ⟨by rw [← H2.out];rfl,by (repeat(first|(with_reducible first|assumption|exact Below.refl _ _|refine je ?_|refine jl ?_)|((with_reducible refine jp ?_ ?_);first|focus(dsimp only;assumption)|focus(simp;done)|focus(dsimp only;omega))|(with_reducible refine bt ?_ (by assumption))))⟩
    · have t2 : ((ds.length : Int) != 3) = true:=by simp;omega
      rw [if_pos (.inr h2)] at hR2
      clear h1 h2
      have H2:=Lib.hid hR2
      clear hR2
      go_enter Tryd.func53,Tryd.ntmps53
      go_wp2
      go_ret
      exact ⟨by rw [← H2.out];rfl,by (repeat(first|(with_reducible first|assumption|exact Below.refl _ _|refine je ?_|refine jl ?_)|((with_reducible refine jp ?_ ?_);first|focus(dsimp only;assumption)|focus(simp;done)|focus(dsimp only;omega))|(with_reducible refine bt ?_ (by assumption))))⟩
  · have t1 : ((ws.length : Int) != 3) = true:=by simp;omega
    rw [if_pos (.inl h1)] at hR2
    clear h1
    have H2:=Lib.hid hR2
    clear hR2
    go_enter Tryd.func53,Tryd.ntmps53
    go_wp2
    go_ret
    exact ⟨by rw [← H2.out];rfl,by (repeat(first|(with_reducible first|assumption|exact Below.refl _ _|refine je ?_|refine jl ?_)|((with_reducible refine jp ?_ ?_);first|focus(dsimp only;assumption)|focus(simp;done)|focus(dsimp only;omega))|(with_reducible refine bt ?_ (by assumption))))⟩
set_option maxHeartbeats 1600000 in
theorem rxchk_any (aw : Option Addr) (cw : Nat) (ad : Option Addr) (cd : Nat) (ap : Option Addr) (cp : Nat) (x : Rr) (ps : List Int) (w : World) (hw : SRow ic 1 w aw cw x.w) (hd : SRow ic 1 w ad cd x.d) (hp : SRow ic 1 w ap cp ps) :
    Calls Tryd.prog 25 #[.agg #[.slice aw x.w.length cw,.int .i64 x.q,.slice ad x.d.length cd,.int .i64 x.t,.slice ap ps.length cp]] w fun e w' => e = .returned (.int .i64 (chkX x ps)) ∧ Below w.heap.size w w':=by
  have GD:=Lib.hid (fun W (hB : Below w.heap.size w W) => rdchk_any aw cw ad cd x W (hw.below hB) (hd.below hB))
  have HP:=Lib.hid hp
  have hcap:=hp.1
  have hmax:=hp.2.1
  unfold maxLen at hmax
  clear hw hd hp
  obtain ⟨wn,hwn⟩ : ∃ v,v = x.w.length:=⟨_,rfl⟩
  obtain ⟨dn,hdn⟩ : ∃ v,v = x.d.length:=⟨_,rfl⟩
  obtain ⟨xq,hxq⟩ : ∃ v,v = x.q:=⟨_,rfl⟩
  obtain ⟨xt,hxt⟩ : ∃ v,v = x.t:=⟨_,rfl⟩
  obtain ⟨R,hR⟩ : ∃ R,chkX x ps = R:=⟨_,rfl⟩
  have hR2 : (if chkD x ≠ 0 then chkD x else if ps.length ≠ 3 then 3 else if okP ps then 0 else 2) = R:=hR
  rw [← hwn,← hdn,← hxq,← hxt] at GD ⊢
  rw [hR]
  obtain ⟨c,hc⟩ : ∃ c,chkD x = c:=⟨_,rfl⟩
  rw [hc] at GD hR2
  clear hR hc hwn hdn hxq hxt
  have hun : undef = Value.tuple #[]:=rfl
  by_cases h0 : c = 0
  · subst h0
    rw [if_neg (by simp)] at hR2
    have t0 : ((0 : Int) != 0) = false:=rfl
    by_cases h1 : ps.length = 3
    · have t1 : ((ps.length : Int) != 3) = false:=by simp [h1]
      rw [if_neg (by omega)] at hR2
      have D1:=Lib.hid h1
      clear h1
      go_enter Tryd.func25,Tryd.ntmps25
      go_upto_region 6 with (go_at_call 53;(with_reducible refine (GD.out _ (by (repeat(first|(with_reducible first|assumption|exact Below.refl _ _|refine je ?_|refine jl ?_)|((with_reducible refine jp ?_ ?_);first|focus(dsimp only;assumption)|focus(simp;done)|focus(dsimp only;omega))|(with_reducible refine bt ?_ (by assumption)))))).mono ?_);rintro e V ⟨rfl,h2⟩;(have kV:=blk_below h2 (blk_alloc_new w #[.slice aw wn cw,.int .i64 xq,.slice ad dn cd,.int .i64 xt,.slice ap ps.length cp] 28 rfl));(have nV:=kn kV);(have bV : Below w.heap.size w V:=by (repeat(first|(with_reducible first|assumption|exact Below.refl _ _|refine je ?_|refine jl ?_)|((with_reducible refine jp ?_ ?_);first|focus(dsimp only;assumption)|focus(simp;done)|focus(dsimp only;omega))|(with_reducible refine bt ?_ (by assumption)))));clear h2)
      have HDV:=Lib.hid (HP.out.below bV)
      go_wp2
      go_loopw [4] (fun i wr => ∃ k : Nat,i = .int .i64 k ∧ k ≤ ps.length ∧ V = wr ∧ Hid (∀ j (h : j < ps.length),j < k → 0 ≤ ps[j] ∧ ps[j] ≤ 100)) (fun i _ => ps.length - (intOf i).toNat)
      case atStart => exact ⟨0,rfl,Nat.zero_le _,rfl,Lib.hid (fun j h h2 => absurd h2 (by omega))⟩
      case round =>
        obtain ⟨k,rfl,hk,rfl,HK⟩:=hrel
        have d13:=D1.out
        by_cases hlt : k < ps.length
        · have hltz : (k : Int) < (ps.length : Int):=by omega
          have hl3 : decide ((k : Int) < 3) = true:=decide_eq_true (by omega)
          clear d13
          obtain ⟨b,o,rfl,_,_⟩:=HDV.out.2.2.2 (by omega)
          have c1:=(srow_cellE HDV.out hlt).2
          obtain ⟨x,hx⟩ : ∃ x,x = ps[k]:=⟨_,rfl⟩
          rw [← hx] at c1
          by_cases g1 : x < 0
          · have s1 : decide (x < 0) = true:=decide_eq_true g1
            rw [if_neg (fun h9 : okP ps => by have:=h9 _ (List.getElem_mem hlt);rw [← hx] at this;omega)] at hR2
            clear hx HK g1
            have H2:=Lib.hid hR2
            clear hR2
            go_wp2
            go_ret
            exact ⟨by rw [← H2.out];rfl,bV⟩
          · have s1 : decide (x < 0) = false:=decide_eq_false g1
            by_cases g2 : 100 < x
            · have s2 : decide (100 < x) = true:=decide_eq_true g2
              rw [if_neg (fun h9 : okP ps => by have:=h9 _ (List.getElem_mem hlt);rw [← hx] at this;omega)] at hR2
              clear hx HK g1 g2
              have H2:=Lib.hid hR2
              clear hR2
              go_wp2
              go_ret
              exact ⟨by rw [← H2.out];rfl,bV⟩
            · have s2 : decide (100 < x) = false:=decide_eq_false g2
              have HK2 : Hid (∀ j (h : j < ps.length),j < k + 1 → 0 ≤ ps[j] ∧ ps[j] ≤ 100):=Lib.hid (fun j h h3 => by
                rcases Nat.lt_or_ge j k with h4|h4
                · exact HK.out j h h4
                · obtain rfl : j = k:=by omega
                  rw [← hx];omega)
              clear hx HK g1 g2
              go_wp2
              go_roundw
              case rel => exact ⟨k + 1,by go_num,by omega,by trivial,HK2⟩
              case measure => simp [intOf];omega
        · obtain rfl : k = ps.length:=by omega
          have hl3 : decide ((ps.length : Int) < 3) = false:=decide_eq_false (by omega)
          clear d13
          have hok : okP ps:=all_at (fun j h => HK.out j h h)
          rw [if_pos hok] at hR2
          clear HK hok
          have H2:=Lib.hid hR2
          clear hR2
          go_wp2
          go_ret
          exact ⟨by rw [← H2.out];rfl,bV⟩
    · have t1 : ((ps.length : Int) != 3) = true:=by simp;omega
      rw [if_pos h1] at hR2
      clear h1
      have H2:=Lib.hid hR2
      clear hR2
      go_enter Tryd.func25,Tryd.ntmps25
      go_wp2_with (go_at_call 53;(with_reducible refine (GD.out _ (by (repeat(first|(with_reducible first|assumption|exact Below.refl _ _|refine je ?_|refine jl ?_)|((with_reducible refine jp ?_ ?_);first|focus(dsimp only;assumption)|focus(simp;done)|focus(dsimp only;omega))|(with_reducible refine bt ?_ (by assumption)))))).mono ?_);rintro e V ⟨rfl,h2⟩;(have kV:=blk_below h2 (blk_alloc_new w #[.slice aw wn cw,.int .i64 xq,.slice ad dn cd,.int .i64 xt,.slice ap ps.length cp] 28 rfl));(have nV:=kn kV);(have bV : Below w.heap.size w V:=by (repeat(first|(with_reducible first|assumption|exact Below.refl _ _|refine je ?_|refine jl ?_)|((with_reducible refine jp ?_ ?_);first|focus(dsimp only;assumption)|focus(simp;done)|focus(dsimp only;omega))|(with_reducible refine bt ?_ (by assumption)))));clear h2)
      go_ret
      exact ⟨by rw [← H2.out];rfl,bV⟩
  · have t0 : (c != 0) = true:=by simpa using h0
    rw [if_pos h0] at hR2
    clear h0
    have H2:=Lib.hid hR2
    clear hR2
    go_enter Tryd.func25,Tryd.ntmps25
    go_wp2_with (go_at_call 53;(with_reducible refine (GD.out _ (by (repeat(first|(with_reducible first|assumption|exact Below.refl _ _|refine je ?_|refine jl ?_)|((with_reducible refine jp ?_ ?_);first|focus(dsimp only;assumption)|focus(simp;done)|focus(dsimp only;omega))|(with_reducible refine bt ?_ (by assumption)))))).mono ?_);rintro e V ⟨rfl,h2⟩;(have bV : Below w.heap.size w V:=by (repeat(first|(with_reducible first|assumption|exact Below.refl _ _|refine je ?_|refine jl ?_)|((with_reducible refine jp ?_ ?_);first|focus(dsimp only;assumption)|focus(simp;done)|focus(dsimp only;omega))|(with_reducible refine bt ?_ (by assumption)))));clear h2)
    go_ret
    exact ⟨by rw [← H2.out];rfl,bV⟩
theorem range_idB {w : World} {b o : Nat} {x : Bn} (h : w.rangeAt b o (bn x)) : w.rangeAt b o (idL (bid x)):=fun j v hj => h j v (by
  have : j < 3:=(List.getElem?_eq_some_iff.1 hj).1
  match j,this with
  | 0,_ => exact hj
  | 1,_ => exact hj
  | 2,_ => exact hj)
theorem rchkE_any (b : Bn) (hda : b.da.size ≤ maxLen) (w : World) : Calls Tryd.prog 73 #[.agg #[.int .i64 b.no,.int .u64 b.sq,.int .i64 b.of,.int .i64 b.de,.int .i64 b.pr,.int .i64 b.bo,.int .i64 b.li,.int .i64 b.to,.string b.da]] w fun e w' => e = .returned (.int .i64 (bcode b)) ∧ Below w.heap.size w w' :=
  refCheck_any b.no b.sq b.of b.de b.pr b.bo b.li b.to b.da hda w
theorem ids_mem {l : List Bn} {j : Nat} {k : Id3} : k ∈ idsE (l.take j) ↔ ∃ m,∃ h : m < l.length,m < j ∧ bid l[m] = k:=by
  unfold idsE
  rw [List.mem_map]
  constructor
  · rintro ⟨x,hx,rfl⟩
    obtain ⟨m,hm,rfl⟩:=List.getElem_of_mem hx
    rw [List.length_take] at hm
    exact ⟨m,by omega,by omega,by rw [List.getElem_take]⟩
  · rintro ⟨m,h,hj,rfl⟩
    refine ⟨l[m],?_,rfl⟩
    rw [List.mem_take_iff_getElem]
    exact ⟨m,by omega,rfl⟩
set_option maxHeartbeats 3200000 in
theorem rlist_any (a : Option Addr) (cap : Nat) (l : List Bn) (hd : ∀ x ∈ l,x.da.size ≤ maxLen) (w : World) (hrow : SRow bn 9 w a cap l) :
  Calls Tryd.prog 47 #[.slice a l.length cap] w fun e w' => e = .returned (.int .i64 (lstE l)) ∧ Below w.heap.size w w':=by
 have HR:=Lib.hid hrow;have HD:=Lib.hid hd
 have hcap:=hrow.1
 have hmax:=hrow.2.1
 unfold maxLen at hmax
 clear hrow hd
 by_cases h0 : 1000 < l.length
 ·rw [lstE_full h0]
  have t0 : decide ((1000 : Int) < (l.length : Int)) = true:=decide_eq_true (by omega)
  go_enter Tryd.func47,Tryd.ntmps47
  go_wp2
  go_ret
  exact ⟨rfl,Below.refl _ _⟩
 ·have t0 : decide ((1000 : Int) < (l.length : Int)) = false:=decide_eq_false (by omega)
  go_enter Tryd.func47,Tryd.ntmps47
  go_wp2
  go_loopw [3] (fun i wr => ∃ j : Nat,i = .int .i64 j ∧ j ≤ l.length ∧ Below w.heap.size w wr ∧ Hid (∀ i (hi : i < l.length),i < j → bcode l[i] = 0)) (fun i _ => l.length - (intOf i).toNat)
  case atStart => exact ⟨0,rfl,Nat.zero_le _,Below.refl _ _,Lib.hid (fun i hi h => absurd h (by omega))⟩
  case round =>
   obtain ⟨j,rfl,hj,hB,HC⟩:=hrel
   by_cases hlt : j < l.length
   ·have hltz : (j : Int) < (l.length : Int):=by omega
    obtain ⟨b,off,hab,hbl,hcs⟩:=HR.out.2.2.2 (by omega)
    subst hab
    obtain ⟨x,hx⟩ : ∃ x,x = l[j]:=⟨_,rfl⟩
    have hr:=hcs j hlt
    rw [← hx] at hr
    have hrw:=range_below hbl hr hB
    have bwr : b < wr.heap.size:=Nat.lt_of_lt_of_le hbl hB.size
    have ge:=rchkE_any x (by rw [hx];exact HD.out _ (List.getElem_mem _))
    obtain ⟨c,hc⟩ : ∃ c,bcode x = c:=⟨_,rfl⟩
    rw [hc] at ge
    have GE:=Lib.hid ge
    have HX:=Lib.hid hx;have HCC:=Lib.hid hc
    clear hr hcs hx hc ge
    go_upto_region 6 with fail
    refine wp_region_tail0 3 ?_
    intro W0 hE hN
    have hrW : W0.rangeAt b (off + j * 9) (bn x):=(by rw [hE.out];exact hrw)
    have hBW : Below w.heap.size w W0:=(by rw [hE.out];exact hB)
    have bW : b < W0.heap.size:=(by rw [hE.out];exact bwr)
    clear hE hrw hB bwr
    simp only [List.take_succ_cons,List.take_zero,List.drop_succ_cons,List.drop_zero]
    repeat (go_big_quiet_step (fail))
    refine wpQuiet_nil ?_
    rintro _ ⟨x',rfl⟩
    have hr1:=range_below bW hrW x'.ok
    have hB1:=bt hBW x'.ok
    obtain ⟨u,hu⟩ : ∃ u,u = x'.wd:=⟨_,rfl⟩
    rw [← hu] at hr1 hB1 ⊢
    clear hu x' hN hrW hBW bW
    refine wpList_load_mid rfl 38 (.tmp 18) rfl b (off + j * 9) rfl [.int .i64 x.no,.int .u64 x.sq,.int .i64 x.of,.int .i64 x.de,.int .i64 x.pr,.int .i64 x.bo,.int .i64 x.li,.int .i64 x.to,.string x.da] _ hr1 Tryd.underlying38 rfl (by kernel_rfl) ?_
    conv => arg 5;simp [Act.put]
    clear hr1
    by_cases hc0 : c = 0
    ·subst hc0
     have q0 : ((0 : Int) != 0) = false:=rfl
     have HC2 : Hid (∀ i (hi : i < l.length),i < j + 1 → bcode l[i] = 0):=Lib.hid (fun i hi h => by
      rcases Nat.lt_or_ge i j with h3|h3
      ·exact HC.out i hi h3
      ·obtain rfl : i = j:=by omega
       rw [← HX.out];exact HCC.out)
     clear HC HCC HX
     go_wp2_with (go_at_call 73;(with_reducible refine (GE.out _).mono ?_);rintro e w2 ⟨rfl,h2⟩)
     have hB2:=bt hB1 h2
     clear hB1 h2 GE
     go_roundw
     case rel => exact ⟨j + 1,by go_num,by omega,hB2,HC2⟩
     case measure => simp [intOf];omega
    ·have q0 : (c != 0) = true:=by simpa using hc0
     have e9:=Lib.hid (lstE_bad h0 hlt (fun i hi h => HC.out i hi h) (by rw [← HX.out];exact HCC.out) hc0)
     clear hc0 HC HCC HX
     go_wp2_with (go_at_call 73;(with_reducible refine (GE.out _).mono ?_);rintro e w2 ⟨rfl,h2⟩)
     have hB2:=bt hB1 h2
     go_ret
     exact ⟨by rw [e9.out];rfl,hB2⟩
   ·obtain rfl : j = l.length:=by omega
    have HV : Hid (∀ i (hi : i < l.length),bcode l[i] = 0):=Lib.hid (fun i hi => HC.out i hi hi)
    clear HC
    have hB0:=hB
    clear hB
    go_wp2
    go_loopw [5] (fun i wr => ∃ j : Nat,i = .int .i64 j ∧ j ≤ l.length ∧ Below w.heap.size w wr ∧ Hid ((idsE (l.take j)).Nodup)) (fun i _ => l.length - (intOf i).toNat)
    case atStart => exact ⟨0,rfl,Nat.zero_le _,hB0,Lib.hid (by simp [idsE])⟩
    case round =>
     clear hB0
     obtain ⟨j,rfl,hj,hB,HC⟩:=hrel
     by_cases hlt : j < l.length
     ·have hltz : (j : Int) < (l.length : Int):=by omega
      obtain ⟨b,off,hab,hbl,hcs⟩:=HR.out.2.2.2 (by omega)
      subst hab
      have HCS:=Lib.hid hcs
      clear hcs
      go_wp2
      go_loopw [6] (fun i wr => ∃ k : Nat,i = .int .i64 k ∧ k ≤ j ∧ Below w.heap.size w wr ∧ Hid (∀ m (h : m < l.length),m < k → bid l[m] ≠ bid l[j])) (fun i _ => j - (intOf i).toNat)
      case atStart => exact ⟨0,rfl,Nat.zero_le _,hB,Lib.hid (fun m h h2 => absurd h2 (by omega))⟩
      case round =>
       clear hB
       obtain ⟨k,rfl,hk,hB,HK⟩:=hrel
       by_cases hkt : k < j
       ·have hkz : (k : Int) < (j : Int):=by omega
        have hkl : k < l.length:=by omega
        have hkz2 : (k : Int) < (l.length : Int):=by omega
        have r1:=range_idB (range_below hbl (HCS.out j hlt) hB)
        have r2:=range_idB (range_below hbl (HCS.out k hkl) hB)
        have bwr : b < wr.heap.size:=Nat.lt_of_lt_of_le hbl hB.size
        obtain ⟨x,hx⟩ : ∃ x,x = bid l[j]:=⟨_,rfl⟩
        obtain ⟨y,hy⟩ : ∃ x,x = bid l[k]:=⟨_,rfl⟩
        rw [← hx] at r1
        rw [← hy] at r2
        have E:=fun W => run_idKEq x y W
        obtain ⟨q,hq⟩ : ∃ q,decide (x = y) = q:=⟨_,rfl⟩
        rw [hq] at E
        have HX:=Lib.hid hx;have HY:=Lib.hid hy;have HQ:=Lib.hid hq
        clear hx hy hq
        go_upto_region 15 with fail
        refine wp_region_in (by kernel_rfl) (by kernel_rfl) ?_
        intro W0 hE hN
        have r1' : W0.rangeAt b (off + j * 9) (idL x):=(by rw [hE.out];exact r1)
        have r2' : W0.rangeAt b (off + k * 9) (idL y):=(by rw [hE.out];exact r2)
        have g1 : b < W0.heap.size:=(by rw [hE.out];exact bwr)
        have hB0 : Below w.heap.size w W0:=(by rw [hE.out];exact hB)
        clear hE r1 r2 bwr hB
        refine wpQuiet_split 4 ?_
        simp only [List.take_succ_cons,List.take_zero,List.drop_succ_cons,List.drop_zero]
        repeat (go_big_quiet_step (fail))
        refine wpQuiet_nil ?_
        refine wpQuiet_load_range 36 (.tmp 38) b (off + j * 9) (idL x) (fun W hW => by obtain ⟨x',rfl⟩:=hW;exact range_below g1 r1' x'.ok) _ (by kernel_rfl) rfl (by kernel_rfl) Tryd.underlying36 rfl (by kernel_rfl) ?_
        conv => arg 6;simp [Act.put]
        refine wpQuiet_split 4 ?_
        simp only [List.take_succ_cons,List.take_zero,List.drop_succ_cons,List.drop_zero]
        repeat (go_big_quiet_step (fail))
        refine wpQuiet_nil ?_
        refine wpQuiet_load_range 36 (.tmp 43) b (off + k * 9) (idL y) (fun W hW => by obtain ⟨x',rfl⟩:=hW;exact range_below g1 r2' x'.ok) _ (by kernel_rfl) rfl (by kernel_rfl) Tryd.underlying36 rfl (by kernel_rfl) ?_
        conv => arg 6;simp [Act.put]
        repeat (go_big_quiet_step (fail))
        refine wpQuiet_nil ?_
        rintro _ ⟨x',rfl⟩
        have hB2:=bt hB0 x'.ok
        obtain ⟨u,hu⟩ : ∃ u,u = x'.wd:=⟨_,rfl⟩
        rw [← hu] at hB2 ⊢
        clear hu x' hN r1' r2' g1 hB0 E
        cases q
        ·have HK2 : Hid (∀ m (h : m < l.length),m < k + 1 → bid l[m] ≠ bid l[j]):=Lib.hid (fun m h h2 => by
          rcases Nat.lt_or_ge m k with h3|h3
          ·exact HK.out m h h3
          ·obtain rfl : m = k:=by omega
           rw [← HX.out,← HY.out]
           exact fun e => of_decide_eq_false HQ.out e.symm)
         clear HK HX HY HQ
         go_wp2
         go_roundw
         case rel => exact ⟨k + 1,by go_num,by omega,hB2,HK2⟩
         case measure => simp [intOf];omega
        ·have e9:=Lib.hid (lstE_dup h0 HV.out hlt (ids_mem.2 ⟨k,hkl,hkt,by rw [← HX.out,← HY.out];exact (of_decide_eq_true HQ.out).symm⟩))
         clear HK HX HY HQ
         go_wp2
         go_ret
         exact ⟨by rw [e9.out];rfl,hB2⟩
       ·obtain rfl : k = j:=by omega
        have HN : Hid ((idsE (l.take (k + 1))).Nodup):=Lib.hid (nodup_take hlt HC.out (fun h => by
         obtain ⟨m,hm,hmj,e⟩:=ids_mem.1 h
         exact HK.out m hm hmj e))
        clear HC HK
        go_wp2
        go_roundw
        case rel => exact ⟨k + 1,by go_num,by omega,hB,HN⟩
        case measure => simp [intOf];omega
     ·obtain rfl : j = l.length:=by omega
      have e9:=Lib.hid (lstE_zero h0 HV.out (by have:=HC.out;rwa [List.take_length] at this))
      clear HC
      go_wp2
      go_ret
      exact ⟨by rw [e9.out];rfl,hB⟩
def idxT (l : List Bn) (tk : List Bool) (p : Int) (j : Nat) : List Int:=(List.range j).filterMap fun (i : Nat) => if tk.getD i false then none else (l[i]?).bind fun (x : Bn) => if x.pr = p then some (i : Int) else none
def queT (l : List Bn) (tk : List Bool) (p : Int) (j : Nat) : List Int:=isort (ltQ l) (idxT l tk p j)
theorem idxT_zero (l : List Bn) (tk : List Bool) (p : Int) : idxT l tk p 0 = []:=rfl
theorem idxT_yes {l : List Bn} {tk : List Bool} {p : Int} {j : Nat} (h : j < l.length) (ht : tk.getD j false = false) (hp : l[j].pr = p) : idxT l tk p (j + 1) = idxT l tk p j ++ [(j : Int)]:=by
  unfold idxT
  rw [List.range_succ,List.filterMap_append]
  rw [List.getD_eq_getElem?_getD] at ht
  simp [h,hp,ht]
theorem idxT_no {l : List Bn} {tk : List Bool} {p : Int} {j : Nat} (h : j < l.length) (hp : tk.getD j false = true ∨ l[j].pr ≠ p) : idxT l tk p (j + 1) = idxT l tk p j:=by
  unfold idxT
  rw [List.range_succ,List.filterMap_append]
  rw [List.getD_eq_getElem?_getD] at hp
  rcases hp with hp|hp <;> simp [h,hp]
theorem idxT_len (l : List Bn) (tk : List Bool) (p : Int) (j : Nat) : (idxT l tk p j).length ≤ j:=by
  unfold idxT
  exact Nat.le_trans (List.length_filterMap_le _ _) (by simp)
theorem idxT_mem {l : List Bn} {tk : List Bool} {p : Int} {j : Nat} {x : Int} : x ∈ idxT l tk p j ↔ ∃ i : Nat,x = i ∧ i < j ∧ tk.getD i false = false ∧ ∃ h : i < l.length,l[i].pr = p:=by
  unfold idxT
  rw [List.mem_filterMap]
  constructor
  · rintro ⟨i,hr,h⟩
    cases ht : tk.getD i false with
    | true => rw [ht] at h;cases h
    | false =>
      rw [ht] at h
      by_cases hi : i < l.length
      · rw [List.getElem?_eq_getElem hi] at h
        simp only [Option.bind_some] at h
        by_cases hp : l[i].pr = p
        · rw [if_pos hp] at h
          exact ⟨i,(Option.some.inj h).symm,List.mem_range.1 hr,by first|rfl|exact ht,hi,hp⟩
        · rw [if_neg hp] at h;cases h
      · rw [List.getElem?_eq_none (by omega)] at h;cases h
  · rintro ⟨i,rfl,hr,ht,hi,hp⟩
    exact ⟨i,List.mem_range.2 hr,by rw [ht,List.getElem?_eq_getElem hi];simp [hp]⟩
theorem queT_len (l : List Bn) (tk : List Bool) (p : Int) (j : Nat) : (queT l tk p j).length ≤ j:=by
  unfold queT;rw [isort_length];exact idxT_len l tk p j
theorem queT_mem {l : List Bn} {tk : List Bool} {p : Int} {j : Nat} {x : Int} : x ∈ queT l tk p j ↔ ∃ i : Nat,x = i ∧ i < j ∧ tk.getD i false = false ∧ ∃ h : i < l.length,l[i].pr = p:=by
  unfold queT;rw [(isort_perm _ _).mem_iff,idxT_mem]
theorem queT_yes {l : List Bn} {tk : List Bool} {p : Int} {j : Nat} (h : j < l.length) (ht : tk.getD j false = false) (hp : l[j].pr = p) : queT l tk p (j + 1) = insR (ltQ l) j (queT l tk p j):=by
  unfold queT;rw [idxT_yes h ht hp,isort_snoc]
theorem queT_no {l : List Bn} {tk : List Bool} {p : Int} {j : Nat} (h : j < l.length) (hp : tk.getD j false = true ∨ l[j].pr ≠ p) : queT l tk p (j + 1) = queT l tk p j:=by
  unfold queT;rw [idxT_no h hp]
theorem idxT_none {l : List Bn} {n : Nat} (p : Int) : ∀ j,idxT l (List.replicate n false) p j = idxQ l p j:=fun j => by
  unfold idxT idxQ
  have e : ∀ i,(List.replicate n false).getD i false = false:=fun i => by
    rw [List.getD_eq_getElem?_getD]
    by_cases h : i < n
    · simp [h]
    · rw [List.getElem?_eq_none (by simpa using h)];rfl
  simp only [e]
  rfl
theorem queT_none (l : List Bn) (n : Nat) (p : Int) : queT l (List.replicate n false) p l.length = queS l p:=by
  unfold queT queS;rw [idxT_none]
def QN (W : World) (ob : Nat) (cs : List Value) (qs : List (List Int)) : Prop :=
  cs.length = 3 ∧ qs.length = 3 ∧ blk W ob = some cs.toArray ∧ (∀ (p : Nat) (c : Value) (q : List Int),cs[p]? = some c → qs[p]? = some q → W.ownsRow (ob + 1) 3 1 c q.length (rowC ic q)) ∧ (∀ (p p2 : Nat) (c c2 : Value),p ≠ p2 → cs[p]? = some c → cs[p2]? = some c2 → apartV c c2)
theorem QN.below {W W' : World} {ob : Nat} {cs : List Value} {qs : List (List Int)} (h : QN W ob cs qs) (hb : Below W.heap.size W W') : QN W' ob cs qs :=
  ⟨h.1,h.2.1,blk_below hb h.2.2.1,fun p c q h1 h2 => owns_belowS (h.2.2.2.1 p c q h1 h2) hb,h.2.2.2.2⟩
theorem grown_setCell {w u : World} {row : Option Nat} {g : Nat} (o : Nat) (v : Value) (h : w.grownBy u row) (hg : row = some g ∨ w.heap.size ≤ g) : w.grownBy (u.setCell ⟨g,o,none⟩ v) row:=by
  refine ⟨h.os,h.tape,h.output,by simpa using h.size,fun b hb hr => ?_⟩
  rw [Below.heap_setCell u ⟨g,o,none⟩ v b (fun e => by
    simp only at e
    rcases hg with h1|h1
    · rw [h1,e] at hr;exact hr rfl
    · omega)]
  exact h.block b hb hr
theorem QN.put {W1 W2 : World} {ob p : Nat} {cs : List Value} {qs : List (List Int)} {c v' : Value} {q' : List Int} (h : QN W1 ob cs qs) (hp : cs[p]? = some c) (hg : W1.grownBy W2 c.ownBlock) (hf : v'.ownBlock = c.ownBlock ∨ v'.ownBlock = some W1.heap.size) (ho : W2.ownsRow (ob + 1) 3 1 v' q'.length (rowC ic q')) :
    QN (W2.setCell ⟨ob,p,none⟩ v') ob (cs.set p v') (qs.set p q'):=by
  obtain ⟨h1,h2,h3,h4,h5⟩:=h
  have hp3 : p < 3:=by rw [← h1];exact (List.getElem?_eq_some_iff.1 hp).1
  have hq : qs[p]? = some qs[p]:=List.getElem?_eq_getElem (by omega)
  have hown:=h4 p c _ hp hq
  have hb : blk W2 ob = some cs.toArray:=(blk_kept (hg.block ob (blk_lt h3) (fun e => by have:=(hown.lt ob e.symm).1;omega))).trans h3
  refine ⟨by rw [List.length_set,h1],by rw [List.length_set,h2],?_,fun p2 c2 q2 e1 e2 => ?_,fun p2 p3 c2 c3 hne e1 e2 => ?_⟩
  · have:=blk_set (i:=p) (v:=v') hb
    rwa [List.setIfInBounds_toArray] at this
  · by_cases e : p2 = p
    · subst e
      rw [List.getElem?_set_self (by omega)] at e1 e2
      cases e1;cases e2
      exact owns_setO ho (Nat.lt_succ_self _) _ _
    · rw [List.getElem?_set_ne (fun h => e h.symm)] at e1 e2
      exact owns_setO (owns_keptE (h4 p2 c2 q2 e1 e2) hg (fun k e3 e4 => h5 p2 p c2 c e e1 hp k e3 e4)) (Nat.lt_succ_self _) _ _
  · have hl : ∀ (p2 : Nat) (c2 : Value),cs[p2]? = some c2 → ∀ k,c2.ownBlock = some k → k < W1.heap.size:=fun p2 c2 e1 k e => by
      have hp2 : p2 < 3:=by rw [← h1];exact (List.getElem?_eq_some_iff.1 e1).1
      exact ((h4 p2 c2 _ e1 (List.getElem?_eq_getElem (by omega))).lt k e).2
    by_cases e : p2 = p
    · subst e
      rw [List.getElem?_set_self (by omega)] at e1
      cases e1
      rw [List.getElem?_set_ne hne] at e2
      exact apart_new (h5 p2 p3 c c3 hne hp e2) hf (hl p3 c3 e2)
    · rw [List.getElem?_set_ne (fun h => e h.symm)] at e1
      by_cases e' : p3 = p
      · subst e'
        rw [List.getElem?_set_self (by omega)] at e2
        cases e2
        exact (apart_new (h5 p3 p2 c c2 (fun h => e h.symm) hp e1) hf (hl p2 c2 e1)).symm
      · rw [List.getElem?_set_ne (fun h => e' h.symm)] at e2
        exact h5 p2 p3 c2 c3 hne e1 e2
theorem rlessQ_any (a b : Bn) (ha : BnI a) (hb : BnI b) (w : World) : Calls Tryd.prog 13 #[.agg (bn a).toArray,.agg (bn b).toArray] w fun e w' => e = .returned (.bool (ltB a b)) ∧ Below w.heap.size w w' :=
  refLess_any a.no a.sq a.of a.de a.pr a.bo a.li a.to a.da b.no b.sq b.of b.de b.pr b.bo b.li b.to b.da ha.1 ha.2 hb.1 hb.2 w
def qsT (l : List Bn) (tk : List Bool) (j : Nat) : List (List Int):=[queT l tk 0 j,queT l tk 1 j,queT l tk 2 j]
theorem qsT_at (l : List Bn) (tk : List Bool) (j p : Nat) (hp : p < 3) : (qsT l tk j)[p]? = some (queT l tk p j):=by
  match p,hp with
  | 0,_ => rfl
  | 1,_ => rfl
  | 2,_ => rfl
theorem qsT_taken {l : List Bn} {tk : List Bool} {j : Nat} (h : j < l.length) (ht : tk.getD j false = true) : qsT l tk (j + 1) = qsT l tk j:=by
  unfold qsT;rw [queT_no h (.inl ht),queT_no h (.inl ht),queT_no h (.inl ht)]
theorem qsT_set {l : List Bn} {tk : List Bool} {j p : Nat} (h : j < l.length) (ht : tk.getD j false = false) (hp : l[j].pr = p) (h3 : p < 3) : (qsT l tk j).set p (insR (ltQ l) j (queT l tk p j)) = qsT l tk (j + 1):=by
  unfold qsT
  match p,h3 with
  | 0,_ => rw [queT_yes (p:=0) h ht (by simpa using hp),queT_no (p:=1) h (.inr (by omega)),queT_no (p:=2) h (.inr (by omega))];rfl
  | 1,_ => rw [queT_no (p:=0) h (.inr (by omega)),queT_yes (p:=1) h ht (by simpa using hp),queT_no (p:=2) h (.inr (by omega))];rfl
  | 2,_ => rw [queT_no (p:=0) h (.inr (by omega)),queT_no (p:=1) h (.inr (by omega)),queT_yes (p:=2) h ht (by simpa using hp)];rfl
theorem QN.qat {W : World} {ob : Nat} {cs : List Value} {q0 q1 q2 : List Int} (h : QN W ob cs [q0,q1,q2]) : QAtU W ob q0 q1 q2:=by
  obtain ⟨h1,h2,h3,h4,h5⟩:=h
  match cs,h1 with
  | [s0,s1,s2],_ =>
    have o0:=h4 0 s0 q0 rfl rfl
    have o1:=h4 1 s1 q1 rfl rfl
    have o2:=h4 2 s2 q2 rfl rfl
    have U : ∀ {v : Value} {n : Nat} {xs : List Value} {a : Option Addr} {n' c : Nat},W.ownsRow (ob + 1) 3 1 v n xs → v = .slice a n' c → upR ob a:=fun o e b off e2 => by
      subst e;subst e2
      have:=(o.lt b rfl).1
      omega
    obtain ⟨a0,c0,e0,R0,_⟩:=srow_of_owns ic_len o0
    obtain ⟨a1,c1,e1,R1,_⟩:=srow_of_owns ic_len o1
    obtain ⟨a2,c2,e2,R2,_⟩:=srow_of_owns ic_len o2
    have u0:=U o0 e0;have u1:=U o1 e1;have u2:=U o2 e2
    subst e0;subst e1;subst e2
    exact ⟨a0,c0,a1,c1,a2,c2,blk_lt h3,range_of_blk h3 0 _ rfl,R0,R1,R2,u0,u1,u2⟩
theorem owns_seti {w : World} {base g cap n : Nat} {M : List Int} (h : w.ownsRow base 3 1 (.slice (some ⟨g,0,none⟩) n cap) n (rowC ic M)) {j : Nat} (hj : j < n) (v : Int) : (w.setCell ⟨g,j,none⟩ (.int .i64 v)).ownsRow base 3 1 (.slice (some ⟨g,0,none⟩) n cap) n (rowC ic (M.set j v)):=by
  have h2:=owns_setCell h (j:=j) (by omega) (.int .i64 v)
  rw [rowC_ic] at h2 ⊢
  rwa [List.map_set]
theorem owns_cellI {w : World} {base g cap n : Nat} {M : List Int} (h : w.ownsRow base 3 1 (.slice (some ⟨g,0,none⟩) n cap) n (rowC ic M)) {j : Nat} {x : Int} (hx : M[j]? = some x) : w.cell? ⟨g,j,none⟩ = some (.int .i64 x):=by
  have hn : n = M.length:=by have:=h.1;rw [rowC_length ic_len] at this;omega
  subst hn
  obtain ⟨a4,c4,e4,hS,_⟩:=srow_of_owns ic_len h
  cases e4
  obtain ⟨hl,hx2⟩:=List.getElem?_eq_some_iff.1 hx
  have h9:=(srow_atG hS hl).2 0 _ rfl
  rw [Nat.mul_one,Nat.zero_add,Nat.add_zero,hx2] at h9
  exact h9
theorem owns_froz {w : World} {base g cap n : Nat} {e : TypeId} {size : Nat} {xs : List Value} (h : w.ownsRow base e size (.slice (some ⟨g,0,none⟩) n cap) n xs) (o : Nat) : w.frozen? ⟨g,o,none⟩ = false:=by
  rcases h.2 with ⟨e,_⟩|⟨g5,c5,cur5,e,_,hg,_⟩
  · cases e
  · cases e
    exact blk_frozen (blk_of hg) o
theorem grown_thenB {w u v : World} {row : Option Nat} (h : w.grownBy u row) (hb : Below u.heap.size u v) : w.grownBy v row :=
  ⟨hb.os.trans h.os,hb.tape.trans h.tape,hb.output.trans h.output,Nat.le_trans h.size hb.size,fun k hk hn => (hb.block k (Nat.lt_of_lt_of_le hk h.size)).trans (h.block k hk hn)⟩
theorem calm_cellR {W0 : World} {b o : Nat} {v : Value} (hb : b < W0.heap.size) (h : W0.cell? ⟨b,o,none⟩ = some v) : ∀ x : Class (Calm W0),x.wd.cell? ⟨b,o,none⟩ = some v:=fun x => (x.ok.cell (p:=⟨b,o,none⟩) hb).trans h
def holeL (L : List Int) (k : Nat) (y : Int) : List Int:=L.take k ++ y :: L.drop k
theorem holeL_len (L : List Int) (k : Nat) (y : Int) (hk : k ≤ L.length) : (holeL L k y).length = L.length + 1:=by unfold holeL;simp;omega
theorem holeL_lt {L : List Int} {k : Nat} {y : Int} {i : Nat} (hi : i < k) (hk : k ≤ L.length) : (holeL L k y)[i]? = some (L[i]'(by omega)):=by
  unfold holeL
  rw [List.getElem?_append_left (by simp;omega),List.getElem?_take,if_pos hi,List.getElem?_eq_getElem (by omega)]
theorem holeL_set {L : List Int} {k : Nat} {y : Int} (hk : k < L.length) : (holeL L (k + 1) y).set (k + 1) L[k] = holeL L k L[k]:=by
  unfold holeL
  have e : L.take (k + 1) = L.take k ++ [L[k]]:=List.take_succ_eq_append_getElem hk
  have l : (L.take (k + 1)).length = k + 1:=by simp;omega
  rw [List.set_append_right _ _ (by omega),l,Nat.sub_self,List.set_cons_zero,e,List.append_assoc,List.singleton_append,List.drop_eq_getElem_cons hk]
theorem holeL_put {L : List Int} {k : Nat} {y x : Int} (hk : k ≤ L.length) : (holeL L k y).set k x = holeL L k x:=by
  unfold holeL
  have l : (L.take k).length = k:=by simp;omega
  rw [List.set_append_right _ _ (by omega),l,Nat.sub_self,List.set_cons_zero]
theorem holeL_ins {lt : Int → Int → Bool} {L : List Int} {k : Nat} {x : Int} (hk : k ≤ L.length) (h : ∀ z ∈ L.drop k,lt x z = true) (h2 : ∀ h0 : 0 < k,lt x (L[k - 1]'(by omega)) = false) : holeL L k x = insR lt x L:=by
  conv => rhs;rw [← List.take_append_drop k L]
  rw [insR_mid lt x _ _ h (fun z hz => by
    by_cases h0 : 0 < k
    · rw [List.getLast?_eq_getElem?,List.length_take,Nat.min_eq_left hk,List.getElem?_take,if_pos (by omega),List.getElem?_eq_getElem (by omega)] at hz
      rw [← Option.some.inj hz]
      exact h2 h0
    · have : k = 0:=by omega
      subst this
      simp at hz)]
  rfl
set_option maxHeartbeats 6400000 in
theorem rqueues_any (a : Option Addr) (cap : Nat) (l : List Bn) (hl : l.length ≤ 100000) (hI : ∀ x ∈ l,BnI x) (hp : ∀ x ∈ l,0 ≤ x.pr ∧ x.pr ≤ 2) (tk : List Bool) (tb tc : Nat) (htk : tk.length = l.length) (w : World) (hrow : SRow bn 9 w a cap l) (ht : blk w tb = some (cellB tk)) :
  Calls Tryd.prog 48 #[.slice a l.length cap,.slice (some ⟨tb,0,none⟩) l.length tc] w fun e w' => ∃ ob,e = .returned (.slice (some ⟨ob,0,none⟩) 3 3) ∧ w.heap.size ≤ ob ∧ QAtU w' ob (queT l tk 0 l.length) (queT l tk 1 l.length) (queT l tk 2 l.length) ∧ Below w.heap.size w w':=by
 obtain ⟨i0,hi,hz0,hz1,hz2⟩:=info_parts infoI64
 have Hi:=Lib.hid hi;have Hz0:=Lib.hid hz0;have Hz1:=Lib.hid hz1;have Hz2:=Lib.hid hz2
 have HR:=Lib.hid hrow;have HI:=Lib.hid hI;have HP:=Lib.hid hp;have HT:=Lib.hid ht;have HTK:=Lib.hid htk
 have hcap:=hrow.1
 have hmax:=hrow.2.1
 unfold maxLen at hmax
 clear hi hz0 hz1 hz2 hrow hI hp ht htk
 go_enter Tryd.func48,Tryd.ntmps48
 obtain ⟨i2,hi',hz0',hz1',hz2'⟩:=info_parts infoSlE
 have Hj:=Lib.hid hi';have Hy0:=Lib.hid hz0';have Hy1:=Lib.hid hz1';have Hy2:=Lib.hid hz2'
 clear hi' hz0' hz1' hz2'
 go_wp2_with (go_loud (refine wpList_make_row _ rfl _ _ 50 rfl 22 i2 (.slice none 0 0) Tryd.underlying50 Hj.out Hy0.out Hy1.out rfl .i64 .i64 3 rfl rfl (by rw [Hy2.out];omega) (by omega) ?_))
 obtain ⟨V,hV⟩ : ∃ V,V = w.alloc (.cells (madeCells #[.slice none 0 0] 3) 22):=⟨_,rfl⟩
 have oV : blk V w.heap.size = some #[.slice none 0 0,.slice none 0 0,.slice none 0 0]:=by rw [hV,← made3];exact blk_alloc_new _ _ _ rfl
 have bV : Below w.heap.size w V:=by rw [hV];exact (Below.refl _ _).alloc (Nat.le_refl _) _
 have QV : QN V w.heap.size [.slice none 0 0,.slice none 0 0,.slice none 0 0] (qsT l tk 0):=⟨rfl,rfl,oV,fun p c q h1 h2 => by
  have hp3 : p < 3:=(List.getElem?_eq_some_iff.1 h1).1
  match p,hp3 with
  | 0,_ => cases h1;cases h2;exact World.ownsRow_nil _ _ _ _
  | 1,_ => cases h1;cases h2;exact World.ownsRow_nil _ _ _ _
  | 2,_ => cases h1;cases h2;exact World.ownsRow_nil _ _ _ _,fun p p2 c c2 hne h1 h2 k e => by
  have hp3 : p < 3:=(List.getElem?_eq_some_iff.1 h1).1
  match p,hp3 with
  | 0,_ => cases h1;cases e
  | 1,_ => cases h1;cases e
  | 2,_ => cases h1;cases e⟩
 rw [← hV]
 have KV:=Lib.hid QV
 clear hV oV QV
 go_loopw [6] (fun i wr => ∃ (j : Nat) (cs : List Value),i = .int .i64 j ∧ j ≤ l.length ∧ Below w.heap.size w wr ∧ Hid (QN wr w.heap.size cs (qsT l tk j))) (fun i _ => l.length - (intOf i).toNat)
 case atStart => exact ⟨0,_,rfl,Nat.zero_le _,bV,KV⟩
 case round =>
  clear bV KV
  obtain ⟨j,cs,rfl,hj,hB,HQ⟩:=hrel
  by_cases hlt : j < l.length
  ·have hltz : (j : Int) < (l.length : Int):=by omega
   have tkj : wr.cell? ⟨tb,j,none⟩ = some (.bool (tk.getD j false)):=(by
    have h1:=blk_cell (blk_below hB HT.out) j
    rw [h1,cellB_at (by rw [HTK.out];exact hlt),List.getD_eq_getElem?_getD,List.getElem?_eq_getElem (by rw [HTK.out];exact hlt)]
    rfl)
   obtain ⟨t,htj⟩ : ∃ t,t = tk.getD j false:=⟨_,rfl⟩
   rw [← htj] at tkj
   have HTJ:=Lib.hid htj
   clear htj
   cases t
   ·obtain ⟨b,off,hab,hbl,hcs⟩:=HR.out.2.2.2 (by omega)
    subst hab
    obtain ⟨x,hx⟩ : ∃ x,x = l[j]:=⟨_,rfl⟩
    have hr:=hcs j hlt
    rw [← hx] at hr
    have hrw:=range_below hbl hr hB
    have hpx:=HP.out x (by rw [hx];exact List.getElem_mem _)
    obtain ⟨pn,hpn⟩ : ∃ p : Nat,x.pr = p:=⟨x.pr.toNat,by omega⟩
    have hp3 : pn < 3:=by omega
    have hpz : (pn : Int) < 3:=by omega
    have hcell : wr.cell? ⟨b,off + j * 9 + 4,none⟩ = some (.int .i64 (pn : Int)):=by rw [← hpn];exact hrw 4 _ rfl
    obtain ⟨q0,hq0⟩ : ∃ c,cs[pn]? = some c:=⟨cs[pn]'(by rw [HQ.out.1];exact hp3),List.getElem?_eq_getElem _⟩
    obtain ⟨L0,hL0⟩ : ∃ L,L = queT l tk pn j:=⟨_,rfl⟩
    have own0:=HQ.out.2.2.2.1 pn q0 L0 hq0 (by rw [hL0];exact qsT_at l tk j pn hp3)
    have lL : L0.length ≤ j:=by rw [hL0];exact queT_len _ _ _ _
    obtain ⟨a0,c0,rfl,_,_⟩:=srow_of_owns ic_len own0
    have hqc : wr.cell? ⟨w.heap.size,pn,none⟩ = some (.slice a0 L0.length c0):=by rw [blk_cell HQ.out.2.2.1 pn];simpa using hq0
    have OWN:=Lib.hid own0;have HX:=Lib.hid hx;have HPN:=Lib.hid hpn;have HL0:=Lib.hid hL0;have HRJ:=Lib.hid hr;have HQ0:=Lib.hid hq0;have HCS:=Lib.hid hcs
    clear hr hcs hx hpn hL0 own0 hq0 hrw hpx
    go_wp2_with (at_builtin;go_loud ((refine wpList_append_own_at _ rfl _ _ 22 rfl (w.heap.size + 1) 3 i0 (.int .i64 0) 1 8 Tryd.underlying22 Hi.out Hz0.out Hz1.out Hz2.out rfl (by decide) (.slice a0 L0.length c0) L0.length (rowC ic L0) rfl (OWN.out.alloc _) ⟨wr.heap.size,0,none⟩ 1 1 [.int .i64 j] rfl rfl (fun jj u hj => (by rw [Addr.add_mid,Nat.zero_add,blk_cell (blk_alloc_new wr #[.int .i64 j] 3 rfl)];simpa using hj)) (ic_one (j : Int)) (by unfold maxLen;omega) (by omega) (by have:=blk_lt HQ.out.2.2.1;simp;omega) ?_);(intro v' w5 ho5 hg5 _ hob)))
    obtain ⟨N,hN⟩ : ∃ N,N = L0.length + 1:=⟨_,rfl⟩
    have ho6 : w5.ownsRow (w.heap.size + 1) 3 1 v' N (rowC ic (holeL L0 L0.length (j : Int))):=(by rw [hN];unfold holeL;rw [List.take_length,List.drop_length,rowC_append,rowC_one];exact ho5)
    obtain ⟨V1,eV1⟩ : ∃ v,v = wr.alloc (.cells #[.int .i64 j] 3):=⟨_,rfl⟩
    have dV1 : Below wr.heap.size wr V1:=(by rw [eV1];exact (Below.refl _ _).alloc (Nat.le_refl _) _)
    have QV1:=Lib.hid (HQ.out.below dV1)
    have bV1 : Below w.heap.size w V1:=hB.trans (dV1.mono hB.size)
    rw [← eV1] at hg5 hob
    have HOB:=Lib.hid hob;have HG5:=Lib.hid hg5;have HN:=Lib.hid hN
    rcases ho6.2 with ⟨_,e⟩|⟨g5,c5,cur5,rfl,hgb,_⟩
    ·rw [hN] at e;cases e
    have HO6:=Lib.hid ho6
    clear eV1 dV1 hg5 hob ho5 ho6 hN hcell hqc tkj HQ OWN hB
    have gV : (Value.slice a0 L0.length c0).ownBlock = some g5 ∨ V1.heap.size ≤ g5:=(by
     rcases HOB.out with h|h
     ·exact .inl h.symm
     ·simp only [Value.ownBlock] at h
      cases h
      exact .inr (Nat.le_refl _))
    have GV:=Lib.hid gV
    clear gV
    go_loopw [8] (fun vk wr2 => ∃ (k : Nat) (y : Int),vk = .int .i64 k ∧ k ≤ L0.length ∧ Hid (V1.grownBy wr2 (Value.slice a0 L0.length c0).ownBlock ∧ wr2.ownsRow (w.heap.size + 1) 3 1 (.slice (some ⟨g5,0,none⟩) N c5) N (rowC ic (holeL L0 k y)) ∧ ∀ z ∈ L0.drop k,ltQ l j z = true)) (fun vk _ => (intOf vk).toNat)
    case atStart => exact ⟨L0.length,(j : Int),rfl,Nat.le_refl _,Lib.hid ⟨HG5.out,HO6.out,by simp⟩⟩
    case round =>
     clear HG5 HO6
     obtain ⟨k,y,rfl,hk,HK⟩:=hrel
     have OWNV:=Lib.hid (QV1.out.2.2.2.1 pn _ L0 HQ0.out (by rw [HL0.out];exact qsT_at l tk j pn hp3))
     rcases Nat.eq_zero_or_pos k with h0|h0
     ·have tg : decide ((0 : Int) < (k : Int)) = false:=decide_eq_false (by omega)
      have l0 : ¬ ((0 : Int) < (k : Int)):=by omega
      have HINS : Hid (holeL L0 k (j : Int) = queT l tk pn (j + 1)):=Lib.hid (by rw [queT_yes hlt HTJ.out.symm (by rw [← HX.out];exact HPN.out),← HL0.out];exact holeL_ins hk HK.out.2.2 (fun h => absurd h (by omega)))
      have HW:=And.intro HK.out.1 HK.out.2.1
      obtain ⟨U,eU⟩ : ∃ u,u = wr:=⟨_,rfl⟩
      rw [← eU] at HW ⊢
      clear HK eU h0
      obtain ⟨hg7,ho7⟩:=HW
      have hB7 : Below w.heap.size w U:=bV1.grown hg7 bV1.size (fun k e => by have:=(OWNV.out.lt k e).1;omega)
      have kq7 : blk U w.heap.size = some cs.toArray:=(blk_kept (hg7.block _ (blk_lt QV1.out.2.2.1) (fun e => by have:=(OWNV.out.lt _ e.symm).1;omega))).trans QV1.out.2.2.1
      have ck7 : U.cell? ⟨g5,k,none⟩ = some (.int .i64 y):=owns_cellI ho7 (by unfold holeL;rw [List.getElem?_append_right (by simp;omega)];simp [Nat.min_eq_left hk])
      have kN : (k : Int) < (N : Int):=by have:=HN.out;omega
      have fz7:=owns_froz ho7 k
      have HG7:=Lib.hid hg7;have HO7:=Lib.hid ho7
      clear hg7 ho7
      go_upto_region 14 with fail
      obtain ⟨X,eX⟩ : ∃ v,v = U.setCell ⟨g5,k,none⟩ (.int .i64 (j : Int)):=⟨_,rfl⟩
      have bX : Below w.heap.size w X:=(by rw [eX];exact hB7.setCell (by show w.heap.size ≤ g5;omega) _)
      have rX : X.cell? ⟨b,off + j * 9 + 4,none⟩ = some (.int .i64 (pn : Int)):=(by rw [← HPN.out];exact range_below hbl HRJ.out bX 4 _ rfl)
      have gX : V1.grownBy X (Value.slice a0 L0.length c0).ownBlock:=(by rw [eX];exact grown_setCell _ _ HG7.out GV.out)
      have oX : X.ownsRow (w.heap.size + 1) 3 1 (.slice (some ⟨g5,0,none⟩) N c5) (queT l tk pn (j + 1)).length (rowC ic (queT l tk pn (j + 1))):=(by
       have h9:=owns_seti HO7.out (j:=k) (by have:=HN.out;omega) (j : Int)
       rw [holeL_put hk,HINS.out,← eX] at h9
       have e9 : (queT l tk pn (j + 1)).length = N:=by rw [← HINS.out,holeL_len _ _ _ hk,← HN.out]
       rw [e9]
       exact h9)
      have cX : X.cell? ⟨w.heap.size,pn,none⟩ = some (.slice a0 L0.length c0):=(by rw [eX,blk_cell (blk_other kq7 (show w.heap.size ≠ g5 by omega)) pn];simpa using HQ0.out)
      rw [← eX]
      have fzX : X.frozen? ⟨w.heap.size,pn,none⟩ = false:=(by rw [eX];exact blk_frozen (blk_other kq7 (show w.heap.size ≠ g5 by omega)) pn)
      have HGX:=Lib.hid gX;have HOX:=Lib.hid oX
      clear eX gX oX HG7 HO7 ck7 kq7 hB7 fz7
      go_wp2
      have FN : Hid (QN (X.setCell ⟨w.heap.size,pn,none⟩ (.slice (some ⟨g5,0,none⟩) N c5)) w.heap.size (cs.set pn (.slice (some ⟨g5,0,none⟩) N c5)) (qsT l tk (j + 1))):=Lib.hid (by
       have h9:=QV1.out.put HQ0.out HGX.out HOB.out HOX.out
       rw [← qsT_set hlt HTJ.out.symm (by rw [← HX.out];exact HPN.out) hp3,← queT_yes hlt HTJ.out.symm (by rw [← HX.out];exact HPN.out)]
       exact h9)
      have bF:=bX.setCell (p:=⟨w.heap.size,pn,none⟩) (Nat.le_refl _) (.slice (some ⟨g5,0,none⟩) N c5)
      go_roundw
      case rel => exact ⟨j + 1,_,by go_num,by omega,bF,FN⟩
      case measure => simp [intOf];omega
     ·obtain ⟨m,hm⟩ : ∃ m,k = m + 1:=⟨k - 1,by omega⟩
      have tg : decide ((0 : Int) < (k : Int)) = true:=decide_eq_true (by omega)
      have l0 : (0 : Int) < (k : Int):=by omega
      have m1 : IntKind.i64.wrap ((k : Int) - 1) = m:=(IntWalk.i64_in _ (by omega)).trans (by omega)
      have mN : (m : Int) < (N : Int):=by have:=HN.out;omega
      have kN : (k : Int) < (N : Int):=by have:=HN.out;omega
      have hml : m < L0.length:=by omega
      obtain ⟨z,hz⟩ : ∃ z,z = L0[m]'hml:=⟨_,rfl⟩
      have hzm : z ∈ queT l tk pn j:=by rw [← HL0.out,hz];exact List.getElem_mem _
      obtain ⟨ik,rfl,_,_,hik,_⟩:=queT_mem.1 hzm
      have hikz : (ik : Int) < (l.length : Int):=by omega
      obtain ⟨x2,hx2⟩ : ∃ x,x = l[ik]:=⟨_,rfl⟩
      have gl:=fun W => rlessQ_any x x2 (by rw [HX.out];exact HI.out _ (List.getElem_mem _)) (by rw [hx2];exact HI.out _ (List.getElem_mem _)) W
      obtain ⟨r,hr⟩ : ∃ r,ltB x x2 = r:=⟨_,rfl⟩
      rw [hr] at gl
      have EL : Hid (ltQ l (j : Int) (ik : Int) = r):=Lib.hid (by unfold ltQ;rw [bnL_nat l j hlt,bnL_nat l ik hik,← HX.out,← hx2];exact hr)
      have GL:=Lib.hid gl;have HX2:=Lib.hid hx2;have HZ:=Lib.hid hz;have HM:=Lib.hid hm
      have hB6 : Below w.heap.size w wr:=bV1.grown HK.out.1 bV1.size (fun k e => by have:=(OWNV.out.lt k e).1;omega)
      have cm : wr.cell? ⟨g5,m,none⟩ = some (.int .i64 (ik : Int)):=owns_cellI HK.out.2.1 (by rw [holeL_lt (by omega) hk,← HZ.out])
      have r2:=HCS.out ik hik
      rw [← HX2.out] at r2
      have HR2:=Lib.hid r2
      have gWr : g5 < wr.heap.size:=(HK.out.2.1.lt g5 rfl).2
      clear hr gl hx2 hz hzm hm r2
      go_wp2_with fail
      refine wp_region_in (by kernel_rfl) (by kernel_rfl) ?_
      intro W0 hE hN0
      have qB : Below w.heap.size w W0:=(by rw [hE.out];exact hB6)
      have qg : V1.grownBy W0 (Value.slice a0 L0.length c0).ownBlock:=(by rw [hE.out];exact HK.out.1)
      have qo : W0.ownsRow (w.heap.size + 1) 3 1 (.slice (some ⟨g5,0,none⟩) N c5) N (rowC ic (holeL L0 k y)):=(by rw [hE.out];exact HK.out.2.1)
      have cm0 : W0.cell? ⟨g5,m,none⟩ = some (.int .i64 (ik : Int)):=(by rw [hE.out];exact cm)
      have n1:=calm_cellR (b:=g5) (o:=m) (W0:=W0) (by rw [hE.out];exact gWr) cm0
      have r1:=range_below hbl HRJ.out qB
      have r2:=range_below hbl HR2.out qB
      have glt : b < W0.heap.size:=Nat.lt_of_lt_of_le hbl qB.size
      have QG:=Lib.hid qg;have QO:=Lib.hid qo
      clear hE hB6 cm cm0 qg qo
      (refine wpQuiet_split 3 ?_);(simp only [List.take_succ_cons,List.take_zero,List.drop_succ_cons,List.drop_zero]);(repeat (go_big_quiet_step (fail)));(refine wpQuiet_nil ?_)
      refine wpQuiet_load_range 38 (.tmp 38) b (off + j * 9) (bn x) (fun W hW => by obtain ⟨x',rfl⟩:=hW;exact range_below glt r1 x'.ok) _ (by kernel_rfl) rfl (by kernel_rfl) Tryd.underlying38 rfl (by kernel_rfl) ?_
      conv => arg 6;simp [Act.put]
      refine wpQuiet_split 7 ?_
      simp only [List.take_succ_cons,List.take_zero,List.drop_succ_cons,List.drop_zero]
      repeat (go_big_quiet_step (fail))
      refine wpQuiet_nil ?_
      refine wpQuiet_load_range 38 (.tmp 46) b (off + ik * 9) (bn x2) (fun W hW => by obtain ⟨x',rfl⟩:=hW;exact range_below glt r2 x'.ok) _ (by kernel_rfl) rfl (by kernel_rfl) Tryd.underlying38 rfl (by kernel_rfl) ?_
      conv => arg 6;simp [Act.put]
      repeat (go_big_quiet_step ((go_at_call 13;(with_reducible refine Class.go _ (GL.out _)))))
      refine wpQuiet_nil ?_
      rintro _ ⟨x',rfl⟩
      have hg8:=grown_thenB QG.out x'.ok
      have ho8:=owns_belowS QO.out x'.ok
      obtain ⟨U,eU⟩ : ∃ u,u = x'.wd:=⟨_,rfl⟩
      rw [← eU] at hg8 ho8 ⊢
      clear eU x' hN0 n1 r1 r2 glt qB QG QO
      cases r
      ·have HINS : Hid (holeL L0 k (j : Int) = queT l tk pn (j + 1)):=Lib.hid (by rw [queT_yes hlt HTJ.out.symm (by rw [← HX.out];exact HPN.out),← HL0.out];exact holeL_ins hk HK.out.2.2 (fun _ => by rw [← EL.out,HZ.out];simp only [HM.out];rfl))
       have HW:=And.intro hg8 ho8
       clear HK hg8 ho8
       obtain ⟨hg7,ho7⟩:=HW
       have hB7 : Below w.heap.size w U:=bV1.grown hg7 bV1.size (fun k e => by have:=(OWNV.out.lt k e).1;omega)
       have kq7 : blk U w.heap.size = some cs.toArray:=(blk_kept (hg7.block _ (blk_lt QV1.out.2.2.1) (fun e => by have:=(OWNV.out.lt _ e.symm).1;omega))).trans QV1.out.2.2.1
       have ck7 : U.cell? ⟨g5,k,none⟩ = some (.int .i64 y):=owns_cellI ho7 (by unfold holeL;rw [List.getElem?_append_right (by simp;omega)];simp [Nat.min_eq_left hk])
       have kN : (k : Int) < (N : Int):=by have:=HN.out;omega
       have fz7:=owns_froz ho7 k
       have HG7:=Lib.hid hg7;have HO7:=Lib.hid ho7
       clear hg7 ho7
       go_upto_region 14 with fail
       obtain ⟨X,eX⟩ : ∃ v,v = U.setCell ⟨g5,k,none⟩ (.int .i64 (j : Int)):=⟨_,rfl⟩
       have bX : Below w.heap.size w X:=(by rw [eX];exact hB7.setCell (by show w.heap.size ≤ g5;omega) _)
       have rX : X.cell? ⟨b,off + j * 9 + 4,none⟩ = some (.int .i64 (pn : Int)):=(by rw [← HPN.out];exact range_below hbl HRJ.out bX 4 _ rfl)
       have gX : V1.grownBy X (Value.slice a0 L0.length c0).ownBlock:=(by rw [eX];exact grown_setCell _ _ HG7.out GV.out)
       have oX : X.ownsRow (w.heap.size + 1) 3 1 (.slice (some ⟨g5,0,none⟩) N c5) (queT l tk pn (j + 1)).length (rowC ic (queT l tk pn (j + 1))):=(by
        have h9:=owns_seti HO7.out (j:=k) (by have:=HN.out;omega) (j : Int)
        rw [holeL_put hk,HINS.out,← eX] at h9
        have e9 : (queT l tk pn (j + 1)).length = N:=by rw [← HINS.out,holeL_len _ _ _ hk,← HN.out]
        rw [e9]
        exact h9)
       have cX : X.cell? ⟨w.heap.size,pn,none⟩ = some (.slice a0 L0.length c0):=(by rw [eX,blk_cell (blk_other kq7 (show w.heap.size ≠ g5 by omega)) pn];simpa using HQ0.out)
       rw [← eX]
       have fzX : X.frozen? ⟨w.heap.size,pn,none⟩ = false:=(by rw [eX];exact blk_frozen (blk_other kq7 (show w.heap.size ≠ g5 by omega)) pn)
       have HGX:=Lib.hid gX;have HOX:=Lib.hid oX
       clear eX gX oX HG7 HO7 ck7 kq7 hB7 fz7
       go_wp2
       have FN : Hid (QN (X.setCell ⟨w.heap.size,pn,none⟩ (.slice (some ⟨g5,0,none⟩) N c5)) w.heap.size (cs.set pn (.slice (some ⟨g5,0,none⟩) N c5)) (qsT l tk (j + 1))):=Lib.hid (by
        have h9:=QV1.out.put HQ0.out HGX.out HOB.out HOX.out
        rw [← qsT_set hlt HTJ.out.symm (by rw [← HX.out];exact HPN.out) hp3,← queT_yes hlt HTJ.out.symm (by rw [← HX.out];exact HPN.out)]
        exact h9)
       have bF:=bX.setCell (p:=⟨w.heap.size,pn,none⟩) (Nat.le_refl _) (.slice (some ⟨g5,0,none⟩) N c5)
       go_roundw
       case rel => exact ⟨j + 1,_,by go_num,by omega,bF,FN⟩
       case measure => simp [intOf];omega
      ·have cU : U.cell? ⟨g5,m,none⟩ = some (.int .i64 (ik : Int)):=owns_cellI ho8 (by rw [holeL_lt (by have:=HM.out;omega) hk,← HZ.out])
       have cK : U.cell? ⟨g5,k,none⟩ = some (.int .i64 y):=owns_cellI ho8 (by unfold holeL;rw [List.getElem?_append_right (by simp;omega)];simp [Nat.min_eq_left hk])
       have gF : V1.grownBy (U.setCell ⟨g5,k,none⟩ (.int .i64 (ik : Int))) (Value.slice a0 L0.length c0).ownBlock:=grown_setCell _ _ hg8 GV.out
       have oF : (U.setCell ⟨g5,k,none⟩ (.int .i64 (ik : Int))).ownsRow (w.heap.size + 1) 3 1 (.slice (some ⟨g5,0,none⟩) N c5) N (rowC ic (holeL L0 m (ik : Int))):=(by
        have h9:=owns_seti ho8 (j:=k) (by have:=HN.out;omega) (ik : Int)
        rw [HM.out,HZ.out,holeL_set (by have:=HM.out;omega),← HZ.out,← HM.out] at h9
        exact h9)
       have lF : ∀ z ∈ L0.drop m,ltQ l j z = true:=(fun z hz => by
        rw [List.drop_eq_getElem_cons (by have:=HM.out;omega)] at hz
        rcases List.mem_cons.1 hz with rfl|hz
        ·rw [← HZ.out];exact EL.out
        ·rw [← HM.out] at hz;exact HK.out.2.2 z hz)
       have fzU:=owns_froz ho8 k
       have NEW:=Lib.hid (And.intro gF (And.intro oF lF))
       clear gF oF lF hg8 ho8 HK
       go_wp2
       go_roundw
       case rel => exact ⟨m,(ik : Int),by first|rfl|go_num,by have:=HM.out;omega,NEW⟩
       case measure => have:=HM.out;simp [intOf];omega
   ·have HQ2:=HQ
    rw [← qsT_taken hlt HTJ.out.symm] at HQ2
    clear HQ
    go_wp2
    go_roundw
    case rel => exact ⟨j + 1,cs,by go_num,by omega,hB,HQ2⟩
    case measure => simp [intOf];omega
  ·obtain rfl : j = l.length:=by omega
   go_wp2
   go_ret
   exact ⟨w.heap.size,rfl,Nat.le_refl _,QN.qat HQ.out,hB⟩
theorem QAtU.q {W : World} {ob : Nat} {q0 q1 q2 : List Int} (h : QAtU W ob q0 q1 q2) : QAt W ob q0 q1 q2:=by
  obtain ⟨a0,c0,a1,c1,a2,c2,h1,h2,h3,h4,h5,_⟩:=h
  exact ⟨a0,c0,a1,c1,a2,c2,h1,h2,h3,h4,h5⟩
end Go.Proofs.YtkaehoihpgelnaaDoor
