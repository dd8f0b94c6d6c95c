/- Parts of a proof, printed by a program of mine out of my texts: EgDrr, EgDrr2, EgChk, EgList. -/
import Derived.Laws.AppendOwnNone
import Derived.Great.Walk
import Derived.Test.YtkaehoihpgelnaaDoorCA
import Derived.Test.YtkaehoihpgelnaaDoorCB
import Derived.Test.YtkaehoihpgelnaaDoorCI
import Derived.Test.YtkaehoihpgelnaaDoorCM
import Derived.Test.YtkaehoihpgelnaaDoorCU
set_option linter.unusedSimpArgs false
set_option linter.unusedVariables false
set_option maxRecDepth 100000
namespace Go.Proofs.YtkaehoihpgelnaaDoor
open Go.RowKit
theorem srow_cellE {w : World} {b o cap : Nat} {l : List Int} (h : SRow ic 1 w (some ⟨b,o,none⟩) cap l) {j : Nat} (hj : j < l.length) : b < w.heap.size ∧ w.cell? ⟨b,o + j,none⟩ = some (.int .i64 l[j]):=by
  obtain ⟨b',o',e,g,r⟩:=h.2.2.2 (by omega)
  cases e
  have h1:=r j hj 0 _ rfl
  rw [Nat.mul_one] at h1
  exact ⟨g,h1⟩
theorem okW_bad {ws : List Int} {j : Nat} (hj : j < ws.length) (h : ws[j] < 1 ∨ 100 < ws[j]) : ¬ okW ws:=fun h2 => by
  have:=h2 _ (List.getElem_mem hj)
  omega
theorem okF_bad {ws : List Int} {j : Nat} (hj : j < ws.length) (h : ws[j] < 0 ∨ 1099511627776 < ws[j]) : ¬ okF ws:=fun h2 => by
  have:=h2 _ (List.getElem_mem hj)
  omega
theorem all_at {P : Int → Prop} {ws : List Int} (h : ∀ j (h : j < ws.length),P ws[j]) : ∀ v ∈ ws,P v:=fun v hv => by
  obtain ⟨i,hi,rfl⟩:=List.getElem_of_mem hv
  exact h i hi
set_option maxHeartbeats 1600000 in
theorem weighed_any (a : Option Addr) (cap : Nat) (ws : List Int) (q : Int) (w : World) (hrow : SRow ic 1 w a cap ws) :
    Calls Tryd.prog 67 #[.slice a ws.length cap,.int .i64 q] w fun e w' => e = .returned (.int .i64 (weiS ws q)) ∧ w = w':=by
  have HR:=Lib.hid hrow
  have hcap:=hrow.1
  have hmax:=hrow.2.1
  unfold maxLen at hmax
  clear hrow
  have hun : undef = Value.tuple #[]:=rfl
  go_enter Tryd.func67,Tryd.ntmps67
  go_wp2
  go_loopw [9] (fun i wr => ∃ k : Nat,i = .int .i64 k ∧ k ≤ ws.length ∧ w = wr ∧ Hid (∀ j (h : j < ws.length),j < k → 1 ≤ ws[j] ∧ ws[j] ≤ 100)) (fun i _ => ws.length - (intOf i).toNat)
  case atStart => exact ⟨0,rfl,Nat.zero_le _,rfl,Lib.hid (fun j h h2 => absurd h2 (by omega))⟩
  case round =>
    obtain ⟨k,rfl,hk,rfl,HK⟩:=hrel
    by_cases hlt : k < ws.length
    · have hltz : (k : Int) < (ws.length : Int):=by omega
      obtain ⟨b,o,rfl,_,_⟩:=HR.out.2.2.2 (by omega)
      have c1:=(srow_cellE HR.out hlt).2
      obtain ⟨x,hx⟩ : ∃ x,x = ws[k]:=⟨_,rfl⟩
      rw [← hx] at c1
      by_cases h1 : x < 1
      · have t1 : decide (x < 1) = true:=decide_eq_true h1
        have e9 : weiS ws q = 2:=by unfold weiS;rw [if_neg (okW_bad hlt (by omega))]
        have E9:=Lib.hid e9
        clear hx HK e9 h1
        go_wp2
        go_ret
        exact ⟨by rw [E9.out];rfl,rfl⟩
      · have t1 : decide (x < 1) = false:=decide_eq_false h1
        by_cases h2 : 100 < x
        · have t2 : decide (100 < x) = true:=decide_eq_true h2
          have e9 : weiS ws q = 2:=by unfold weiS;rw [if_neg (okW_bad hlt (by omega))]
          have E9:=Lib.hid e9
          clear hx HK e9 h1 h2
          go_wp2
          go_ret
          exact ⟨by rw [E9.out];rfl,rfl⟩
        · have t2 : decide (100 < x) = false:=decide_eq_false h2
          have HK2 : Hid (∀ j (h : j < ws.length),j < k + 1 → 1 ≤ ws[j] ∧ ws[j] ≤ 100):=Lib.hid (fun j h h3 => by
            rcases Nat.lt_or_ge j k with h4|h4
            · exact HK.out j h h4
            · obtain rfl : j = k:=by omega
              rw [← hx];omega)
          clear hx HK h1 h2
          go_wp2
          go_roundw
          case rel => exact ⟨k + 1,by go_num,by omega,by trivial,HK2⟩
          case measure => simp [intOf];omega
    · obtain rfl : k = ws.length:=by omega
      have hok : okW ws:=all_at (fun j h => HK.out j h h)
      clear HK
      by_cases h1 : q < 1
      · have t1 : decide (q < 1) = true:=decide_eq_true h1
        have E9:=Lib.hid (show weiS ws q = 2 by unfold weiS;rw [if_pos hok,if_pos (.inl h1)])
        clear h1 hok
        go_wp2
        go_ret
        exact ⟨by rw [E9.out];rfl,rfl⟩
      · have t1 : decide (q < 1) = false:=decide_eq_false h1
        by_cases h2 : 1200 < q
        · have t2 : decide (1200 < q) = true:=decide_eq_true h2
          have E9:=Lib.hid (show weiS ws q = 2 by unfold weiS;rw [if_pos hok,if_pos (.inr h2)])
          clear h1 h2 hok
          go_wp2
          go_ret
          exact ⟨by rw [E9.out];rfl,rfl⟩
        · have t2 : decide (1200 < q) = false:=decide_eq_false h2
          have E9:=Lib.hid (weiS_ok (q:=q) hok (by omega) (by omega))
          clear h1 h2 hok
          go_wp2
          go_ret
          exact ⟨by rw [E9.out];rfl,rfl⟩
set_option maxHeartbeats 1600000 in
theorem dchk_any (aw : Option Addr) (cw : Nat) (ad : Option Addr) (cd : Nat) (x : Rr) (w : World) (hw : SRow ic 1 w aw cw x.w) (hd : SRow ic 1 w ad cd x.d) :
    Calls Tryd.prog 49 #[.agg #[.slice aw x.w.length cw,.int .i64 x.q,.slice ad x.d.length cd,.int .i64 x.t]] w fun e w' => e = .returned (.int .i64 (chkD x)) ∧ Below w.heap.size w w':=by
  obtain ⟨ws,ds,q,t⟩:=x
  simp only at hw hd ⊢
  have HW:=Lib.hid hw;have HD:=Lib.hid hd
  have hcap:=hd.1
  have hmax:=hd.2.1
  unfold maxLen at hmax
  have hun : undef = Value.tuple #[]:=rfl
  clear hw hd
  obtain ⟨R,hR⟩ : ∃ R,chkD ⟨ws,ds,q,t⟩ = R:=⟨_,rfl⟩
  have hR2 : (if ws.length ≠ 3 ∨ ds.length ≠ 3 then 3 else if weiS ws q ≠ 0 then weiS ws q else if ¬ okF ds then 2 else if t < 0 ∨ 3 ≤ t then 2 else 0) = R:=hR
  rw [hR]
  clear hR
  by_cases h1 : ws.length = 3
  · have t1 : ((ws.length : Int) != 3) = false:=by simp [h1]
    by_cases h2 : ds.length = 3
    · have t2 : ((ds.length : Int) != 3) = false:=by simp [h2]
      rw [if_neg (by omega)] at hR2
      have gw : ∀ W,Below w.heap.size w W → Calls Tryd.prog 67 #[.slice aw ws.length cw,.int .i64 q] W fun e w' => e = .returned (.int .i64 (weiS ws q)) ∧ W = w':=fun W hB => weighed_any aw cw ws q W (HW.out.below hB)
      obtain ⟨c,hc⟩ : ∃ c,weiS ws q = c:=⟨_,rfl⟩
      rw [hc] at gw hR2
      have GW:=Lib.hid gw
      have W1:=Lib.hid h1;have D1:=Lib.hid h2
      clear gw hc h1 h2
      by_cases h3 : c = 0
      · subst h3
        rw [if_neg (by simp)] at hR2
        have t3 : ((0 : Int) != 0) = false:=rfl
        go_enter Tryd.func49,Tryd.ntmps49
        go_wp2_with (go_at_call 67;(with_reducible refine (GW.out _ (by (repeat(first|(with_reducible first|assumption|exact Below.refl _ _|refine je ?_|refine jl ?_)|((with_reducible refine jp ?_ ?_);first|focus(dsimp only;assumption)|focus(simp;done)|focus(dsimp only;omega))|(with_reducible refine bt ?_ (by assumption)))))).mono ?_);rintro e w2 ⟨rfl,rfl⟩)
        obtain ⟨V,hV⟩ : ∃ V,V = w.alloc (.cells #[.slice aw ws.length cw,.int .i64 q,.slice ad ds.length cd,.int .i64 t] 26):=⟨_,rfl⟩
        have kV : blk V w.heap.size = some #[.slice aw ws.length cw,.int .i64 q,.slice ad ds.length cd,.int .i64 t]:=by rw [hV];exact blk_alloc_new _ _ _ rfl
        have bV : Below w.heap.size w V:=by rw [hV];exact (Below.refl _ _).alloc (Nat.le_refl _) _
        have nV:=kn kV
        have HDV:=Lib.hid (HD.out.below bV)
        rw [← hV]
        clear hV
        go_loopw [27] (fun i wr => ∃ k : Nat,i = .int .i64 k ∧ k ≤ ds.length ∧ V = wr ∧ Hid (∀ j (h : j < ds.length),j < k → 0 ≤ ds[j] ∧ ds[j] ≤ 1099511627776)) (fun i _ => ds.length - (intOf i).toNat)
        case atStart => exact ⟨0,rfl,Nat.zero_le _,rfl,Lib.hid (fun j h h2 => absurd h2 (by omega))⟩
        case round =>
          obtain ⟨k,rfl,hk,rfl,HK⟩:=hrel
          by_cases hlt : k < ds.length
          · have hltz : (k : Int) < (ds.length : Int):=by omega
            obtain ⟨b,o,rfl,_,_⟩:=HDV.out.2.2.2 (by omega)
            have c1:=(srow_cellE HDV.out hlt).2
            obtain ⟨x,hx⟩ : ∃ x,x = ds[k]:=⟨_,rfl⟩
            rw [← hx] at c1
            by_cases g1 : x < 0
            · have s1 : decide (x < 0) = true:=decide_eq_true g1
              rw [if_pos (okF_bad hlt (by omega))] at hR2
              clear hx HK g1
              have H2:=Lib.hid hR2
              clear hR2
              go_wp2
              go_ret
              exact ⟨by rw [← H2.out];rfl,bV⟩
            · have s1 : decide (x < 0) = false:=decide_eq_false g1
              by_cases g2 : 1099511627776 < x
              · have s2 : decide (1099511627776 < x) = true:=decide_eq_true g2
                rw [if_pos (okF_bad hlt (by omega))] at hR2
                clear hx HK g1 g2
                have H2:=Lib.hid hR2
                clear hR2
                go_wp2
                go_ret
                exact ⟨by rw [← H2.out];rfl,bV⟩
              · have s2 : decide (1099511627776 < x) = false:=decide_eq_false g2
                have HK2 : Hid (∀ j (h : j < ds.length),j < k + 1 → 0 ≤ ds[j] ∧ ds[j] ≤ 1099511627776):=Lib.hid (fun j h h3 => by
                  rcases Nat.lt_or_ge j k with h4|h4
                  · exact HK.out j h h4
                  · obtain rfl : j = k:=by omega
                    rw [← hx];omega)
                clear hx HK g1 g2
                go_wp2
                go_roundw
                case rel => exact ⟨k + 1,by go_num,by omega,by trivial,HK2⟩
                case measure => simp [intOf];omega
          · obtain rfl : k = ds.length:=by omega
            have hok : okF ds:=all_at (fun j h => HK.out j h h)
            rw [if_neg (by simpa using hok)] at hR2
            clear HK hok
            by_cases g1 : t < 0
            · have s1 : decide (t < 0) = true:=decide_eq_true g1
              rw [if_pos (.inl g1)] at hR2
              clear g1
              have H2:=Lib.hid hR2
              clear hR2
              go_wp2
              go_ret
              exact ⟨by rw [← H2.out];rfl,bV⟩
            · have s1 : decide (t < 0) = false:=decide_eq_false g1
              by_cases g2 : 3 ≤ t
              · have s2 : decide (3 ≤ t) = true:=decide_eq_true g2
                rw [if_pos (.inr g2)] at hR2
                clear g1 g2
                have H2:=Lib.hid hR2
                clear hR2
                go_wp2
                go_ret
                exact ⟨by rw [← H2.out];rfl,bV⟩
              · have s2 : decide (3 ≤ t) = false:=decide_eq_false g2
                rw [if_neg (by omega)] at hR2
                clear g1 g2
                have H2:=Lib.hid hR2
                clear hR2
                go_wp2
                go_ret
                exact ⟨by rw [← H2.out];rfl,bV⟩
      · rw [if_pos h3] at hR2
        have t3 : (c != 0) = true:=by simpa using h3
        clear h3
        have H2:=Lib.hid hR2
        clear hR2
        go_enter Tryd.func49,Tryd.ntmps49
        go_wp2_with (go_at_call 67;(with_reducible refine (GW.out _ (by (repeat(first|(with_reducible first|assumption|exact Below.refl _ _|refine je ?_|refine jl ?_)|((with_reducible refine jp ?_ ?_);first|focus(dsimp only;assumption)|focus(simp;done)|focus(dsimp only;omega))|(with_reducible refine bt ?_ (by assumption)))))).mono ?_);rintro e w2 ⟨rfl,rfl⟩)
        go_ret
        exact ⟨by rw [← H2.out];rfl,by (repeat(first|(with_reducible first|assumption|exact Below.refl _ _|refine je ?_|refine jl ?_)|((with_reducible refine jp ?_ ?_);first|focus(dsimp only;assumption)|focus(simp;done)|focus(dsimp only;omega))|(with_reducible refine bt ?_ (by assumption))))⟩
    · have t2 : ((ds.length : Int) != 3) = true:=by simp;omega
      rw [if_pos (.inr h2)] at hR2
      clear h1 h2
      have H2:=Lib.hid hR2
      clear hR2
      go_enter Tryd.func49,Tryd.ntmps49
      go_wp2
      go_ret
      exact ⟨by rw [← H2.out];rfl,by (repeat(first|(with_reducible first|assumption|exact Below.refl _ _|refine je ?_|refine jl ?_)|((with_reducible refine jp ?_ ?_);first|focus(dsimp only;assumption)|focus(simp;done)|focus(dsimp only;omega))|(with_reducible refine bt ?_ (by assumption))))⟩
  · have t1 : ((ws.length : Int) != 3) = true:=by simp;omega
    rw [if_pos (.inl h1)] at hR2
    clear h1
    have H2:=Lib.hid hR2
    clear hR2
    go_enter Tryd.func49,Tryd.ntmps49
    go_wp2
    go_ret
    exact ⟨by rw [← H2.out];rfl,by (repeat(first|(with_reducible first|assumption|exact Below.refl _ _|refine je ?_|refine jl ?_)|((with_reducible refine jp ?_ ?_);first|focus(dsimp only;assumption)|focus(simp;done)|focus(dsimp only;omega))|(with_reducible refine bt ?_ (by assumption))))⟩
def mx3 (a b c : Int) : Int:=max a (max b c)
theorem max_any (a : Option Addr) (cap : Nat) (x y z : Int) (w : World) (hrow : SRow ic 1 w a cap [x,y,z]) :
    Calls Tryd.prog 98 #[.slice a 3 cap] w fun e w' => e = .returned (.int .i64 (mx3 x y z)) ∧ w = w':=by
  obtain ⟨b,o,rfl,_,_⟩:=hrow.2.2.2 (by simp)
  have c0 : w.cell? ⟨b,o,none⟩ = some (.int .i64 x):=(srow_cellE hrow (j:=0) (by simp)).2
  have c1 : w.cell? ⟨b,o + 1,none⟩ = some (.int .i64 y):=(srow_cellE hrow (j:=1) (by simp)).2
  have c2 : w.cell? ⟨b,o + 2,none⟩ = some (.int .i64 z):=(srow_cellE hrow (j:=2) (by simp)).2
  clear hrow
  go_enter Tryd.func98,Tryd.ntmps98
  go_wp2
  refine wp_loop_rounds 3 ?_
  rw [rounds_succ]
  go_wp2
  rw [rounds_succ]
  go_wp2
  rw [rounds_succ]
  go_wp2
  go_ret
  exact ⟨rfl,rfl⟩
theorem mx3_zero {a b c : Int} (ha : 0 ≤ a) (hb : 0 ≤ b) (hc : 0 ≤ c) : mx3 a b c = 0 ↔ ∀ v ∈ [a,b,c],v = 0:=by
  unfold mx3
  simp
  omega
theorem infoI64 : (Tryd.prog.info? 3).map (fun i => (i.zero,i.size,i.bytes)) = some (some (.int .i64 0),1,8):=by kernel_rfl
theorem own_emptyE (w : World) (e : TypeId) : (w.alloc (.cells #[] e)).ownsRow w.heap.size e 1 (.slice (some ⟨w.heap.size,0,none⟩) 0 0) 0 [] :=
  ⟨rfl,.inr ⟨w.heap.size,0,#[],rfl,Nat.le_refl _,heap_alloc_new w _,Nat.le_refl _,by unfold maxLen;omega,rfl,rfl⟩⟩
theorem ic_onesE (L : List Int) : ∀ u ∈ rowC ic L,u.oneCell' = true:=by
  intro u hu
  rw [rowC_ic] at hu
  obtain ⟨x,_,rfl⟩:=List.mem_map.1 hu
  rfl
theorem ic_lensE (L : List Int) : (rowC ic L).length = L.length * 1:=by rw [rowC_ic];simp
theorem nilEqE (ad : Addr) (n c : Nat) (w : World) : Sem.run Tryd.prog (binOp BinOp.eql 22 (.slice (some ad) n c) (.slice none 0 0)) w = .ok (.bool false) w:=by kernel_rfl
theorem nilEqE0 (w : World) : Sem.run Tryd.prog (binOp BinOp.eql 22 (.slice none 0 0) (.slice none 0 0)) w = .ok (.bool true) w:=by kernel_rfl
theorem row_cellsE {w : World} {b o cap : Nat} {l : List Int} (h : SRow ic 1 w (some ⟨b,o,none⟩) cap l) {j : Nat} {u : Value} (hj : (rowC ic l)[j]? = some u) : w.cell? ⟨b,o + j,none⟩ = some u:=by
  rw [rowC_ic,List.getElem?_map] at hj
  cases hx : l[j]? with
  | none => rw [hx] at hj;cases hj
  | some x =>
    rw [hx] at hj
    obtain ⟨hl,hx2⟩:=List.getElem?_eq_some_iff.1 hx
    rw [(srow_cellE h hl).2,hx2]
    exact hj
def OwnI (l : List Int) (w : World) (e : Ending) (w' : World) : Prop:=∃ v,e = .returned v ∧ w'.ownsRow w.heap.size 3 1 v l.length (rowC ic l) ∧ Below w.heap.size w w'
set_option maxHeartbeats 1600000 in
theorem cloneI_any (a : Option Addr) (cap : Nat) (l : List Int) (hl : l.length ≤ 100000) (w : World) (hrow : SRow ic 1 w a cap l) :
    Calls Tryd.prog 60 #[.slice a l.length cap] w fun e w' => OwnI l w e w':=by
  obtain ⟨i0,hi,hz0,hz1,hz2⟩:=info_parts infoI64
  have Hi:=Lib.hid hi;have Hz0:=Lib.hid hz0;have Hz1:=Lib.hid hz1;have Hz2:=Lib.hid hz2
  clear hi hz0 hz1 hz2
  have ne:=nilEqE
  have ne0:=nilEqE0
  have BA : Below w.heap.size w (w.alloc (.cells #[] 3)):=(Below.refl _ _).alloc (Nat.le_refl _) _
  cases a with
  | none =>
    have h0 : l = []:=by
      rcases Nat.eq_zero_or_pos l.length with h|h
      · exact List.length_eq_zero_iff.1 h
      · obtain ⟨b,o,e,_⟩:=hrow.2.2.2 h;cases e
    subst h0
    obtain rfl:=hrow.2.2.1 rfl
    clear hrow BA
    show Calls Tryd.prog 60 #[.slice none 0 0] w _
    go_enter Tryd.func60,Tryd.ntmps60
    go_wp2
    go_ret
    exact ⟨_,rfl,by simpa [rowC] using World.ownsRow_nil w _ _ _,Below.refl _ _⟩
  | some ad =>
    have HC : Hid (∀ j u,(rowC ic l)[j]? = some u → (w.alloc (.cells #[] 3)).cell? (ad.add j) = some u):=Lib.hid (by
      intro j u hj
      have hjl : j < l.length:=by
        have h9:=(List.getElem?_eq_some_iff.1 hj).1
        rw [ic_lensE] at h9;omega
      obtain ⟨b,o,e,hb,_⟩:=hrow.2.2.2 (by omega)
      cases e
      rw [Addr.add_mid,BA.cell (p:=⟨b,o + j,none⟩) hb]
      exact row_cellsE hrow hj)
    clear hrow
    go_enter Tryd.func60,Tryd.ntmps60
    go_wp2_with (at_builtin;go_loud (refine wpList_append_own _ rfl _ _ 22 rfl w.heap.size 3 i0 (.int .i64 0) 1 8 Tryd.underlying22 Hi.out Hz0.out Hz1.out Hz2.out rfl (by decide) (.slice (some ⟨w.heap.size,0,none⟩) 0 0) 0 [] rfl (own_emptyE w _) ad l.length cap (rowC ic l) rfl (ic_lensE l) HC.out (ic_onesE l) (by unfold maxLen;omega) (by omega) (by simp) ?_);intro v' wb hown2 hgrow2 _)
    go_ret
    refine ⟨_,rfl,?_,?_⟩
    · have h9:=hown2
      rw [Nat.zero_add,List.nil_append] at h9
      exact h9
    · exact BA.grown hgrow2 (by simp) (fun k e => (own_emptyE w 3).lt k e |>.1)
set_option maxHeartbeats 1600000 in
theorem lined_any (aw : Option Addr) (cw : Nat) (ad : Option Addr) (cd : Nat) (x : Rr) (ah : Option Addr) (ch : Nat) (h : List Int) (w : World) (hw : SRow ic 1 w aw cw x.w) (hd : SRow ic 1 w ad cd x.d) (hh : SRow ic 1 w ah ch h) :
    Calls Tryd.prog 79 #[.agg #[.slice aw x.w.length cw,.int .i64 x.q,.slice ad x.d.length cd,.int .i64 x.t],.slice ah h.length ch] w fun e w' => e = .returned (.int .i64 (linD x h)) ∧ Below w.heap.size w w':=by
  have gc : ∀ W,Below w.heap.size w W → Calls Tryd.prog 49 #[.agg #[.slice aw x.w.length cw,.int .i64 x.q,.slice ad x.d.length cd,.int .i64 x.t]] W fun e w' => e = .returned (.int .i64 (chkD x)) ∧ Below W.heap.size W w':=fun W hB => dchk_any aw cw ad cd x W (hw.below hB) (hd.below hB)
  obtain ⟨R,hR⟩ : ∃ R,linD x h = R:=⟨_,rfl⟩
  have hR2:=hR
  unfold linD at hR2
  rw [hR]
  clear hR
  obtain ⟨wl,hwl⟩ : ∃ n,x.w.length = n:=⟨_,rfl⟩
  obtain ⟨dl,hdl⟩ : ∃ n,x.d.length = n:=⟨_,rfl⟩
  obtain ⟨q,hq⟩ : ∃ n,x.q = n:=⟨_,rfl⟩
  obtain ⟨t,ht⟩ : ∃ n,x.t = n:=⟨_,rfl⟩
  obtain ⟨c,hc⟩ : ∃ c,chkD x = c:=⟨_,rfl⟩
  rw [hc,hwl,hdl,hq,ht] at gc
  rw [hc] at hR2
  rw [hwl,hdl,hq,ht]
  have GC:=Lib.hid gc;have HH:=Lib.hid hh
  have hcap:=hh.1
  have hmax:=hh.2.1
  unfold maxLen at hmax
  have hun : undef = Value.tuple #[]:=rfl
  clear gc hc hwl hdl hq ht hw hd hh
  by_cases h0 : c = 0
  · subst h0
    rw [if_neg (by simp)] at hR2
    have t3 : ((0 : Int) != 0) = false:=rfl
    by_cases h1 : h.length = 3
    · rw [if_neg (by simpa using h1)] at hR2
      have t1 : ((h.length : Int) != 3) = false:=by simp [h1]
      have H1:=Lib.hid h1;have HR2:=Lib.hid hR2
      clear h1 hR2
      go_enter Tryd.func79,Tryd.ntmps79
      go_wp2_with (go_at_call 49;(with_reducible refine (GC.out _ (by (repeat(first|(with_reducible first|assumption|exact Below.refl _ _|refine je ?_|refine jl ?_)|((with_reducible refine jp ?_ ?_);first|focus(dsimp only;assumption)|focus(simp;done)|focus(dsimp only;omega))|(with_reducible refine bt ?_ (by assumption)))))).mono ?_);rintro e w2 ⟨rfl,h2⟩)
      have bV : Below w.heap.size w w2:=by (repeat(first|(with_reducible first|assumption|exact Below.refl _ _|refine je ?_|refine jl ?_)|((with_reducible refine jp ?_ ?_);first|focus(dsimp only;assumption)|focus(simp;done)|focus(dsimp only;omega))|(with_reducible refine bt ?_ (by assumption))))
      have HHV:=Lib.hid (HH.out.below bV)
      clear h2
      go_loopw [18] (fun i wr => ∃ k : Nat,i = .int .i64 k ∧ k ≤ h.length ∧ w2 = wr ∧ Hid (∀ j (g : j < h.length),j < k → 0 ≤ h[j] ∧ h[j] ≤ 1200)) (fun i _ => h.length - (intOf i).toNat)
      case atStart => exact ⟨0,rfl,Nat.zero_le _,rfl,Lib.hid (fun j g h2 => absurd h2 (by omega))⟩
      case round =>
        obtain ⟨k,rfl,hk,rfl,HK⟩:=hrel
        by_cases hlt : k < h.length
        · have hltz : (k : Int) < (h.length : Int):=by omega
          obtain ⟨b,o,rfl,_,_⟩:=HHV.out.2.2.2 (by omega)
          have c1:=(srow_cellE HHV.out hlt).2
          obtain ⟨y,hy⟩ : ∃ y,y = h[k]:=⟨_,rfl⟩
          rw [← hy] at c1
          have bad : (y < 0 ∨ 1200 < y) → ¬ ∀ v ∈ h,0 ≤ v ∧ v ≤ 1200:=fun g g2 => by have:=g2 _ (List.getElem_mem hlt);omega
          by_cases g1 : y < 0
          · have s1 : decide (y < 0) = true:=decide_eq_true g1
            have H2:=Lib.hid (by have h9:=HR2.out;rw [if_pos (bad (.inl g1))] at h9;exact h9 : (2 : Int) = R)
            clear hy HK g1 bad
            go_wp2
            go_ret
            exact ⟨by rw [← H2.out];rfl,bV⟩
          · have s1 : decide (y < 0) = false:=decide_eq_false g1
            by_cases g2 : 1200 < y
            · have s2 : decide (1200 < y) = true:=decide_eq_true g2
              have H2:=Lib.hid (by have h9:=HR2.out;rw [if_pos (bad (.inr g2))] at h9;exact h9 : (2 : Int) = R)
              clear hy HK g1 g2 bad
              go_wp2
              go_ret
              exact ⟨by rw [← H2.out];rfl,bV⟩
            · have s2 : decide (1200 < y) = false:=decide_eq_false g2
              have HK2 : Hid (∀ j (g : j < h.length),j < k + 1 → 0 ≤ h[j] ∧ h[j] ≤ 1200):=Lib.hid (fun j g h3 => by
                rcases Nat.lt_or_ge j k with h4|h4
                · exact HK.out j g h4
                · obtain rfl : j = k:=by omega
                  rw [← hy];omega)
              clear hy HK g1 g2 bad
              go_wp2
              go_roundw
              case rel => exact ⟨k + 1,by go_num,by omega,by trivial,HK2⟩
              case measure => simp [intOf];omega
        · obtain rfl : k = h.length:=by omega
          have hok : ∀ v ∈ h,0 ≤ v ∧ v ≤ 1200:=all_at (P:=fun v => 0 ≤ v ∧ v ≤ 1200) (fun j g => HK.out j g g)
          obtain ⟨y0,y1,y2,hy⟩:=list3 H1.out
          have gm : Calls Tryd.prog 98 #[.slice ah h.length ch] w2 fun e w' => e = .returned (.int .i64 (mx3 y0 y1 y2)) ∧ w2 = w':=by
            have h9:=HHV.out
            rw [hy] at h9 ⊢
            exact max_any ah ch y0 y1 y2 w2 h9
          have hz : mx3 y0 y1 y2 = 0 ↔ ∀ v ∈ h,v = 0:=by
            rw [hy] at hok ⊢
            exact mx3_zero (hok y0 (by simp)).1 (hok y1 (by simp)).1 (hok y2 (by simp)).1
          obtain ⟨m,hm⟩ : ∃ m,mx3 y0 y1 y2 = m:=⟨_,rfl⟩
          rw [hm] at gm hz
          have GM:=Lib.hid gm
          have h9:=HR2.out
          rw [if_neg (by simpa using hok)] at h9
          clear hm gm hy HK hok
          by_cases hm0 : m = 0
          · have s1 : (m == 0) = true:=by simp [hm0]
            rw [if_pos (hz.1 hm0)] at h9
            have H2:=Lib.hid h9
            clear h9 hm0 hz
            go_wp2_with (go_at_call 98;(with_reducible refine (GM.out).mono ?_);rintro e w3 ⟨rfl,rfl⟩)
            go_ret
            exact ⟨by rw [← H2.out];rfl,bV⟩
          · have s1 : (m == 0) = false:=by simp [hm0]
            rw [if_neg (fun g => hm0 (hz.2 g))] at h9
            have H2:=Lib.hid h9
            clear h9 hm0 hz
            go_wp2_with (go_at_call 98;(with_reducible refine (GM.out).mono ?_);rintro e w3 ⟨rfl,rfl⟩)
            go_ret
            exact ⟨by rw [← H2.out];rfl,bV⟩
    · rw [if_pos (by simpa using h1)] at hR2
      have t1 : ((h.length : Int) != 3) = true:=by simp;omega
      have H2:=Lib.hid hR2
      clear h1 hR2
      go_enter Tryd.func79,Tryd.ntmps79
      go_wp2_with (go_at_call 49;(with_reducible refine (GC.out _ (by (repeat(first|(with_reducible first|assumption|exact Below.refl _ _|refine je ?_|refine jl ?_)|((with_reducible refine jp ?_ ?_);first|focus(dsimp only;assumption)|focus(simp;done)|focus(dsimp only;omega))|(with_reducible refine bt ?_ (by assumption)))))).mono ?_);rintro e w2 ⟨rfl,h2⟩)
      go_ret
      exact ⟨by rw [← H2.out];rfl,by (repeat(first|(with_reducible first|assumption|exact Below.refl _ _|refine je ?_|refine jl ?_)|((with_reducible refine jp ?_ ?_);first|focus(dsimp only;assumption)|focus(simp;done)|focus(dsimp only;omega))|(with_reducible refine bt ?_ (by assumption))))⟩
  · rw [if_pos h0] at hR2
    have t3 : (c != 0) = true:=by simpa using h0
    have H2:=Lib.hid hR2
    clear h0 hR2
    go_enter Tryd.func79,Tryd.ntmps79
    go_wp2_with (go_at_call 49;(with_reducible refine (GC.out _ (by (repeat(first|(with_reducible first|assumption|exact Below.refl _ _|refine je ?_|refine jl ?_)|((with_reducible refine jp ?_ ?_);first|focus(dsimp only;assumption)|focus(simp;done)|focus(dsimp only;omega))|(with_reducible refine bt ?_ (by assumption)))))).mono ?_);rintro e w2 ⟨rfl,h2⟩)
    go_ret
    exact ⟨by rw [← H2.out];rfl,by (repeat(first|(with_reducible first|assumption|exact Below.refl _ _|refine je ?_|refine jl ?_)|((with_reducible refine jp ?_ ?_);first|focus(dsimp only;assumption)|focus(simp;done)|focus(dsimp only;omega))|(with_reducible refine bt ?_ (by assumption))))⟩
theorem owns_setO {w : World} {base : Nat} {e : TypeId} {size : Nat} {v : Value} {n : Nat} {xs : List Value} (h : w.ownsRow base e size v n xs) {c : Nat} (hc : c < base) (o : Nat) (u : Value) : (w.setCell ⟨c,o,none⟩ u).ownsRow base e size v n xs:=by
  obtain ⟨h1,h2⟩:=h
  refine ⟨h1,?_⟩
  rcases h2 with h2|⟨g,cap,cur,e1,hb,hg,h3⟩
  · exact .inl h2
  · exact .inr ⟨g,cap,cur,e1,hb,by rw [Below.heap_setCell w ⟨c,o,none⟩ u g (by show g ≠ c;omega)];exact hg,h3⟩
set_option maxHeartbeats 1600000 in
theorem dclone_any (aw : Option Addr) (cw : Nat) (ad : Option Addr) (cd : Nat) (ws ds : List Int) (q t : Int) (hl1 : ws.length ≤ 100000) (hl2 : ds.length ≤ 100000) (w : World) (hw : SRow ic 1 w aw cw ws) (hd : SRow ic 1 w ad cd ds) :
  Calls Tryd.prog 80 #[.agg #[.slice aw ws.length cw,.int .i64 q,.slice ad ds.length cd,.int .i64 t]] w fun e w' => ∃ a1 c1 a2 c2,e = .returned (.agg #[.slice a1 ws.length c1,.int .i64 q,.slice a2 ds.length c2,.int .i64 t]) ∧ w'.ownsRow w.heap.size 3 1 (.slice a1 ws.length c1) ws.length (rowC ic ws) ∧ (∃ m,w.heap.size ≤ m ∧ (∀ k,(Value.slice a1 ws.length c1).ownBlock = some k → k < m) ∧ w'.ownsRow m 3 1 (.slice a2 ds.length c2) ds.length (rowC ic ds)) ∧ Below w.heap.size w w':=by
 have G1:=Lib.hid (fun W (hB : Below w.heap.size w W) => cloneI_any aw cw ws hl1 W (hw.below hB))
 have G2:=Lib.hid (fun W (hB : Below w.heap.size w W) => cloneI_any ad cd ds hl2 W (hd.below hB))
 clear hw hd
 go_enter Tryd.func80,Tryd.ntmps80
 go_wp2_with fail
 refine wp_region_held_drew (S:=fun _ => True) (by kernel_rfl) trivial (fun _ => ?_)
 obtain ⟨d0,ed⟩ : ∃ v,v = ((w.alloc (.cells #[.slice aw ws.length cw,.int .i64 q,.slice ad ds.length cd,.int .i64 t] 112)).alloc (.cells #[.slice none 0 0,.int .i64 0,.slice none 0 0,.int .i64 0] 26)).drew:=⟨_,rfl⟩
 have bd0 : Below w.heap.size w d0:=(by rw [ed];exact (((Below.refl _ _).alloc (Nat.le_refl _) _).alloc (by simp) _).drew)
 have kd0 : blk d0 w.heap.size = some #[.slice aw ws.length cw,.int .i64 q,.slice ad ds.length cd,.int .i64 t]:=(by rw [ed];exact blk_drew (blk_alloc (blk_alloc_new _ _ _ rfl) _))
 have zd0 : blk d0 (w.heap.size + 1) = some #[.slice none 0 0,.int .i64 0,.slice none 0 0,.int .i64 0]:=(by rw [ed];exact blk_drew (blk_alloc_new _ _ _ (by simp)))
 rw [← ed]
 clear ed
 have nd0:=kn kd0
 have hTr : True:=trivial
 have L9 : w.heap.size + 1 < w.heap.size + 2:=Nat.lt_succ_self _
 have L8 : w.heap.size ≤ w.heap.size + 1:=Nat.le_succ _
 refine jK (v:=?_) 0 ?_ ?_
 rotate_left;focus(intro W h;(try dsimp only at h);go_simp;(try with_reducible rfl));(try simp only[Act.put,jA,jB,jC,jD,jE,jF])
 refine jK (v:=?_) 3 ?_ ?_
 rotate_left;focus(intro W h;(try dsimp only at h);go_simp;(try with_reducible rfl));(try simp only[Act.put,jA,jB,jC,jD,jE,jF])
 refine wpAnyH_ready (rs:=[1,4]) (by kernel_rfl) (by simp) ?_
 refine AllReadyH.cons rfl (fun K hK => ?_) ?_
 ·skip
  go_simp
  refine hK.out _ _ trivial (fun _ => ?_)
  clear hK K
  (try simp only[Act.put,jA,jB,jC,jD,jE,jF])
  refine wpAnyH_ready (rs:=[2,4]) (by kernel_rfl) (by simp) ?_
  refine AllReadyH.cons rfl (fun K hK => ?_) ?_
  ·skip
   go_simp
   go_at_call 60
   (with_reducible refine (G1.out _ bd0).mono ?_)
   rintro e U1 ⟨vv,rfl,ho1,hB⟩
   obtain ⟨a1,c1,rfl,_,_⟩:=srow_of_owns ic_len ho1
   (try go_wp2_with fail)
   have kU1:=blk_below hB kd0
   have zU1:=blk_below hB zd0
   have bU1:=bt bd0 hB
   have nU1:=kn kU1
   have o1:=Lib.hid (owns_base ho1 (show w.heap.size + 2 ≤ _ from blk_lt zd0))
   have LU : w.heap.size + 2 ≤ U1.heap.size:=blk_lt zU1
   have LG:=Lib.hid (fun k e => (ho1.lt k e).2)
   refine hK.out _ _ trivial (fun _ => ?_)
   clear hK K
   (try simp only[Act.put,jA,jB,jC,jD,jE,jF])
   refine jR 4 (fun K hK => ?_)
   go_simp
   refine hK.out _ _ trivial (fun _ => ?_)
   clear hK K
   (try simp only[Act.put,jA,jB,jC,jD,jE,jF])
   refine jK (v:=?_) 6 ?_ ?_
   rotate_left;focus(intro W h;(try dsimp only at h);go_simp;(try with_reducible rfl));(try simp only[Act.put,jA,jB,jC,jD,jE,jF])
   refine jR 5 (fun K hK => ?_)
   go_simp
   go_at_call 60
   (with_reducible refine (G2.out _ bU1).mono ?_)
   rintro e U2 ⟨vv,rfl,ho2,hB⟩
   obtain ⟨a2,c2,rfl,_,_⟩:=srow_of_owns ic_len ho2
   (try go_wp2_with fail)
   have kU2:=blk_below hB kU1
   have zU2:=blk_below hB zU1
   have bU2:=bt bU1 hB
   have nU2:=kn kU2
   have o2:=Lib.hid ho2
   replace o1:=Lib.hid (owns_belowS o1.out hB)
   refine hK.out _ _ trivial (fun _ => ?_)
   clear hK K
   (try simp only[Act.put,jA,jB,jC,jD,jE,jF])
   refine jR 7 (fun K hK => ?_)
   go_simp
   obtain ⟨x1,ex1⟩ : ∃ v,v = U2.setCell ⟨w.heap.size,0,none⟩ (.slice a1 ws.length c1):=⟨_,rfl⟩
   have kx1 : blk x1 w.heap.size = some #[(.slice a1 ws.length c1),.int .i64 q,.slice ad ds.length cd,.int .i64 t]:=(by rw [ex1];exact blk_set kU2)
   have zx1 : blk x1 (w.heap.size + 1) = some #[.slice none 0 0,.int .i64 0,.slice none 0 0,.int .i64 0]:=(by rw [ex1];exact blk_other zU2 (show w.heap.size + 1 ≠ w.heap.size by omega))
   have bx1 : Below w.heap.size w x1:=(by rw [ex1];exact bU2.setCell (show w.heap.size ≤ w.heap.size from Nat.le_refl _) _)
   have o1x:=Lib.hid (by rw [ex1];exact owns_setO o1.out (show w.heap.size < w.heap.size + 2 by omega) 0 (.slice a1 ws.length c1) : World.ownsRow x1 (w.heap.size + 2) 3 1 (.slice a1 ws.length c1) ws.length (rowC ic ws))
   have o2x:=Lib.hid (by rw [ex1];exact owns_setO o2.out (show w.heap.size < U1.heap.size by omega) 0 (.slice a1 ws.length c1) : World.ownsRow x1 U1.heap.size 3 1 (.slice a2 ds.length c2) ds.length (rowC ic ds))
   rw [← ex1]
   clear ex1
   have nx1:=kn kx1
   refine hK.out _ _ trivial (fun _ => ?_)
   clear hK K
   (try simp only[Act.put,jA,jB,jC,jD,jE,jF])
   refine jK (v:=?_) 8 ?_ ?_
   rotate_left;focus(intro W h;(try dsimp only at h);go_simp;(try with_reducible rfl));(try simp only[Act.put,jA,jB,jC,jD,jE,jF])
   refine jR 9 (fun K hK => ?_)
   go_simp
   obtain ⟨x2,ex2⟩ : ∃ v,v = x1.setCell ⟨w.heap.size,2,none⟩ (.slice a2 ds.length c2):=⟨_,rfl⟩
   have kx2 : blk x2 w.heap.size = some #[(.slice a1 ws.length c1),.int .i64 q,(.slice a2 ds.length c2),.int .i64 t]:=(by rw [ex2];exact blk_set kx1)
   have zx2 : blk x2 (w.heap.size + 1) = some #[.slice none 0 0,.int .i64 0,.slice none 0 0,.int .i64 0]:=(by rw [ex2];exact blk_other zx1 (show w.heap.size + 1 ≠ w.heap.size by omega))
   have bx2 : Below w.heap.size w x2:=(by rw [ex2];exact bx1.setCell (show w.heap.size ≤ w.heap.size from Nat.le_refl _) _)
   have o1y:=Lib.hid (by rw [ex2];exact owns_setO o1x.out (show w.heap.size < w.heap.size + 2 by omega) 2 (.slice a2 ds.length c2) : World.ownsRow x2 (w.heap.size + 2) 3 1 (.slice a1 ws.length c1) ws.length (rowC ic ws))
   have o2y:=Lib.hid (by rw [ex2];exact owns_setO o2x.out (show w.heap.size < U1.heap.size by omega) 2 (.slice a2 ds.length c2) : World.ownsRow x2 U1.heap.size 3 1 (.slice a2 ds.length c2) ds.length (rowC ic ds))
   rw [← ex2]
   clear ex2
   have nx2:=kn kx2
   have mx2:=kn zx2
   refine hK.out _ _ trivial (fun _ => ?_)
   clear hK K
   (try simp only[Act.put,jA,jB,jC,jD,jE,jF])
   refine wpAnyH_done (by kernel_rfl) ?_ _
   clear nx1 kx1 zx1 bx1 o1x o2x
   go_wp2
   refine ret_blk (b:=w.heap.size + 1) (c:=#[.slice a1 ws.length c1,.int .i64 q,.slice a2 ds.length c2,.int .i64 t]) (v:=.agg #[.slice a1 ws.length c1,.int .i64 q,.slice a2 ds.length c2,.int .i64 t]) (by have h9:=blk_set (i:=3) (v:=.int .i64 t) (blk_set (i:=2) (v:=.slice a2 ds.length c2) (blk_set (i:=1) (v:=.int .i64 q) (blk_set (i:=0) (v:=.slice a1 ws.length c1) zx2)));exact h9) (fun W' hc => by simp [results,Tryd.results80,go_sem,hc]) rfl ⟨a1,c1,a2,c2,rfl,?_,⟨U1.heap.size,by omega,LG.out,?_⟩,?_⟩
   ·exact owns_base (owns_setO (owns_setO (owns_setO (owns_setO o1y.out L9 _ _) L9 _ _) L9 _ _) L9 _ _) (by omega)
   ·exact owns_setO (owns_setO (owns_setO (owns_setO o2y.out (show w.heap.size + 1 < U1.heap.size by omega) _ _) (show w.heap.size + 1 < U1.heap.size by omega) _ _) (show w.heap.size + 1 < U1.heap.size by omega) _ _) (show w.heap.size + 1 < U1.heap.size by omega) _ _
   ·exact (((bx2.setCell L8 _).setCell L8 _).setCell L8 _).setCell L8 _
  refine AllReadyH.cons rfl (fun K hK => ?_) AllReadyH.nil
  go_simp
  refine hK.out _ _ trivial (fun _ => ?_)
  clear hK K
  (try simp only[Act.put,jA,jB,jC,jD,jE,jF])
  refine jR 2 (fun K hK => ?_)
  go_simp
  go_at_call 60
  (with_reducible refine (G1.out _ bd0).mono ?_)
  rintro e U1 ⟨vv,rfl,ho1,hB⟩
  obtain ⟨a1,c1,rfl,_,_⟩:=srow_of_owns ic_len ho1
  (try go_wp2_with fail)
  have kU1:=blk_below hB kd0
  have zU1:=blk_below hB zd0
  have bU1:=bt bd0 hB
  have nU1:=kn kU1
  have o1:=Lib.hid (owns_base ho1 (show w.heap.size + 2 ≤ _ from blk_lt zd0))
  have LU : w.heap.size + 2 ≤ U1.heap.size:=blk_lt zU1
  have LG:=Lib.hid (fun k e => (ho1.lt k e).2)
  refine hK.out _ _ trivial (fun _ => ?_)
  clear hK K
  (try simp only[Act.put,jA,jB,jC,jD,jE,jF])
  refine jK (v:=?_) 6 ?_ ?_
  rotate_left;focus(intro W h;(try dsimp only at h);go_simp;(try with_reducible rfl));(try simp only[Act.put,jA,jB,jC,jD,jE,jF])
  refine jR 5 (fun K hK => ?_)
  go_simp
  go_at_call 60
  (with_reducible refine (G2.out _ bU1).mono ?_)
  rintro e U2 ⟨vv,rfl,ho2,hB⟩
  obtain ⟨a2,c2,rfl,_,_⟩:=srow_of_owns ic_len ho2
  (try go_wp2_with fail)
  have kU2:=blk_below hB kU1
  have zU2:=blk_below hB zU1
  have bU2:=bt bU1 hB
  have nU2:=kn kU2
  have o2:=Lib.hid ho2
  replace o1:=Lib.hid (owns_belowS o1.out hB)
  refine hK.out _ _ trivial (fun _ => ?_)
  clear hK K
  (try simp only[Act.put,jA,jB,jC,jD,jE,jF])
  refine jR 7 (fun K hK => ?_)
  go_simp
  obtain ⟨x1,ex1⟩ : ∃ v,v = U2.setCell ⟨w.heap.size,0,none⟩ (.slice a1 ws.length c1):=⟨_,rfl⟩
  have kx1 : blk x1 w.heap.size = some #[(.slice a1 ws.length c1),.int .i64 q,.slice ad ds.length cd,.int .i64 t]:=(by rw [ex1];exact blk_set kU2)
  have zx1 : blk x1 (w.heap.size + 1) = some #[.slice none 0 0,.int .i64 0,.slice none 0 0,.int .i64 0]:=(by rw [ex1];exact blk_other zU2 (show w.heap.size + 1 ≠ w.heap.size by omega))
  have bx1 : Below w.heap.size w x1:=(by rw [ex1];exact bU2.setCell (show w.heap.size ≤ w.heap.size from Nat.le_refl _) _)
  have o1x:=Lib.hid (by rw [ex1];exact owns_setO o1.out (show w.heap.size < w.heap.size + 2 by omega) 0 (.slice a1 ws.length c1) : World.ownsRow x1 (w.heap.size + 2) 3 1 (.slice a1 ws.length c1) ws.length (rowC ic ws))
  have o2x:=Lib.hid (by rw [ex1];exact owns_setO o2.out (show w.heap.size < U1.heap.size by omega) 0 (.slice a1 ws.length c1) : World.ownsRow x1 U1.heap.size 3 1 (.slice a2 ds.length c2) ds.length (rowC ic ds))
  rw [← ex1]
  clear ex1
  have nx1:=kn kx1
  refine hK.out _ _ trivial (fun _ => ?_)
  clear hK K
  (try simp only[Act.put,jA,jB,jC,jD,jE,jF])
  refine jK (v:=?_) 8 ?_ ?_
  rotate_left;focus(intro W h;(try dsimp only at h);go_simp;(try with_reducible rfl));(try simp only[Act.put,jA,jB,jC,jD,jE,jF])
  refine jR 9 (fun K hK => ?_)
  go_simp
  obtain ⟨x2,ex2⟩ : ∃ v,v = x1.setCell ⟨w.heap.size,2,none⟩ (.slice a2 ds.length c2):=⟨_,rfl⟩
  have kx2 : blk x2 w.heap.size = some #[(.slice a1 ws.length c1),.int .i64 q,(.slice a2 ds.length c2),.int .i64 t]:=(by rw [ex2];exact blk_set kx1)
  have zx2 : blk x2 (w.heap.size + 1) = some #[.slice none 0 0,.int .i64 0,.slice none 0 0,.int .i64 0]:=(by rw [ex2];exact blk_other zx1 (show w.heap.size + 1 ≠ w.heap.size by omega))
  have bx2 : Below w.heap.size w x2:=(by rw [ex2];exact bx1.setCell (show w.heap.size ≤ w.heap.size from Nat.le_refl _) _)
  have o1y:=Lib.hid (by rw [ex2];exact owns_setO o1x.out (show w.heap.size < w.heap.size + 2 by omega) 2 (.slice a2 ds.length c2) : World.ownsRow x2 (w.heap.size + 2) 3 1 (.slice a1 ws.length c1) ws.length (rowC ic ws))
  have o2y:=Lib.hid (by rw [ex2];exact owns_setO o2x.out (show w.heap.size < U1.heap.size by omega) 2 (.slice a2 ds.length c2) : World.ownsRow x2 U1.heap.size 3 1 (.slice a2 ds.length c2) ds.length (rowC ic ds))
  rw [← ex2]
  clear ex2
  have nx2:=kn kx2
  have mx2:=kn zx2
  refine hK.out _ _ trivial (fun _ => ?_)
  clear hK K
  (try simp only[Act.put,jA,jB,jC,jD,jE,jF])
  refine wpAnyH_done (by kernel_rfl) ?_ _
  clear nx1 kx1 zx1 bx1 o1x o2x
  go_wp2
  refine ret_blk (b:=w.heap.size + 1) (c:=#[.slice a1 ws.length c1,.int .i64 q,.slice a2 ds.length c2,.int .i64 t]) (v:=.agg #[.slice a1 ws.length c1,.int .i64 q,.slice a2 ds.length c2,.int .i64 t]) (by have h9:=blk_set (i:=3) (v:=.int .i64 t) (blk_set (i:=2) (v:=.slice a2 ds.length c2) (blk_set (i:=1) (v:=.int .i64 q) (blk_set (i:=0) (v:=.slice a1 ws.length c1) zx2)));exact h9) (fun W' hc => by simp [results,Tryd.results80,go_sem,hc]) rfl ⟨a1,c1,a2,c2,rfl,?_,⟨U1.heap.size,by omega,LG.out,?_⟩,?_⟩
  ·exact owns_base (owns_setO (owns_setO (owns_setO (owns_setO o1y.out L9 _ _) L9 _ _) L9 _ _) L9 _ _) (by omega)
  ·exact owns_setO (owns_setO (owns_setO (owns_setO o2y.out (show w.heap.size + 1 < U1.heap.size by omega) _ _) (show w.heap.size + 1 < U1.heap.size by omega) _ _) (show w.heap.size + 1 < U1.heap.size by omega) _ _) (show w.heap.size + 1 < U1.heap.size by omega) _ _
  ·exact (((bx2.setCell L8 _).setCell L8 _).setCell L8 _).setCell L8 _
 refine AllReadyH.cons rfl (fun K hK => ?_) AllReadyH.nil
 go_simp
 refine hK.out _ _ trivial (fun _ => ?_)
 clear hK K
 (try simp only[Act.put,jA,jB,jC,jD,jE,jF])
 refine jR 1 (fun K hK => ?_)
 go_simp
 refine hK.out _ _ trivial (fun _ => ?_)
 clear hK K
 (try simp only[Act.put,jA,jB,jC,jD,jE,jF])
 refine jR 2 (fun K hK => ?_)
 go_simp
 go_at_call 60
 (with_reducible refine (G1.out _ bd0).mono ?_)
 rintro e U1 ⟨vv,rfl,ho1,hB⟩
 obtain ⟨a1,c1,rfl,_,_⟩:=srow_of_owns ic_len ho1
 (try go_wp2_with fail)
 have kU1:=blk_below hB kd0
 have zU1:=blk_below hB zd0
 have bU1:=bt bd0 hB
 have nU1:=kn kU1
 have o1:=Lib.hid (owns_base ho1 (show w.heap.size + 2 ≤ _ from blk_lt zd0))
 have LU : w.heap.size + 2 ≤ U1.heap.size:=blk_lt zU1
 have LG:=Lib.hid (fun k e => (ho1.lt k e).2)
 refine hK.out _ _ trivial (fun _ => ?_)
 clear hK K
 (try simp only[Act.put,jA,jB,jC,jD,jE,jF])
 refine jK (v:=?_) 6 ?_ ?_
 rotate_left;focus(intro W h;(try dsimp only at h);go_simp;(try with_reducible rfl));(try simp only[Act.put,jA,jB,jC,jD,jE,jF])
 refine jR 5 (fun K hK => ?_)
 go_simp
 go_at_call 60
 (with_reducible refine (G2.out _ bU1).mono ?_)
 rintro e U2 ⟨vv,rfl,ho2,hB⟩
 obtain ⟨a2,c2,rfl,_,_⟩:=srow_of_owns ic_len ho2
 (try go_wp2_with fail)
 have kU2:=blk_below hB kU1
 have zU2:=blk_below hB zU1
 have bU2:=bt bU1 hB
 have nU2:=kn kU2
 have o2:=Lib.hid ho2
 replace o1:=Lib.hid (owns_belowS o1.out hB)
 refine hK.out _ _ trivial (fun _ => ?_)
 clear hK K
 (try simp only[Act.put,jA,jB,jC,jD,jE,jF])
 refine jR 7 (fun K hK => ?_)
 go_simp
 obtain ⟨x1,ex1⟩ : ∃ v,v = U2.setCell ⟨w.heap.size,0,none⟩ (.slice a1 ws.length c1):=⟨_,rfl⟩
 have kx1 : blk x1 w.heap.size = some #[(.slice a1 ws.length c1),.int .i64 q,.slice ad ds.length cd,.int .i64 t]:=(by rw [ex1];exact blk_set kU2)
 have zx1 : blk x1 (w.heap.size + 1) = some #[.slice none 0 0,.int .i64 0,.slice none 0 0,.int .i64 0]:=(by rw [ex1];exact blk_other zU2 (show w.heap.size + 1 ≠ w.heap.size by omega))
 have bx1 : Below w.heap.size w x1:=(by rw [ex1];exact bU2.setCell (show w.heap.size ≤ w.heap.size from Nat.le_refl _) _)
 have o1x:=Lib.hid (by rw [ex1];exact owns_setO o1.out (show w.heap.size < w.heap.size + 2 by omega) 0 (.slice a1 ws.length c1) : World.ownsRow x1 (w.heap.size + 2) 3 1 (.slice a1 ws.length c1) ws.length (rowC ic ws))
 have o2x:=Lib.hid (by rw [ex1];exact owns_setO o2.out (show w.heap.size < U1.heap.size by omega) 0 (.slice a1 ws.length c1) : World.ownsRow x1 U1.heap.size 3 1 (.slice a2 ds.length c2) ds.length (rowC ic ds))
 rw [← ex1]
 clear ex1
 have nx1:=kn kx1
 refine hK.out _ _ trivial (fun _ => ?_)
 clear hK K
 (try simp only[Act.put,jA,jB,jC,jD,jE,jF])
 refine jK (v:=?_) 8 ?_ ?_
 rotate_left;focus(intro W h;(try dsimp only at h);go_simp;(try with_reducible rfl));(try simp only[Act.put,jA,jB,jC,jD,jE,jF])
 refine jR 9 (fun K hK => ?_)
 go_simp
 obtain ⟨x2,ex2⟩ : ∃ v,v = x1.setCell ⟨w.heap.size,2,none⟩ (.slice a2 ds.length c2):=⟨_,rfl⟩
 have kx2 : blk x2 w.heap.size = some #[(.slice a1 ws.length c1),.int .i64 q,(.slice a2 ds.length c2),.int .i64 t]:=(by rw [ex2];exact blk_set kx1)
 have zx2 : blk x2 (w.heap.size + 1) = some #[.slice none 0 0,.int .i64 0,.slice none 0 0,.int .i64 0]:=(by rw [ex2];exact blk_other zx1 (show w.heap.size + 1 ≠ w.heap.size by omega))
 have bx2 : Below w.heap.size w x2:=(by rw [ex2];exact bx1.setCell (show w.heap.size ≤ w.heap.size from Nat.le_refl _) _)
 have o1y:=Lib.hid (by rw [ex2];exact owns_setO o1x.out (show w.heap.size < w.heap.size + 2 by omega) 2 (.slice a2 ds.length c2) : World.ownsRow x2 (w.heap.size + 2) 3 1 (.slice a1 ws.length c1) ws.length (rowC ic ws))
 have o2y:=Lib.hid (by rw [ex2];exact owns_setO o2x.out (show w.heap.size < U1.heap.size by omega) 2 (.slice a2 ds.length c2) : World.ownsRow x2 U1.heap.size 3 1 (.slice a2 ds.length c2) ds.length (rowC ic ds))
 rw [← ex2]
 clear ex2
 have nx2:=kn kx2
 have mx2:=kn zx2
 refine hK.out _ _ trivial (fun _ => ?_)
 clear hK K
 (try simp only[Act.put,jA,jB,jC,jD,jE,jF])
 refine wpAnyH_done (by kernel_rfl) ?_ _
 clear nx1 kx1 zx1 bx1 o1x o2x
 go_wp2
 refine ret_blk (b:=w.heap.size + 1) (c:=#[.slice a1 ws.length c1,.int .i64 q,.slice a2 ds.length c2,.int .i64 t]) (v:=.agg #[.slice a1 ws.length c1,.int .i64 q,.slice a2 ds.length c2,.int .i64 t]) (by have h9:=blk_set (i:=3) (v:=.int .i64 t) (blk_set (i:=2) (v:=.slice a2 ds.length c2) (blk_set (i:=1) (v:=.int .i64 q) (blk_set (i:=0) (v:=.slice a1 ws.length c1) zx2)));exact h9) (fun W' hc => by simp [results,Tryd.results80,go_sem,hc]) rfl ⟨a1,c1,a2,c2,rfl,?_,⟨U1.heap.size,by omega,LG.out,?_⟩,?_⟩
 ·exact owns_base (owns_setO (owns_setO (owns_setO (owns_setO o1y.out L9 _ _) L9 _ _) L9 _ _) L9 _ _) (by omega)
 ·exact owns_setO (owns_setO (owns_setO (owns_setO o2y.out (show w.heap.size + 1 < U1.heap.size by omega) _ _) (show w.heap.size + 1 < U1.heap.size by omega) _ _) (show w.heap.size + 1 < U1.heap.size by omega) _ _) (show w.heap.size + 1 < U1.heap.size by omega) _ _
 ·exact (((bx2.setCell L8 _).setCell L8 _).setCell L8 _).setCell L8 _
def okP (p : List Int) : Prop:=∀ v ∈ p,0 ≤ v ∧ v ≤ 100
instance (d : List Int) : Decidable (okP d):=by unfold okP;infer_instance
def chkX (x : Rr) (p : List Int) : Int:=if chkD x ≠ 0 then chkD x else if p.length ≠ 3 then 3 else if okP p then 0 else 2
def badP (v : Int) : Bool:=decide (v < 0) || decide (100 < v)
theorem badP_iff (v : Int) : badP v = true ↔ ¬ (0 ≤ v ∧ v ≤ 100):=by
  unfold badP
  rw [Bool.or_eq_true,decide_eq_true_eq,decide_eq_true_eq]
  omega
theorem chkCl_any (v : Int) (w : World) : Calls Tryd.prog 51 #[.int .i64 v] w fun e w' => e = .returned (.bool (badP v)) ∧ w = w':=by
  by_cases h1 : v < 0
  · have t1 : decide (v < 0) = true:=decide_eq_true h1
    have e : badP v = true:=by unfold badP;rw [t1];rfl
    rw [e]
    clear h1 e
    have hun : undef = Value.tuple #[]:=rfl
    go_enter Tryd.func51,Tryd.ntmps51
    go_wp2
    go_ret
    exact ⟨rfl,rfl⟩
  · have t1 : decide (v < 0) = false:=decide_eq_false h1
    obtain ⟨c,hc⟩ : ∃ c,c = decide (100 < v):=⟨_,rfl⟩
    have e : badP v = c:=by unfold badP;rw [t1,hc];rfl
    rw [e]
    clear h1 e
    go_enter Tryd.func51,Tryd.ntmps51
    go_wp2
    go_ret
    exact ⟨by rw [hc];rfl,rfl⟩
set_option maxHeartbeats 1600000 in
theorem idxC_any (a : Option Addr) (cap : Nat) (p : List Int) (w : World) (hrow : SRow ic 1 w a cap p) :
    Calls Tryd.prog 74 #[.slice a p.length cap,.func (.func 51) #[] #[]] w fun e w' => (∃ z : Int,e = .returned (.int .i64 z) ∧ (decide (z ≥ 0) = !decide (okP p))) ∧ w = w':=by
  have HR:=Lib.hid hrow
  have hcap:=hrow.1
  have hmax:=hrow.2.1
  unfold maxLen at hmax
  clear hrow
  go_enter Tryd.func74,Tryd.ntmps74
  go_wp2
  go_loopw [8] (fun i wr => ∃ k : Nat,i = .int .i64 k ∧ k ≤ p.length ∧ w = wr ∧ Hid (∀ j (h : j < p.length),j < k → 0 ≤ p[j] ∧ p[j] ≤ 100)) (fun i _ => p.length - (intOf i).toNat)
  case atStart => exact ⟨0,rfl,Nat.zero_le _,rfl,Lib.hid (fun j h h2 => absurd h2 (by omega))⟩
  case round =>
    obtain ⟨k,rfl,hk,rfl,HK⟩:=hrel
    by_cases hlt : k < p.length
    · have hltz : (k : Int) < (p.length : Int):=by omega
      obtain ⟨b,o,rfl,_,_⟩:=HR.out.2.2.2 (by omega)
      have c1:=(srow_cellE HR.out hlt).2
      obtain ⟨x,hx⟩ : ∃ x,x = p[k]:=⟨_,rfl⟩
      rw [← hx] at c1
      have HX:=Lib.hid hx
      clear hx
      have g:=chkCl_any x w
      obtain ⟨q,hq⟩ : ∃ q,badP x = q:=⟨_,rfl⟩
      rw [hq] at g
      have HQ:=Lib.hid hq
      replace g:=Lib.hid g
      clear hq
      cases q
      · go_wp2_with (go_at_call 51;(with_reducible refine (g.out).mono ?_);rintro e w2 ⟨rfl,rfl⟩)
        go_roundw
        case rel => exact ⟨k + 1,by go_num,by omega,trivial,Lib.hid (fun j h h2 => by
          rcases Nat.lt_or_ge j k with h4|h4
          · exact HK.out j h h4
          · obtain rfl : j = k:=by omega
            rw [← HX.out]
            have h9:=HQ.out
            cases hb : decide (0 ≤ x ∧ x ≤ 100)
            · rw [(badP_iff x).2 (of_decide_eq_false hb)] at h9;cases h9
            · exact of_decide_eq_true hb)⟩
        case measure => simp [intOf];omega
      · have hn : decide (okP p) = false:=decide_eq_false (fun h2 => absurd (h2 x (by rw [HX.out];exact List.getElem_mem _)) ((badP_iff x).1 HQ.out))
        have HN:=Lib.hid hn
        clear hn
        go_wp2_with (go_at_call 51;(with_reducible refine (g.out).mono ?_);rintro e w2 ⟨rfl,rfl⟩)
        go_ret
        exact ⟨⟨_,rfl,by rw [HN.out];simp⟩,rfl⟩
    · obtain rfl : k = p.length:=by omega
      have hn : decide (okP p) = true:=decide_eq_true (all_at (fun j h => HK.out j h h))
      have HN:=Lib.hid hn
      clear hn
      go_wp2
      go_ret
      exact ⟨⟨_,rfl,by rw [HN.out];rfl⟩,rfl⟩
theorem conF_any (a : Option Addr) (cap : Nat) (p : List Int) (w : World) (hrow : SRow ic 1 w a cap p) :
    Calls Tryd.prog 50 #[.slice a p.length cap,.func (.func 51) #[] #[]] w fun e w' => e = .returned (.bool (!decide (okP p))) ∧ w = w':=by
  have g:=Lib.hid (idxC_any a cap p w hrow)
  obtain ⟨q,hq⟩ : ∃ q,(!decide (okP p)) = q:=⟨_,rfl⟩
  rw [hq] at g ⊢
  clear hq hrow
  go_enter Tryd.func50,Tryd.ntmps50
  go_wp2_with (go_at_call 74;(with_reducible refine (g.out).mono ?_);rintro e w2 ⟨⟨z,rfl,hz⟩,rfl⟩)
  go_ret
  exact ⟨rfl,rfl⟩
set_option maxHeartbeats 1600000 in
theorem xchk_any (aw : Option Addr) (cw : Nat) (ad : Option Addr) (cd : Nat) (ap : Option Addr) (cp : Nat) (x : Rr) (p : List Int) (w : World) (hw : SRow ic 1 w aw cw x.w) (hd : SRow ic 1 w ad cd x.d) (hp : SRow ic 1 w ap cp p) :
    Calls Tryd.prog 23 #[.agg #[.slice aw x.w.length cw,.int .i64 x.q,.slice ad x.d.length cd,.int .i64 x.t,.slice ap p.length cp]] w fun e w' => e = .returned (.int .i64 (chkX x p)) ∧ Below w.heap.size w w':=by
  have gd:=Lib.hid (fun W (hB : Below w.heap.size w W) => dchk_any aw cw ad cd x W (hw.below hB) (hd.below hB))
  have gp:=Lib.hid (fun W (hB : Below w.heap.size w W) => conF_any ap cp p W (hp.below hB))
  obtain ⟨R,hR⟩ : ∃ R,chkX x p = R:=⟨_,rfl⟩
  have hR2 : (if chkD x ≠ 0 then chkD x else if p.length ≠ 3 then 3 else if okP p then 0 else 2) = R:=hR
  rw [hR]
  obtain ⟨c,hc⟩ : ∃ c,chkD x = c:=⟨_,rfl⟩
  rw [hc] at gd hR2
  obtain ⟨lw,hlw⟩ : ∃ n,n = x.w.length:=⟨_,rfl⟩
  obtain ⟨ld,hld⟩ : ∃ n,n = x.d.length:=⟨_,rfl⟩
  obtain ⟨lp,hlp⟩ : ∃ n,n = p.length:=⟨_,rfl⟩
  rw [← hlw,← hld] at gd
  rw [← hlp] at gp hR2
  rw [← hlw,← hld,← hlp]
  obtain ⟨q,hq⟩ : ∃ q,decide (okP p) = q:=⟨_,rfl⟩
  have hq2 : okP p ↔ q = true:=by rw [← hq];simp
  rw [hq] at gp
  simp only [hq2] at hR2
  clear hR hc hw hd hp hlw hld hlp hq hq2
  by_cases h1 : c = 0
  · subst h1
    rw [if_neg (by simp)] at hR2
    have t0 : ((0 : Int) != 0) = false:=rfl
    by_cases h2 : lp = 3
    · have t2 : ((lp : Int) != 3) = false:=by simp [h2]
      rw [if_neg (by omega)] at hR2
      clear h2
      cases q
      · have HR:=Lib.hid hR2
        clear hR2
        go_enter Tryd.func23,Tryd.ntmps23
        go_wp2_with (first|(go_at_call 49;(with_reducible refine (gd.out _ (by (repeat(first|(with_reducible first|assumption|exact Below.refl _ _|refine je ?_|refine jl ?_)|((with_reducible refine jp ?_ ?_);first|focus(dsimp only;assumption)|focus(simp;done)|focus(dsimp only;omega))|(with_reducible refine bt ?_ (by assumption)))))).mono ?_);rintro e w2 ⟨rfl,h2⟩;(have b2 : Below w.heap.size w w2:=by (repeat(first|(with_reducible first|assumption|exact Below.refl _ _|refine je ?_|refine jl ?_)|((with_reducible refine jp ?_ ?_);first|focus(dsimp only;assumption)|focus(simp;done)|focus(dsimp only;omega))|(with_reducible refine bt ?_ (by assumption)))));(have k2 : blk w2 w.heap.size = some #[.slice aw lw cw,.int .i64 x.q,.slice ad ld cd,.int .i64 x.t,.slice ap lp cp]:=blk_below h2 (blk_alloc_new _ _ _ rfl));(have n2:=kn k2);clear h2)|(go_at_call 50;(with_reducible refine (gp.out _ b2).mono ?_);rintro e w3 ⟨rfl,rfl⟩))
        go_ret
        exact ⟨by rw [← HR.out];rfl,b2⟩
      · have HR:=Lib.hid hR2
        clear hR2
        go_enter Tryd.func23,Tryd.ntmps23
        go_wp2_with (first|(go_at_call 49;(with_reducible refine (gd.out _ (by (repeat(first|(with_reducible first|assumption|exact Below.refl _ _|refine je ?_|refine jl ?_)|((with_reducible refine jp ?_ ?_);first|focus(dsimp only;assumption)|focus(simp;done)|focus(dsimp only;omega))|(with_reducible refine bt ?_ (by assumption)))))).mono ?_);rintro e w2 ⟨rfl,h2⟩;(have b2 : Below w.heap.size w w2:=by (repeat(first|(with_reducible first|assumption|exact Below.refl _ _|refine je ?_|refine jl ?_)|((with_reducible refine jp ?_ ?_);first|focus(dsimp only;assumption)|focus(simp;done)|focus(dsimp only;omega))|(with_reducible refine bt ?_ (by assumption)))));(have k2 : blk w2 w.heap.size = some #[.slice aw lw cw,.int .i64 x.q,.slice ad ld cd,.int .i64 x.t,.slice ap lp cp]:=blk_below h2 (blk_alloc_new _ _ _ rfl));(have n2:=kn k2);clear h2)|(go_at_call 50;(with_reducible refine (gp.out _ b2).mono ?_);rintro e w3 ⟨rfl,rfl⟩))
        go_ret
        exact ⟨by rw [← HR.out];rfl,b2⟩
    · have t2 : ((lp : Int) != 3) = true:=by
        have : ¬ ((lp : Int) = 3):=by omega
        simpa using this
      rw [if_pos h2] at hR2
      have HR:=Lib.hid hR2
      clear hR2 h2
      go_enter Tryd.func23,Tryd.ntmps23
      go_wp2_with (go_at_call 49;(with_reducible refine (gd.out _ (by (repeat(first|(with_reducible first|assumption|exact Below.refl _ _|refine je ?_|refine jl ?_)|((with_reducible refine jp ?_ ?_);first|focus(dsimp only;assumption)|focus(simp;done)|focus(dsimp only;omega))|(with_reducible refine bt ?_ (by assumption)))))).mono ?_);rintro e w2 ⟨rfl,h2⟩;(have b2 : Below w.heap.size w w2:=by (repeat(first|(with_reducible first|assumption|exact Below.refl _ _|refine je ?_|refine jl ?_)|((with_reducible refine jp ?_ ?_);first|focus(dsimp only;assumption)|focus(simp;done)|focus(dsimp only;omega))|(with_reducible refine bt ?_ (by assumption)))));(have k2 : blk w2 w.heap.size = some #[.slice aw lw cw,.int .i64 x.q,.slice ad ld cd,.int .i64 x.t,.slice ap lp cp]:=blk_below h2 (blk_alloc_new _ _ _ rfl));(have n2:=kn k2);clear h2)
      go_ret
      exact ⟨by rw [← HR.out];rfl,b2⟩
  · have t0 : (c != 0) = true:=by simpa using h1
    rw [if_pos h1] at hR2
    subst hR2
    clear h1
    go_enter Tryd.func23,Tryd.ntmps23
    go_wp2_with (go_at_call 49;(with_reducible refine (gd.out _ (by (repeat(first|(with_reducible first|assumption|exact Below.refl _ _|refine je ?_|refine jl ?_)|((with_reducible refine jp ?_ ?_);first|focus(dsimp only;assumption)|focus(simp;done)|focus(dsimp only;omega))|(with_reducible refine bt ?_ (by assumption)))))).mono ?_);rintro e w2 ⟨rfl,h2⟩;(have b2 : Below w.heap.size w w2:=by (repeat(first|(with_reducible first|assumption|exact Below.refl _ _|refine je ?_|refine jl ?_)|((with_reducible refine jp ?_ ?_);first|focus(dsimp only;assumption)|focus(simp;done)|focus(dsimp only;omega))|(with_reducible refine bt ?_ (by assumption)))));clear h2)
    go_ret
    exact ⟨rfl,b2⟩
def toI (b : Bn) : Itm:=⟨b,0,0,0,0⟩
def idsE (l : List Bn) : List Id3:=l.map bid
theorem ids_toI (l : List Bn) : (l.map toI).map (bid ·.b) = idsE l:=by unfold idsE;rw [List.map_map];rfl
def fltE (l : List Bn) : Int:=(l.find? (fun b => decide (bcode b ≠ 0))).elim 0 bcode
theorem fltE_ok {l : List Bn} (h : ∀ i (hi : i < l.length),bcode l[i] = 0) : fltE l = 0:=by
  unfold fltE
  have e : l.find? (fun b => decide (bcode b ≠ 0)) = none:=by
    rw [List.find?_eq_none]
    intro x hx
    obtain ⟨i,hi,rfl⟩:=List.getElem_of_mem hx
    simpa using h i hi
  rw [e];rfl
theorem fltE_bad {l : List Bn} {j : Nat} (hj : j < l.length) (h : ∀ i (hi : i < l.length),i < j → bcode l[i] = 0) (hn : bcode l[j] ≠ 0) : fltE l = bcode l[j]:=by
  unfold fltE
  have e : l.find? (fun b => decide (bcode b ≠ 0)) = some l[j]:=by
    rw [List.find?_eq_some_iff_getElem]
    exact ⟨by simpa using hn,j,hj,rfl,fun i hi => by simpa using h i (by omega) hi⟩
  rw [e];rfl
def lstE (l : List Bn) : Int:=if 1000 < l.length then 5 else if fltE l ≠ 0 then fltE l else if (idsE l).Nodup then 0 else 9
theorem lstE_full {l : List Bn} (h : 1000 < l.length) : lstE l = 5:=by unfold lstE;rw [if_pos h]
theorem lstE_bad {l : List Bn} (h : ¬ 1000 < l.length) {j : Nat} (hj : j < l.length) (h1 : ∀ i (hi : i < l.length),i < j → bcode l[i] = 0) {c : Int} (hc : bcode l[j] = c) (hn : c ≠ 0) : lstE l = c:=by
  have e:=fltE_bad hj h1 (by rw [hc];exact hn)
  unfold lstE
  rw [if_neg h,e,hc,if_pos hn]
theorem lstE_dup {l : List Bn} (h : ¬ 1000 < l.length) (h1 : ∀ i (hi : i < l.length),bcode l[i] = 0) {j : Nat} (hj : j < l.length) (hd : bid l[j] ∈ idsE (l.take j)) : lstE l = 9:=by
  unfold lstE
  rw [if_neg h,fltE_ok h1,if_neg (by simp),if_neg]
  intro hnd
  have e : idsE l = idsE (l.take j) ++ (bid l[j] :: idsE (l.drop (j + 1))):=by
    conv => lhs;rw [← List.take_append_drop j l,List.drop_eq_getElem_cons hj]
    unfold idsE
    rw [List.map_append,List.map_cons]
  rw [e,List.nodup_append] at hnd
  exact hnd.2.2 _ hd _ (List.mem_cons_self) rfl
theorem lstE_zero {l : List Bn} (h : ¬ 1000 < l.length) (h1 : ∀ i (hi : i < l.length),bcode l[i] = 0) (hd : (idsE l).Nodup) : lstE l = 0:=by
  unfold lstE
  rw [if_neg h,fltE_ok h1,if_neg (by simp),if_pos hd]
theorem nodup_take {l : List Bn} {j : Nat} (hj : j < l.length) (h : (idsE (l.take j)).Nodup) (hn : bid l[j] ∉ idsE (l.take j)) : (idsE (l.take (j + 1))).Nodup:=by
  rw [List.take_succ_eq_append_getElem hj]
  unfold idsE at h hn ⊢
  rw [List.map_append,List.nodup_append]
  refine ⟨h,by simp,?_⟩
  intro a ha b hb
  simp only [List.map_cons,List.map_nil,List.mem_singleton] at hb
  subst hb
  intro e;subst e;exact hn ha
theorem pchkE_any (b : Bn) (hda : b.da.size ≤ maxLen) (w : World) : Calls Tryd.prog 69 #[.agg (bn b).toArray] w fun e w' => e = .returned (.int .i64 (bcode b)) ∧ Below w.heap.size w w' :=
  check_any b.no b.sq b.of b.de b.pr b.bo b.li b.to b.da hda w
set_option maxHeartbeats 3200000 in
theorem list_any (a : Option Addr) (cap : Nat) (l : List Bn) (hd : ∀ x ∈ l,x.da.size ≤ maxLen) (w : World) (hrow : SRow bn 9 w a cap l) :
  Calls Tryd.prog 45 #[.slice a l.length cap] w fun e w' => e = .returned (.int .i64 (lstE l)) ∧ Below w.heap.size w w':=by
 have HR:=Lib.hid hrow;have HD:=Lib.hid hd
 have hcap:=hrow.1
 have hmax:=hrow.2.1
 unfold maxLen at hmax
 clear hrow hd
 have hmm:=@run_makeMap Tryd.prog
 by_cases h1000 : 1000 < l.length
 ·have t1 : decide ((1000 : Int) < (l.length : Int)) = true:=decide_eq_true (by omega)
  have t2 : decide (1000 < l.length) = true:=decide_eq_true h1000
  have E9:=Lib.hid (lstE_full h1000)
  go_enter Tryd.func45,Tryd.ntmps45
  go_wp2
  go_ret
  exact ⟨by rw [E9.out];rfl,Below.refl _ _⟩
 ·have t1 : decide ((1000 : Int) < (l.length : Int)) = false:=decide_eq_false (by omega)
  have t2 : decide (1000 < l.length) = false:=decide_eq_false h1000
  have H1000:=Lib.hid h1000
  go_enter Tryd.func45,Tryd.ntmps45
  go_wp2
  go_loopw [14] (fun i wr => ∃ j : Nat,i = .int .i64 j ∧ j ≤ l.length ∧ Below w.heap.size w wr ∧ Hid (∀ i (hi : i < l.length),i < j → bcode l[i] = 0)) (fun i _ => l.length - (intOf i).toNat)
  case atStart => exact ⟨0,rfl,Nat.zero_le _,Below.refl _ _,Lib.hid (fun i hi h => absurd h (by omega))⟩
  case round =>
   obtain ⟨j,rfl,hj,hB,HC⟩:=hrel
   by_cases hlt : j < l.length
   ·have hltz : (j : Int) < (l.length : Int):=by omega
    obtain ⟨b,off,hab,hbl,hcs⟩:=HR.out.2.2.2 (by omega)
    subst hab
    obtain ⟨x,hx⟩ : ∃ x,x = l[j]:=⟨_,rfl⟩
    have hr:=hcs j hlt
    rw [← hx] at hr
    have hrw:=range_below hbl hr hB
    have HX:=Lib.hid hx
    have hdx:=HD.out x (by rw [hx];exact List.getElem_mem _)
    have G:=Lib.hid (fun W => (show Calls Tryd.prog 69 #[.agg #[.int .i64 x.no,.int .u64 x.sq,.int .i64 x.of,.int .i64 x.de,.int .i64 x.pr,.int .i64 x.bo,.int .i64 x.li,.int .i64 x.to,.string x.da]] W fun e w' => e = .returned (.int .i64 (bcode x)) ∧ Below W.heap.size W w' from pchkE_any x hdx W))
    clear hx hr hcs hdx
    have bwr : b < wr.heap.size:=Nat.lt_of_lt_of_le hbl hB.size
    go_upto_region 5 with fail
    refine wp_region_tail0 1 ?_
    intro W0 hE hN
    have hrW : W0.rangeAt b (off + j * 9) (bn x):=(by rw [hE.out];exact hrw)
    have hBW : Below w.heap.size w W0:=(by rw [hE.out];exact hB)
    have bW : b < W0.heap.size:=(by rw [hE.out];exact bwr)
    clear hE hrw hB bwr
    simp only [List.take_succ_cons,List.take_zero,List.drop_succ_cons,List.drop_zero]
    repeat (go_big_quiet_step (fail))
    refine wpQuiet_nil ?_
    rintro _ ⟨x',rfl⟩
    have hr1:=range_below bW hrW x'.ok
    have hB1:=bt hBW x'.ok
    obtain ⟨u,hu⟩ : ∃ u,u = x'.wd:=⟨_,rfl⟩
    rw [← hu] at hr1 hB1 ⊢
    clear hu x' hN hrW hBW bW
    refine wpList_load_mid rfl 38 (.tmp 16) rfl b (off + j * 9) rfl (bn x) _ hr1 Tryd.underlying38 rfl (by kernel_rfl) ?_
    conv => arg 5;simp [Act.put]
    refine Go.Great.wpList_allocTo rfl (some 4) rfl (.pointer (some ⟨u.heap.size,0,none⟩)) (.cells #[.int .i64 0,.int .u64 0,.int .i64 0,.int .i64 0,.int .i64 0,.int .i64 0,.int .i64 0,.int .i64 0,.string ⟨#[]⟩] 38) (by kernel_rfl) ?_
    conv => arg 5;simp [Act.put]
    refine wpList_store_midB 38 (.tmp 4) (.tmp 17) u.heap.size 0 #[.int .i64 0,.int .u64 0,.int .i64 0,.int .i64 0,.int .i64 0,.int .i64 0,.int .i64 0,.int .i64 0,.string ⟨#[]⟩] #[.int .i64 x.no,.int .u64 x.sq,.int .i64 x.of,.int .i64 x.de,.int .i64 x.pr,.int .i64 x.bo,.int .i64 x.li,.int .i64 x.to,.string x.da] #[.int .i64 x.no,.int .u64 x.sq,.int .i64 x.of,.int .i64 x.de,.int .i64 x.pr,.int .i64 x.bo,.int .i64 x.li,.int .i64 x.to,.string x.da] (blk_alloc_new _ _ _ rfl) rfl rfl rfl rfl (by simp) (by kernel_rfl) (by kernel_rfl) (by kernel_rfl) ?_
    intro w1 kb1 o1 B1 z1
    conv => arg 5;simp [Act.put]
    have hb1 : Below w.heap.size w w1:=B1 _ _ hB1.size (hB1.alloc hB1.size _)
    have nb1:=kn kb1
    obtain ⟨c0,hc0⟩ : ∃ c,c = u.heap.size:=⟨_,rfl⟩
    rw [← hc0] at kb1 nb1 ⊢
    clear o1 B1 z1 hr1 hB1 hc0 u
    obtain ⟨c,hc⟩ : ∃ c,bcode x = c:=⟨_,rfl⟩
    rw [hc] at G
    by_cases hc0 : c = 0
    ·subst hc0
     have q0 : ((0 : Int) != 0) = false:=rfl
     have HC2 : Hid (∀ i (hi : i < l.length),i < j + 1 → bcode l[i] = 0):=Lib.hid (fun i hi h => by
      rcases Nat.lt_or_ge i j with h3|h3
      ·exact HC.out i hi h3
      ·obtain rfl : i = j:=by omega
       rw [← HX.out];exact hc)
     clear HC hc
     go_wp2_with (go_at_call 69;(with_reducible refine (G.out _).mono ?_);rintro e w2 ⟨rfl,h2⟩)
     have hB2:=bt hb1 h2
     go_roundw
     case rel => exact ⟨j + 1,by go_num,by omega,hB2,HC2⟩
     case measure => simp [intOf];omega
    ·have q0 : (c != 0) = true:=by simpa using hc0
     have E9:=Lib.hid (lstE_bad H1000.out hlt (fun i hi h => HC.out i hi h) (by rw [← HX.out];exact hc) hc0)
     clear HC hc hc0
     go_wp2_with (go_at_call 69;(with_reducible refine (G.out _).mono ?_);rintro e w2 ⟨rfl,h2⟩)
     have hB2:=bt hb1 h2
     go_ret
     exact ⟨by rw [E9.out];rfl,hB2⟩
   ·obtain rfl : j = l.length:=by omega
    have HV : Hid (∀ i (hi : i < l.length),bcode l[i] = 0):=Lib.hid (fun i hi => HC.out i hi hi)
    clear HC
    go_wp2
    obtain ⟨M,hM⟩ : ∃ M,M = wr.alloc (.map #[] 0):=⟨_,rfl⟩
    obtain ⟨m,hm⟩ : ∃ m,m = wr.heap.size:=⟨_,rfl⟩
    have mM : mapAt M m (idsM ((l.take 0).map toI)):=by rw [hM,hm];exact mapAt_made wr
    have bM : Below w.heap.size w M:=by rw [hM];exact hB.alloc hB.size _
    have lm : w.heap.size ≤ m:=by rw [hm];exact hB.size
    rw [← hM,← hm]
    clear hM hm hB
    go_loopw [27] (fun i wr => ∃ j : Nat,i = .int .i64 j ∧ j ≤ l.length ∧ Below w.heap.size w wr ∧ Hid (mapAt wr m (idsM ((l.take j).map toI)) ∧ (idsE (l.take j)).Nodup)) (fun i _ => l.length - (intOf i).toNat)
    case atStart => exact ⟨0,rfl,Nat.zero_le _,bM,Lib.hid ⟨mM,List.nodup_nil⟩⟩
    case round =>
     clear bM mM
     obtain ⟨j,rfl,hj,hB,HM⟩:=hrel
     by_cases hlt : j < l.length
     ·have hltz : (j : Int) < (l.length : Int):=by omega
      obtain ⟨b,off,hab,hbl,hcs⟩:=HR.out.2.2.2 (by omega)
      subst hab
      obtain ⟨x,hx⟩ : ∃ x,x = l[j]:=⟨_,rfl⟩
      have hr:=hcs j hlt
      rw [← hx] at hr
      have hrw:=range_below hbl hr hB
      have HX:=Lib.hid hx
      clear hx hr hcs
      have bwr : b < wr.heap.size:=Nat.lt_of_lt_of_le hbl hB.size
      go_upto_region 13 with fail
      refine wp_region_tail0 1 ?_
      intro W0 hE hN
      have hrW : W0.rangeAt b (off + j * 9) (bn x):=(by rw [hE.out];exact hrw)
      have hBW : Below w.heap.size w W0:=(by rw [hE.out];exact hB)
      have hMW:=HM
      rw [← hE.out] at hMW
      have bW : b < W0.heap.size:=(by rw [hE.out];exact bwr)
      clear hE hrw hB bwr HM
      simp only [List.take_succ_cons,List.take_zero,List.drop_succ_cons,List.drop_zero]
      repeat (go_big_quiet_step (fail))
      refine wpQuiet_nil ?_
      rintro _ ⟨x',rfl⟩
      have hr1:=range_below bW hrW x'.ok
      have hB1:=bt hBW x'.ok
      have hm1:=Lib.hid (And.intro (hMW.out.1.below x'.ok) hMW.out.2)
      obtain ⟨u,hu⟩ : ∃ u,u = x'.wd:=⟨_,rfl⟩
      rw [← hu] at hr1 hB1 hm1 ⊢
      clear hu x' hN hrW hBW bW hMW
      refine wpList_load_mid rfl 38 (.tmp 29) rfl b (off + j * 9) rfl (bn x) _ hr1 Tryd.underlying38 rfl (by kernel_rfl) ?_
      conv => arg 5;simp [Act.put]
      refine Go.Great.wpList_allocTo rfl (some 8) rfl (.pointer (some ⟨u.heap.size,0,none⟩)) (.cells #[.int .i64 0,.int .u64 0,.int .i64 0,.int .i64 0,.int .i64 0,.int .i64 0,.int .i64 0,.int .i64 0,.string ⟨#[]⟩] 38) (by kernel_rfl) ?_
      conv => arg 5;simp [Act.put]
      refine wpList_store_midB 38 (.tmp 8) (.tmp 30) u.heap.size 0 #[.int .i64 0,.int .u64 0,.int .i64 0,.int .i64 0,.int .i64 0,.int .i64 0,.int .i64 0,.int .i64 0,.string ⟨#[]⟩] #[.int .i64 x.no,.int .u64 x.sq,.int .i64 x.of,.int .i64 x.de,.int .i64 x.pr,.int .i64 x.bo,.int .i64 x.li,.int .i64 x.to,.string x.da] #[.int .i64 x.no,.int .u64 x.sq,.int .i64 x.of,.int .i64 x.de,.int .i64 x.pr,.int .i64 x.bo,.int .i64 x.li,.int .i64 x.to,.string x.da] (blk_alloc_new _ _ _ rfl) rfl rfl rfl rfl (by simp) (by kernel_rfl) (by kernel_rfl) (by kernel_rfl) ?_
      intro w1 kb1 o1 B1 z1
      conv => arg 5;simp [Act.put]
      have hb1 : Below w.heap.size w w1:=B1 _ _ hB1.size (hB1.alloc hB1.size _)
      have hBu : Below u.heap.size u w1:=B1 _ _ (Nat.le_refl _) ((Below.refl _ _).alloc (Nat.le_refl _) _)
      have hm2:=Lib.hid (And.intro (hm1.out.1.below hBu) hm1.out.2)
      have nb1:=kn kb1
      obtain ⟨c0,hc0⟩ : ∃ c,c = u.heap.size:=⟨_,rfl⟩
      rw [← hc0] at kb1 nb1 ⊢
      have cm : m ≠ c0:=by have:=hm1.out.1.lt;omega
      clear o1 B1 z1 hr1 hB1 hBu hm1 hc0 u
      have hgm:=getM_ids (bid x) ((l.take j).map toI)
      rw [ids_toI] at hgm
      have hmp:=hm2.out.1
      by_cases hin : bid x ∈ idsE (l.take j)
      ·rw [decide_eq_true hin] at hgm
       have E9:=Lib.hid (lstE_dup H1000.out HV.out hlt (by rw [← HX.out];exact hin))
       clear hin
       go_wp2_with (at_lookup;go_loud (refine wpList_lookId rfl _ _ 104 rfl 4 Tryd.underlying104 (.bool false) (by kernel_rfl) m (idsM ((l.take j).map toI)) hmp (x.no,x.sq,x.of) rfl rfl ?_;rw [show getM (idsM ((l.take j).map toI)) (x.no,x.sq,x.of) (.bool false) = .bool true from hgm]))
       go_ret
       exact ⟨by rw [E9.out];rfl,hb1⟩
      ·rw [decide_eq_false hin] at hgm
       have ND:=Lib.hid (nodup_take hlt hm2.out.2 (by rw [← HX.out];exact hin))
       have PM : Hid (putM (idsM ((l.take j).map toI)) (bid x) (.bool true) = idsM ((l.take (j + 1)).map toI)):=Lib.hid (by
        have h9:=putM_ids (x:=toI x) (l:=(l.take j).map toI) (by rw [ids_toI];exact hin)
        rw [List.take_succ_eq_append_getElem hlt,List.map_append,← HX.out]
        exact h9)
       clear hin
       go_wp2_with (first
        | (at_lookup;go_loud (refine wpList_lookId rfl _ _ 104 rfl 4 Tryd.underlying104 (.bool false) (by kernel_rfl) m (idsM ((l.take j).map toI)) hmp (x.no,x.sq,x.of) rfl rfl ?_;rw [show getM (idsM ((l.take j).map toI)) (x.no,x.sq,x.of) (.bool false) = .bool false from hgm]))
        | (at_mapUpdate;go_loud (refine wpList_putId rfl _ _ _ 104 rfl 4 Tryd.underlying104 m (idsM ((l.take j).map toI)) hmp (x.no,x.sq,x.of) (.bool true) rfl rfl rfl ?_);intro w5 hm5 hg5))
       have hb5 : Below w.heap.size w w5:=hb1.grown hg5 hb1.size (fun k e => by cases e;exact lm)
       have hm6 : Hid (mapAt w5 m (idsM ((l.take (j + 1)).map toI)) ∧ (idsE (l.take (j + 1))).Nodup):=Lib.hid ⟨by rw [← PM.out];exact hm5,ND.out⟩
       clear hm5 hg5 hmp hm2
       go_roundw
       case rel => exact ⟨j + 1,by go_num,by omega,hb5,hm6⟩
       case measure => simp [intOf];omega
     ·obtain rfl : j = l.length:=by omega
      have nd:=HM.out.2
      rw [List.take_length] at nd
      have E9:=Lib.hid (lstE_zero H1000.out HV.out nd)
      clear nd
      go_wp2
      go_ret
      exact ⟨by rw [E9.out];rfl,hB⟩
end Go.Proofs.YtkaehoihpgelnaaDoor
