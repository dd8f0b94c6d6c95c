/- Parts of a proof, printed by a program of mine out of my texts: EgBool, SoStab, SoSort, BuKit, SoMade, KitBytes, EgMade, EgLaP, BuOrd2. -/
import Derived.Great.Walk
import Derived.Laws.Bits64b
import Derived.Test.YtkaehoihpgelnaaDoorCA
import Derived.Test.YtkaehoihpgelnaaDoorCB
import Derived.Test.YtkaehoihpgelnaaDoorCI
import Derived.Test.YtkaehoihpgelnaaDoorCK
import Derived.Test.YtkaehoihpgelnaaDoorCM
import Derived.Test.YtkaehoihpgelnaaDoorCN
import Derived.Test.YtkaehoihpgelnaaDoorCU
import Derived.Test.YtkaehoihpgelnaaDoorCW
set_option linter.unusedSimpArgs false
set_option linter.unusedVariables false
set_option maxRecDepth 100000
namespace Go.Proofs.YtkaehoihpgelnaaDoor
open Go.RowKit
theorem infoBool : (Tryd.prog.info? 4).map (fun i => (i.zero,i.size,i.bytes)) = some (some (.bool false),1,1):=by kernel_rfl
def cellB (s : List Bool) : Array Value:=(s.map Value.bool).toArray
theorem cellB_at {s : List Bool} {j : Nat} (hj : j < s.length) : (cellB s)[j]? = some (.bool s[j]):=by simp [cellB,hj]
theorem cellB_set (s : List Bool) (j : Nat) (b : Bool) : (cellB s).setIfInBounds j (.bool b) = cellB (s.set j b):=by simp [cellB,List.map_set]
theorem cellB_made (n : Nat) : madeCells #[.bool false] n = cellB (List.replicate n false):=by
  apply Array.ext (by simp [madeCells,cellB])
  intro i h1 h2
  simp [madeCells,cellB,Nat.mod_one]
theorem srow_atG {α : Type} {enc : α → List Value} {k : Nat} {w : World} {b o cap : Nat} {l : List α} (h : SRow enc k w (some ⟨b,o,none⟩) cap l) {j : Nat} (hj : j < l.length) : b < w.heap.size ∧ w.rangeAt b (o + j * k) (enc l[j]):=by
  obtain ⟨b',o',e,g,r⟩:=h.2.2.2 (by omega)
  cases e
  exact ⟨g,r j hj⟩
def BnV (b : Bn) : Prop:=buC b.no b.sq b.of b.de b.pr b.bo b.li b.to b.da.size = 0
theorem BnV.i {b : Bn} (h : BnV b) : BnI b:=by
  obtain ⟨_,⟨_,_,_,_,h1,h2,h3,h4,_⟩,_⟩:=buC_ok h
  exact ⟨⟨by omega,by omega⟩,⟨by omega,by omega⟩⟩
theorem BnV.da {b : Bn} (h : BnV b) : b.da.size ≤ 1000:=by
  obtain ⟨_,_,_,h1,_⟩:=buC_ok h
  omega
def MadeOf (k : Int) (da : ByteArray) : Prop:=0 ≤ k ∧ k < 1073741824 ∧ (da.size : Int) = k % 17 + 1
def mkB (k : Int) (i : Nat) (da : ByteArray) : Bn:=⟨1 + k % 4,i,0,1 + k / 200 % 4,k / 800 % 3,k / 2400 % 20,1 + k / 48000 % 60,k % 17 + 1,da⟩
def MkL (zs : List Int) (l : List Bn) : Prop:=∀ i (h : i < l.length),∃ da,MadeOf (zs.getD i 0 % 1073741824) da ∧ l[i] = mkB (zs.getD i 0 % 1073741824) i da
theorem MkL.sq {zs : List Int} {l : List Bn} (h : MkL zs l) (i : Nat) (hi : i < l.length) : l[i].sq = i:=by
  obtain ⟨da,_,h2⟩:=h i hi
  rw [h2];rfl
theorem MkL.inj {zs : List Int} {l : List Bn} (h : MkL zs l) : l.Pairwise (fun a b => a ≠ b):=by
  rw [List.pairwise_iff_getElem]
  intro i j hi hj hij e
  have h1:=h.sq i hi
  have h2:=h.sq j hj
  rw [e,h2] at h1
  omega
theorem MadeE.nil : MadeE []:=⟨by simp,fun i h => absurd h (by simp),fun i h => absurd h (by simp),fun i h => absurd h (by simp),fun i h => absurd h (by simp)⟩
theorem order_any (a b : Int) (w : World) : Calls Tryd.prog 66 #[.int .i64 a,.int .i64 b] w fun e w' => e = .returned (.int .i64 (cmp3 a b)) ∧ w = w':=by
  unfold cmp3
  by_cases h1 : a < b
  · rw [if_pos h1]
    go_enter Tryd.func66,Tryd.ntmps66
    go_wp2
    go_ret
    exact ⟨rfl,rfl⟩
  · rw [if_neg h1]
    by_cases h2 : b < a
    · rw [if_pos h2]
      go_enter Tryd.func66,Tryd.ntmps66
      go_wp2
      go_ret
      exact ⟨rfl,rfl⟩
    · rw [if_neg h2]
      go_enter Tryd.func66,Tryd.ntmps66
      go_wp2
      go_ret
      exact ⟨rfl,rfl⟩
theorem cmpI_cases (no sq of no' sq' of' : Int) :
    ((no != no') = true ∧ cmpI no sq of no' sq' of' = cmp3 no no') ∨ ((no != no') = false ∧ sq < sq' ∧ cmpI no sq of no' sq' of' = -1) ∨ ((no != no') = false ∧ sq' < sq ∧ cmpI no sq of no' sq' of' = 1) ∨
    ((no != no') = false ∧ ¬ sq < sq' ∧ ¬ sq' < sq ∧ cmpI no sq of no' sq' of' = cmp3 of of'):=by
  unfold cmpI
  rcases cmp3_cases no no' with ⟨h,h'⟩|⟨h,h'⟩|⟨h,h'⟩
  · exact .inl ⟨by simp;omega,by simp [orL,h]⟩
  · rcases cmp3_cases sq sq' with ⟨g,g'⟩|⟨g,g'⟩|⟨g,g'⟩
    · exact .inr (.inl ⟨by simp;omega,g',by simp [orL,h,g]⟩)
    · refine .inr (.inr (.inr ⟨by simp;omega,by omega,by omega,?_⟩))
      rcases cmp3_cases of of' with ⟨k,_⟩|⟨k,_⟩|⟨k,_⟩ <;> simp [orL,h,g,k]
    · exact .inr (.inr (.inl ⟨by simp;omega,g',by simp [orL,h,g]⟩))
  · exact .inl ⟨by simp;omega,by simp [orL,h]⟩
set_option maxHeartbeats 800000 in
theorem refCompare_any (no sq of no' sq' of' : Int) (w : World) :
    Calls Tryd.prog 42 #[idv no sq of,idv no' sq' of'] w fun e w' => e = .returned (.int .i64 (cmpI no sq of no' sq' of')) ∧ Below w.heap.size w w':=by
  have fin : Below w.heap.size w ((w.alloc (.cells #[.int .i64 no,.int .u64 sq,.int .i64 of] 36)).alloc (.cells #[.int .i64 no',.int .u64 sq',.int .i64 of'] 36)):=by (repeat(first|(with_reducible first|assumption|exact Below.refl _ _|refine je ?_|refine jl ?_)|((with_reducible refine jp ?_ ?_);first|focus(dsimp only;assumption)|focus(simp;done)|focus(dsimp only;omega))|(with_reducible refine bt ?_ (by assumption))))
  rcases cmpI_cases no sq of no' sq' of' with ⟨h1,h⟩|⟨h1,h2,h⟩|⟨h1,h2,h⟩|⟨h1,h2,h3,h⟩ <;> rw [h] <;> clear h
  all_goals
    go_enter Tryd.func42,Tryd.ntmps42
    go_wp2_with (go_at_call 66;refine (order_any _ _ _).mono ?_;rintro e wx ⟨rfl,rfl⟩)
    go_ret
    exact ⟨rfl,fin⟩
theorem and1_i64 (a : Int) : bits BinOp.and IntKind.i64 a 1 = a % 2:=by
  have h1 : ((BitVec.ofInt 64 a &&& BitVec.ofInt 64 1).toNat : Int) = a % 2:=by
    rw [BitVec.toNat_and]
    have : (BitVec.ofInt 64 1).toNat = 1:=by decide
    rw [this,Nat.and_one_is_mod,BitVec.toNat_ofInt]
    omega
  show IntKind.i64.wrap ((BitVec.ofInt 64 (a : Int) &&& BitVec.ofInt 64 1).toNat : Int) = _
  rw [h1]
  exact IntWalk.i64_in _ (by omega)
theorem halves (a b : Int) : a / 2 + b / 2 + (a % 2 + b % 2) / 2 = (a + b) / 2:=by omega
theorem half_bd {x : Int} (h : I64 x) : -4611686018427387904 ≤ x / 2 ∧ x / 2 ≤ 4611686018427387903:=by
  obtain ⟨h1,h2⟩:=h;omega
theorem sums_val (S T : Int) : cmp3 (S / 2) (T / 2) ≠ 0 ∧ cmp3 S T = cmp3 (S / 2) (T / 2) ∨ cmp3 (S / 2) (T / 2) = 0 ∧ cmp3 S T = cmp3 (S % 2) (T % 2):=by
  have h:=cmp3_parts S T 2 (by decide) []
  rcases cmp3_cases (S / 2) (T / 2) with ⟨g,_⟩|⟨g,_⟩|⟨g,_⟩ <;> rcases cmp3_cases S T with ⟨k,_⟩|⟨k,_⟩|⟨k,_⟩ <;> rcases cmp3_cases (S % 2) (T % 2) with ⟨l,_⟩|⟨l,_⟩|⟨l,_⟩ <;> simp [orL,g,k,l] at h ⊢
set_option maxHeartbeats 1600000 in
theorem sums_any (a b c d : Int) (ha : I64 a) (hb : I64 b) (hc : I64 c) (hd : I64 d) (w : World) :
    Calls Tryd.prog 41 #[.int .i64 a,.int .i64 b,.int .i64 c,.int .i64 d] w fun e w' => e = .returned (.int .i64 (cmp3 (a + b) (c + d))) ∧ w = w':=by
  have p1:=half_bd ha
  have p2:=half_bd hb
  have p3:=half_bd hc
  have p4:=half_bd hd
  have q1:=and1_i64 a
  have q2:=and1_i64 b
  have q3:=and1_i64 c
  have q4:=and1_i64 d
  have q5:=and1_i64 (a % 2 + b % 2)
  have q6:=and1_i64 (c % 2 + d % 2)
  have r1 : 0 ≤ a % 2 ∧ a % 2 ≤ 1:=by omega
  have r2 : 0 ≤ b % 2 ∧ b % 2 ≤ 1:=by omega
  have r3 : 0 ≤ c % 2 ∧ c % 2 ≤ 1:=by omega
  have r4 : 0 ≤ d % 2 ∧ d % 2 ≤ 1:=by omega
  clear ha hb hc hd
  have V:=sums_val (a + b) (c + d)
  rw [← halves a b,← halves c d] at V
  have g1:=fun w => order_any (a / 2 + b / 2 + (a % 2 + b % 2) / 2) (c / 2 + d / 2 + (c % 2 + d % 2) / 2) w
  have g2:=fun w => order_any ((a + b) % 2) ((c + d) % 2) w
  obtain ⟨x,hx⟩ : ∃ x,cmp3 (a / 2 + b / 2 + (a % 2 + b % 2) / 2) (c / 2 + d / 2 + (c % 2 + d % 2) / 2) = x:=⟨_,rfl⟩
  obtain ⟨y,hy⟩ : ∃ y,cmp3 ((a + b) % 2) ((c + d) % 2) = y:=⟨_,rfl⟩
  rw [hx] at g1 V;rw [hy] at g2 V
  clear hx hy
  replace g1:=Lib.hid g1;replace g2:=Lib.hid g2
  rcases V with ⟨v1,v2⟩|⟨v1,v2⟩
  · rw [v2];clear v2
    have v1' : (x != 0) = true:=by simpa using v1
    clear v1
    go_enter Tryd.func41,Tryd.ntmps41
    go_wp2_with (go_at_call 66;(with_reducible refine (g1.out _).mono ?_);rintro e wx ⟨rfl,rfl⟩)
    go_ret
    exact ⟨rfl,rfl⟩
  · rw [v2];clear v2
    have v1' : (x != 0) = false:=by simp [v1]
    clear v1
    go_enter Tryd.func41,Tryd.ntmps41
    go_wp2_with (first|(go_at_call 66;(with_reducible refine (g1.out _).mono ?_);rintro e wx ⟨rfl,rfl⟩)|(go_at_call 66;(with_reducible refine (g2.out _).mono ?_);rintro e wx ⟨rfl,rfl⟩))
    go_ret
    exact ⟨rfl,rfl⟩
theorem lessB_cases (no sq of pr bo li no' sq' of' pr' bo' li' : Int) :
    ((pr != pr') = true ∧ (lessB no sq of pr bo li no' sq' of' pr' bo' li' = true ∧ pr' < pr ∨ lessB no sq of pr bo li no' sq' of' pr' bo' li' = false ∧ ¬ pr' < pr)) ∨
    ((pr != pr') = false ∧ ∃ n c : Int,cmp3 (bo + li) (bo' + li') = n ∧ cmpI no sq of no' sq' of' = c ∧
      (n < 0 ∧ lessB no sq of pr bo li no' sq' of' pr' bo' li' = true ∨ ¬ n < 0 ∧ (n == 0) = true ∧ c < 0 ∧ lessB no sq of pr bo li no' sq' of' pr' bo' li' = true ∨
        ¬ n < 0 ∧ (n == 0) = true ∧ ¬ c < 0 ∧ lessB no sq of pr bo li no' sq' of' pr' bo' li' = false ∨ ¬ n < 0 ∧ (n == 0) = false ∧ lessB no sq of pr bo li no' sq' of' pr' bo' li' = false)):=by
  unfold lessB ordB
  rcases cmp3_cases pr' pr with ⟨h,h'⟩|⟨h,h'⟩|⟨h,h'⟩
  · exact .inl ⟨by simp;omega,.inl ⟨by simp [orL,h],h'⟩⟩
  · refine .inr ⟨by simp;omega,_,_,rfl,rfl,?_⟩
    rcases cmp3_cases (bo + li) (bo' + li') with ⟨g,g'⟩|⟨g,g'⟩|⟨g,g'⟩
    · exact .inl ⟨by omega,by simp [orL,h,g]⟩
    · by_cases hc : cmpI no sq of no' sq' of' < 0
      · exact .inr (.inl ⟨by omega,by simp [g],hc,by simp [orL,h,g];omega⟩)
      · exact .inr (.inr (.inl ⟨by omega,by simp [g],hc,by simp [orL,h,g];omega⟩))
    · exact .inr (.inr (.inr ⟨by omega,by simp [g],by simp [orL,h,g]⟩))
  · exact .inl ⟨by simp;omega,.inr ⟨by simp [orL,h],by omega⟩⟩
set_option maxHeartbeats 3200000 in
theorem refLess_any (no sq of de pr bo li to : Int) (da : ByteArray) (no' sq' of' de' pr' bo' li' to' : Int) (da' : ByteArray) (hb : I64 bo) (hl : I64 li) (hb' : I64 bo') (hl' : I64 li') (w : World) :
    Calls Tryd.prog 13 #[buv no sq of de pr bo li to da,buv no' sq' of' de' pr' bo' li' to' da'] w fun e w' => e = .returned (.bool (lessB no sq of pr bo li no' sq' of' pr' bo' li')) ∧ Below w.heap.size w w':=by
  have g1:=fun w => sums_any bo li bo' li' hb hl hb' hl' w
  have g2:=fun w => refCompare_any no sq of no' sq' of' w
  clear hb hl hb' hl'
  rcases lessB_cases no sq of pr bo li no' sq' of' pr' bo' li' with ⟨h1,⟨h,h2⟩|⟨h,h2⟩⟩|⟨h1,n,c,hn,hc,h⟩
  · rw [h];clear h g1 g2
    go_enter Tryd.func13,Tryd.ntmps13
    go_wp2
    go_ret
    exact ⟨rfl,by (repeat(first|(with_reducible first|assumption|exact Below.refl _ _|refine je ?_|refine jl ?_)|((with_reducible refine jp ?_ ?_);first|focus(dsimp only;assumption)|focus(simp;done)|focus(dsimp only;omega))|(with_reducible refine bt ?_ (by assumption))))⟩
  · rw [h];clear h g1 g2
    go_enter Tryd.func13,Tryd.ntmps13
    go_wp2
    go_ret
    exact ⟨rfl,by (repeat(first|(with_reducible first|assumption|exact Below.refl _ _|refine je ?_|refine jl ?_)|((with_reducible refine jp ?_ ?_);first|focus(dsimp only;assumption)|focus(simp;done)|focus(dsimp only;omega))|(with_reducible refine bt ?_ (by assumption))))⟩
  · rw [hn] at g1;rw [hc] at g2
    replace g1:=Lib.hid g1;replace g2:=Lib.hid g2
    clear hn hc
    rcases h with ⟨h2,h⟩|⟨h2,h3,h4,h⟩|⟨h2,h3,h4,h⟩|⟨h2,h3,h⟩ <;> rw [h] <;> clear h
    all_goals
      try have d2 : decide (n < 0) = false:=by simpa using h2
      try have d4 : decide (c < 0) = false:=by simpa using h4
      go_enter Tryd.func13,Tryd.ntmps13
      go_wp2_with (first
        | (go_at_call 41;(with_reducible refine (g1.out _).mono ?_);rintro e w1 ⟨rfl,rfl⟩)
        | (go_at_call 42;(with_reducible refine (g2.out _).mono ?_);rintro e w2 ⟨rfl,hw2⟩))
      go_ret
      exact ⟨rfl,by (repeat(first|(with_reducible first|assumption|exact Below.refl _ _|refine je ?_|refine jl ?_)|((with_reducible refine jp ?_ ?_);first|focus(dsimp only;assumption)|focus(simp;done)|focus(dsimp only;omega))|(with_reducible refine bt ?_ (by assumption))))⟩
def sameB (no sq of de pr bo li to : Int) (da : ByteArray) (no' sq' of' de' pr' bo' li' to' : Int) (da' : ByteArray) : Bool :=
  decide (no = no' ∧ sq = sq' ∧ of = of' ∧ de = de' ∧ pr = pr' ∧ bo = bo' ∧ li = li' ∧ to = to' ∧ da.toList = da'.toList)
end Go.Proofs.YtkaehoihpgelnaaDoor
