/- Parts of a proof, printed by a program of mine out of my texts: SoMath, SRow, BuCmp, BuOrd, SoIns, SoOrd, SOwn, SoOwn, SoEq, SoMap, StMath. -/
import Derived.RowKit
import Derived.Deep.MidRow
import Derived.Laws.AppendOwn
import Derived.Laws.Externs
import Derived.Laws.Bits64
import Derived.OrdersHeld
import Derived.Deep.RegionHeld
import Derived.Deep.Cut
import Derived.Great.Walk
import Derived.Laws.AppendOwnNone
import Derived.OwnWalk
import Derived.Maps.OwnOps
import Derived.Test.YtkaehoihpgelnaaDoorCA
import Derived.Test.YtkaehoihpgelnaaDoorCB
set_option linter.unusedSimpArgs false
set_option linter.unusedVariables false
set_option maxRecDepth 100000
namespace Go.Proofs.YtkaehoihpgelnaaDoor
variable {α : Type}
def insRev (lt : α → α → Bool) (x : α) : List α → List α
  | [] => [x]
  | y :: r => if lt x y then y :: insRev lt x r else x :: y :: r
def insR (lt : α → α → Bool) (x : α) (l : List α) : List α:=(insRev lt x l.reverse).reverse
def isort (lt : α → α → Bool) (l : List α) : List α:=l.foldl (fun s x => insR lt x s) []
theorem insRev_mid (lt : α → α → Bool) (x : α) : ∀ (a b : List α),(∀ y ∈ a,lt x y = true) → (∀ y,b.head? = some y → lt x y = false) → insRev lt x (a ++ b) = a ++ x :: b
  | [],[],_,_ => rfl
  | [],y :: r,_,h => by simp [insRev,h y rfl]
  | y :: a,b,h,h2 => by
    simp only [List.cons_append,insRev]
    rw [if_pos (h y (by simp)),insRev_mid lt x a b (fun z hz => h z (by simp [hz])) h2]
theorem insR_mid (lt : α → α → Bool) (x : α) (a b : List α) (h : ∀ y ∈ b,lt x y = true) (h2 : ∀ y,a.getLast? = some y → lt x y = false) : insR lt x (a ++ b) = a ++ x :: b:=by
  unfold insR
  rw [List.reverse_append,insRev_mid lt x b.reverse a.reverse (by simpa using h) (by simpa [List.head?_reverse] using h2)]
  simp
theorem insRev_perm (lt : α → α → Bool) (x : α) : ∀ l : List α,(insRev lt x l).Perm (x :: l)
  | [] => List.Perm.refl _
  | y :: r => by
    simp only [insRev]
    split
    · exact ((insRev_perm lt x r).cons y).trans (List.Perm.swap x y r)
    · exact List.Perm.refl _
theorem insR_perm (lt : α → α → Bool) (x : α) (l : List α) : (insR lt x l).Perm (x :: l) :=
  (List.reverse_perm _).trans ((insRev_perm lt x _).trans ((List.reverse_perm l).cons x))
theorem isort_snoc (lt : α → α → Bool) (l : List α) (x : α) : isort lt (l ++ [x]) = insR lt x (isort lt l):=by simp [isort]
theorem isort_perm (lt : α → α → Bool) (l : List α) : (isort lt l).Perm l:=by
  suffices h : ∀ (l s : List α),(l.foldl (fun s x => insR lt x s) s).Perm (s ++ l) by simpa [isort] using h l []
  intro l
  induction l with
  | nil => intro s;simp
  | cons x l ih =>
    intro s
    refine (ih _).trans ?_
    refine ((insR_perm lt x s).append_right l).trans ?_
    exact List.perm_middle.symm
theorem isort_length (lt : α → α → Bool) (l : List α) : (isort lt l).length = l.length:=(isort_perm lt l).length_eq
def Srt (lt : α → α → Bool) (l : List α) : Prop:=l.Pairwise (fun a b => lt b a = false)
theorem insRev_srt (lt : α → α → Bool) (asym : ∀ a b,lt a b = true → lt b a = false) (tr : ∀ a b c,lt a b = false → lt b c = false → lt a c = false) (x : α) :
    ∀ l : List α,l.Pairwise (fun a b => lt a b = false) → (insRev lt x l).Pairwise (fun a b => lt a b = false)
  | [],_ => by simp [insRev]
  | y :: r,h => by
    simp only [insRev]
    obtain ⟨h1,h2⟩:=List.pairwise_cons.1 h
    split
    · rename_i hx
      refine List.pairwise_cons.2 ⟨fun z hz => ?_,insRev_srt lt asym tr x r h2⟩
      rcases List.mem_cons.1 ((insRev_perm lt x r).mem_iff.1 hz) with rfl|hz
      · exact asym _ _ hx
      · exact h1 z hz
    · rename_i hx
      have hx' : lt x y = false:=by simpa using hx
      refine List.pairwise_cons.2 ⟨fun z hz => ?_,h⟩
      rcases List.mem_cons.1 hz with rfl|hz
      · exact hx'
      · exact tr _ _ _ hx' (h1 z hz)
theorem insR_srt (lt : α → α → Bool) (asym : ∀ a b,lt a b = true → lt b a = false) (tr : ∀ a b c,lt a b = false → lt b c = false → lt a c = false) (x : α) (l : List α) (h : Srt lt l) : Srt lt (insR lt x l):=by
  unfold Srt insR at *
  rw [List.pairwise_reverse]
  exact insRev_srt lt asym tr x l.reverse (List.pairwise_reverse.2 h)
theorem isort_srt (lt : α → α → Bool) (asym : ∀ a b,lt a b = true → lt b a = false) (tr : ∀ a b c,lt a b = false → lt b c = false → lt a c = false) (l : List α) : Srt lt (isort lt l):=by
  suffices h : ∀ (l s : List α),Srt lt s → Srt lt (l.foldl (fun s x => insR lt x s) s) from h l [] List.Pairwise.nil
  intro l
  induction l with
  | nil => intro s h;exact h
  | cons x l ih => intro s h;exact ih _ (insR_srt lt asym tr x s h)
theorem nb_form (A S1 S2 D : List α) (x y : α) : A ++ ((S1 ++ [y]) ++ x :: S2) ++ D = (A ++ S1) ++ (y :: x :: (S2 ++ D)):=by simp
theorem nb_x (A S1 S2 D : List α) (x y : α) : (A ++ ((S1 ++ [y]) ++ x :: S2) ++ D)[A.length + S1.length + 1]? = some x:=by
  rw [nb_form,List.getElem?_append_right (by simp)]
  rw [show A.length + S1.length + 1 - (A ++ S1).length = 1 by simp]
  rfl
theorem nb_y (A S1 S2 D : List α) (x y : α) : (A ++ ((S1 ++ [y]) ++ x :: S2) ++ D)[A.length + S1.length]? = some y:=by
  rw [nb_form,List.getElem?_append_right (by simp)]
  rw [show A.length + S1.length - (A ++ S1).length = 0 by simp]
  rfl
theorem nb_swap (A S1 S2 D : List α) (x y : α) : ((A ++ ((S1 ++ [y]) ++ x :: S2) ++ D).set (A.length + S1.length + 1) y).set (A.length + S1.length) x = A ++ (S1 ++ x :: (y :: S2)) ++ D:=by
  rw [nb_form,List.set_append_right _ _ (by simp),List.set_append_right _ _ (by simp)]
  rw [show A.length + S1.length + 1 - (A ++ S1).length = 1 by simp,show A.length + S1.length - (A ++ S1).length = 0 by simp]
  simp
end Go.Proofs.YtkaehoihpgelnaaDoor
namespace Go.Proofs.YtkaehoihpgelnaaDoor
open Go.RowKit
section
variable {α : Type} {enc : α → List Value} {k : Nat}
def rowC (enc : α → List Value) (l : List α) : List Value:=l.flatMap enc
theorem rowC_length (hk : ∀ x,(enc x).length = k) : ∀ l : List α,(rowC enc l).length = l.length * k
  | [] => by simp [rowC]
  | x :: l => by
    have:=rowC_length hk l
    simp only [rowC,List.flatMap_cons,List.length_append,List.length_cons,hk] at this ⊢
    rw [this,Nat.add_mul];omega
theorem rowC_append (a b : List α) : rowC enc (a ++ b) = rowC enc a ++ rowC enc b:=by simp [rowC]
theorem rowC_one (x : α) : rowC enc [x] = enc x:=by simp [rowC]
theorem rowC_split (l : List α) (i : Nat) (hi : i < l.length) : rowC enc l = rowC enc (l.take i) ++ (enc l[i] ++ rowC enc (l.drop (i + 1))):=by
  have e : l = l.take i ++ ([l[i]] ++ l.drop (i + 1)):=by
    rw [List.singleton_append,← List.drop_eq_getElem_cons hi,List.take_append_drop]
  conv => lhs;rw [e]
  rw [rowC_append,rowC_append,rowC_one]
theorem rowC_at (hk : ∀ x,(enc x).length = k) (l : List α) (i : Nat) (hi : i < l.length) (rest : List Value) : ((rowC enc l ++ rest).drop (i * k)).take (enc l[i]).length = enc l[i]:=by
  rw [rowC_split l i hi,List.append_assoc,List.append_assoc]
  have e : (rowC enc (l.take i)).length = i * k:=by rw [rowC_length hk,List.length_take,Nat.min_eq_left (by omega)]
  rw [← e,List.drop_left,List.take_left]
theorem rowC_cell (hk : ∀ x,(enc x).length = k) (l : List α) (i j : Nat) (hi : i < l.length) (hj : j < k) (rest : List Value) : (rowC enc l ++ rest)[i * k + j]? = (enc l[i])[j]?:=by
  have h:=rowC_at hk l i hi rest
  have h2:=congrArg (fun z => z[j]?) h
  rw [List.getElem?_take_of_lt (by rw [hk];exact hj),List.getElem?_drop] at h2
  exact h2
def setMid (c : Array Value) : Nat → List Value → Array Value
  | _,[] => c
  | o,v :: r => setMid (c.setIfInBounds o v) (o + 1) r
end
theorem blk_setCells {b : Nat} : ∀ (vs : List Value) (o : Nat) (w : World) (c : Array Value),blk w b = some c → blk (w.setCells b o vs) b = some (setMid c o vs)
  | [],_,_,_,h => h
  | v :: r,o,w,c,h => blk_setCells r (o + 1) _ _ (blk_set h)
theorem blk_setCells_other {b d : Nat} (hd : d ≠ b) : ∀ (vs : List Value) (o : Nat) (w : World) (c : Array Value),blk w d = some c → blk (w.setCells b o vs) d = some c
  | [],_,_,_,h => h
  | v :: r,o,w,c,h => blk_setCells_other hd r (o + 1) _ _ (blk_other h hd)
theorem below_setCells {B b : Nat} {w0 : World} (hB : B ≤ b) : ∀ (vs : List Value) (o : Nat) (w : World),Below B w0 w → Below B w0 (w.setCells b o vs)
  | [],_,_,h => h
  | v :: r,o,w,h => below_setCells hB r (o + 1) _ (h.setCell hB v)
theorem size_setCells {b : Nat} : ∀ (vs : List Value) (o : Nat) (w : World),(w.setCells b o vs).heap.size = w.heap.size
  | [],_,_ => rfl
  | v :: r,o,w => (size_setCells r (o + 1) _).trans (by simp)
theorem there_of_blk {w : World} {b o n : Nat} {c : Array Value} (h : blk w b = some c) (hn : o + n ≤ c.size) : w.there b o n:=fun j hj => by
  refine ⟨?_,blk_frozen h _⟩
  rw [blk_cell h,Array.getElem?_eq_getElem (by omega)]
  rfl
theorem range_of_blk {w : World} {b : Nat} {c : Array Value} (h : blk w b = some c) (o : Nat) (cs : List Value) (hc : (c.toList.drop o).take cs.length = cs) : w.rangeAt b o cs:=fun j v hv => by
  rw [blk_cell h]
  have hj : j < cs.length:=(List.getElem?_eq_some_iff.1 hv).1
  rw [← hc] at hv
  rw [List.getElem?_take_of_lt hj,List.getElem?_drop,Array.getElem?_toList] at hv
  exact hv
theorem range_row {α : Type} {enc : α → List Value} {k : Nat} (hk : ∀ x,(enc x).length = k) {w : World} {g : Nat} {l : List α} {sp : List Value} (hb : blk w g = some (rowC enc l ++ sp).toArray) {i : Nat} {x : α} (h : l[i]? = some x) : w.rangeAt g (i * k) (enc x):=by
  obtain ⟨hi,rfl⟩:=List.getElem?_eq_some_iff.1 h
  exact range_of_blk hb _ _ (by simpa using rowC_at hk l i hi sp)
theorem range_below {w w' : World} {b o : Nat} {cs : List Value} (hb : b < w.heap.size) (h : w.rangeAt b o cs) (hw : Below w.heap.size w w') : w'.rangeAt b o cs:=fun j v hv => (hw.cell (p:=⟨b,o + j,none⟩) hb).trans (h j v hv)
section
variable {α : Type} {enc : α → List Value} {k : Nat}
def SRow (enc : α → List Value) (k : Nat) (w : World) (a : Option Addr) (cap : Nat) (l : List α) : Prop :=
  l.length ≤ cap ∧ cap ≤ maxLen ∧ (a = none → cap = 0) ∧
  (0 < l.length → ∃ b off,a = some ⟨b,off,none⟩ ∧ b < w.heap.size ∧ ∀ i (h : i < l.length),w.rangeAt b (off + i * k) (enc l[i]))
theorem SRow.below {w w' : World} {a : Option Addr} {cap : Nat} {l : List α} (h : SRow enc k w a cap l) (hb : Below w.heap.size w w') : SRow enc k w' a cap l:=by
  obtain ⟨h1,h2,h3,h4⟩:=h
  refine ⟨h1,h2,h3,fun h0 => ?_⟩
  obtain ⟨b,off,e,hlt,hc⟩:=h4 h0
  exact ⟨b,off,e,Nat.lt_of_lt_of_le hlt hb.size,fun i hi => range_below hlt (hc i hi) hb⟩
theorem srow_nil (w : World) : SRow enc k w none 0 []:=⟨Nat.le_refl _,by unfold maxLen;omega,fun _ => rfl,fun h => absurd h (by simp)⟩
theorem srow_of_owns (hk : ∀ x,(enc x).length = k) {w : World} {base : Nat} {e : TypeId} {v : Value} {l : List α} (h : w.ownsRow base e k v l.length (rowC enc l)) :
    ∃ a cap,v = .slice a l.length cap ∧ SRow enc k w a cap l ∧ ((a = none ∧ l = []) ∨ ∃ g cur,a = some ⟨g,0,none⟩ ∧ base ≤ g ∧ blk w g = some cur ∧ cur.size = cap * k ∧ cur.toList.take (l.length * k) = rowC enc l):=by
  obtain ⟨h1,h2⟩:=h
  rcases h2 with ⟨rfl,h0⟩|⟨g,cap,cur,rfl,hb,hg,hc,hm,hs,ht⟩
  · have : l = []:=List.length_eq_zero_iff.1 h0
    subst this
    exact ⟨none,0,rfl,srow_nil w,.inl ⟨rfl,rfl⟩⟩
  · refine ⟨_,cap,rfl,⟨hc,hm,by simp,fun _ => ⟨g,0,rfl,(Array.getElem?_eq_some_iff.1 hg).1,fun i hi => ?_⟩⟩,.inr ⟨g,cur,rfl,hb,blk_of hg,hs,ht⟩⟩
    refine range_of_blk (blk_of hg) _ _ ?_
    have e : cur.toList = rowC enc l ++ cur.toList.drop (l.length * k):=by rw [← ht,List.take_append_drop]
    rw [e,Nat.zero_add]
    exact rowC_at hk l i hi _
end
section
variable {P : Program} {ops : Array Oper} {rest : List Oper} {o : Oper} {a : Act} {w : World}
theorem wpList_store_midB {Q : Exit → Act → World → Prop} (ty : TypeId) (x y : Operand) (b off : Nat) (c c' cells : Array Value) (hb : blk w b = some c) (hgd : o.guard = none) (ho : o.op = .store ty x y)
    (hx : a.eval x = .pointer (some ⟨b,off,none⟩)) (hy : a.eval y = .agg cells) (hsz : off + cells.size ≤ c.size) (hi : (P.info? ty).map (·.size) = some cells.size) (h1 : cells.all (·.oneCell') = true)
    (hc : setMid c off cells.toList = c')
    (h : ∀ w',blk w' b = some c' → (∀ d e,d ≠ b → blk w d = some e → blk w' d = some e) → (∀ B w0,B ≤ b → Below B w0 w → Below B w0 w') → w'.heap.size = w.heap.size → wpList P ops Q rest (a.put o.dst undef) w') : wpList P ops Q (o :: rest) a w:=by
  refine wpList_store_mid hgd ty x y ho b off cells hx hy (there_of_blk hb hsz) hi h1 ?_
  exact h _ (hc ▸ blk_setCells _ _ _ _ hb) (fun d e hd he => blk_setCells_other hd _ _ _ _ he) (fun B w0 hB hw => below_setCells hB _ _ _ hw) (size_setCells _ _ _)
theorem wpQuiet_load_range {C : World → Prop} {Q : Act → Prop} (ty : TypeId) (x : Operand) (b off : Nat) (cs : List Value) (hb : ∀ w,C w → w.rangeAt b off cs) (d : TypeDesc) (hw : Region.wanted o (yielded ops a.tmps) = true) (ho : o.op = .load ty x) (hx : a.eval x = .pointer (some ⟨b,off,none⟩))
    (hu : P.underlying ty = some d) (hd : d.isRow = true) (hi : (P.info? ty).map (·.size) = some cs.length)
    (h : wpQuiet P ops C Q rest (a.put o.dst (.agg cs.toArray))) : wpQuiet P ops C Q (o :: rest) a:=by
  refine wpQuiet_step fun K hK => ?_
  rw [if_pos hw]
  refine ⟨.agg cs.toArray,fun w hw => ?_,hK _ h⟩
  unfold Oper.quietAt execOp
  simp only [ho,hx,Sem.run_bind,run_loadAt_mid w b off ty cs d (hb w hw) hu hd hi,Result.andThen_ok]
  exact ⟨rfl,rfl⟩
theorem wpQuiet_app {C : World → Prop} {Q : Act → Prop} (l2 : List Oper) : ∀ (l1 : List Oper) (a : Act),wpQuiet P ops C (fun a' => wpQuiet P ops C Q l2 a') l1 a → wpQuiet P ops C Q (l1 ++ l2) a
  | [],a,h => h
  | o :: rest,a,h => by
    unfold wpQuiet at h
    rw [List.cons_append]
    unfold wpQuiet
    split
    · rename_i hw
      rw [if_pos hw] at h
      exact Oper.quiet_mono (fun a' h' => wpQuiet_app l2 rest a' h') h
    · rename_i hw
      rw [if_neg hw] at h
      exact wpQuiet_app l2 rest _ h
theorem wpQuiet_split {C : World → Prop} {Q : Act → Prop} {l : List Oper} (n : Nat) (h : wpQuiet P ops C (fun a' => wpQuiet P ops C Q (l.drop n) a') (l.take n) a) : wpQuiet P ops C Q l a:=by
  have:=wpQuiet_app (P:=P) (ops:=ops) (C:=C) (Q:=Q) (l.drop n) (l.take n) a h
  rwa [List.take_append_drop] at this
variable {α : Type} {enc : α → List Value}
end
section
variable {P : Program} {ops : Array Oper} {rest : List Oper} {o : Oper} {a : Act} {w : World}
theorem wpList_of_quiet_then {C : World → Prop} {K : Act → Prop} {Q : Exit → Act → World → Prop} (l2 : List Oper) (hK : ∀ a w,C w → K a → wpList P ops Q l2 a w) :
    ∀ (l : List Oper) (a : Act) (w : World),C w → wpQuiet P ops C K l a → wpList P ops Q (l ++ l2) a w
  | [],a,w,hC,h => hK a w hC h
  | o :: rest,a,w,hC,h => by
    unfold wpQuiet at h
    rw [List.cons_append]
    unfold wpList
    split
    · rename_i hw
      rw [if_pos hw] at h
      exact .inl (Oper.wp_of_quiet hC (fun a' w' hC' h' => wpList_of_quiet_then l2 hK rest a' w' hC' h') h)
    · rename_i hw
      rw [if_neg hw] at h
      exact wpList_of_quiet_then l2 hK rest _ w hC h
theorem wp_region_tail0 {id : Nat} {Q : Exit → Act → World → Prop} {w : World} {l : List Oper} (n : Nat)
    (h : ∀ W0,Hid (W0 = w) → Nonempty (Class (Calm W0)) → wpQuiet P l.toArray (fun w' => ∃ x : Class (Calm W0),w' = x.wd) (fun a' => ∀ w',(∃ x : Class (Calm W0),w' = x.wd) → wpList P l.toArray Q (l.drop n) a' w') (l.take n) a) : (Code.region id l.toArray false).wp P Q a w:=by
  refine wp_region_lit ?_
  have:=wpList_of_quiet_then (P:=P) (ops:=l.toArray) (Q:=Q) (C:=fun w' => ∃ x : Class (Calm w),w' = x.wd) (l.drop n) (fun a' w' hC hQ => hQ w' hC) (l.take n) a w ⟨⟨w,Below.refl _ _⟩,rfl⟩ (h w (Lib.hid rfl) ⟨⟨_,Below.refl _ _⟩⟩)
  rwa [List.take_append_drop] at this
end
end Go.Proofs.YtkaehoihpgelnaaDoor
namespace Go.Proofs.YtkaehoihpgelnaaDoor
open Go.RowKit
def cmp3 (a b : Int) : Int:=if a < b then -1 else if b < a then 1 else 0
theorem cmpInt_any (a b : Int) (w : World) : Calls Tryd.prog 103 #[.int .i64 a,.int .i64 b] w fun e w' => e = .returned (.int .i64 (cmp3 a b)) ∧ w = w':=by
  unfold cmp3
  by_cases h1 : a < b
  · rw [if_pos h1]
    go_enter Tryd.func103,Tryd.ntmps103
    go_wp2
    go_ret
    exact ⟨rfl,rfl⟩
  · rw [if_neg h1]
    by_cases h2 : b < a
    · rw [if_pos h2]
      go_enter Tryd.func103,Tryd.ntmps103
      go_wp2
      go_ret
      exact ⟨rfl,rfl⟩
    · rw [if_neg h2]
      go_enter Tryd.func103,Tryd.ntmps103
      go_wp2
      go_ret
      exact ⟨rfl,rfl⟩
theorem cmpNat_any (a b : Int) (w : World) : Calls Tryd.prog 104 #[.int .u64 a,.int .u64 b] w fun e w' => e = .returned (.int .i64 (cmp3 a b)) ∧ w = w':=by
  unfold cmp3
  by_cases h1 : a < b
  · rw [if_pos h1]
    go_enter Tryd.func104,Tryd.ntmps104
    go_wp2
    go_ret
    exact ⟨rfl,rfl⟩
  · rw [if_neg h1]
    by_cases h2 : b < a
    · rw [if_pos h2]
      go_enter Tryd.func104,Tryd.ntmps104
      go_wp2
      go_ret
      exact ⟨rfl,rfl⟩
    · rw [if_neg h2]
      go_enter Tryd.func104,Tryd.ntmps104
      go_wp2
      go_ret
      exact ⟨rfl,rfl⟩
def orL : List Int → Int
  | [] => 0
  | x :: l => if x ≠ 0 then x else orL l
theorem orL_at (l : List Int) (k : Nat) (hk : k < l.length) (h0 : ∀ j (hj : j < l.length),j < k → l[j] = 0) (h : l[k] ≠ 0) : orL l = l[k]:=by
  induction l generalizing k with
  | nil => simp at hk
  | cons x l ih =>
    cases k with
    | zero => simp [orL] at h ⊢;intro hx;exact absurd hx h
    | succ k =>
      have h1 : x = 0:=h0 0 (by simp) (by omega)
      subst h1
      simp only [orL,ne_eq,not_true_eq_false,if_false,List.getElem_cons_succ]
      exact ih k (by simpa using hk) (fun j hj hjk => by have:=h0 (j + 1) (by simpa using hj) (by omega);rwa [List.getElem_cons_succ] at this) (by simpa using h)
theorem orL_none {l : List Int} (h0 : ∀ j (hj : j < l.length),l[j] = 0) : orL l = 0:=by
  induction l with
  | nil => rfl
  | cons x l ih =>
    have h1 : x = 0:=h0 0 (by simp)
    subst h1
    simp only [orL,ne_eq,not_true_eq_false,if_false]
    exact ih fun j hj => by have:=h0 (j + 1) (by simpa using hj);rwa [List.getElem_cons_succ] at this
set_option maxHeartbeats 800000 in
theorem or_any (b cap : Nat) (l : List Int) (w : World) (hl : l.length ≤ 100) (hcap : l.length ≤ cap) (hcap2 : cap ≤ 1000) (hb : blk w b = some (l.map (Value.int .i64)).toArray) :
    Calls Tryd.prog 102 #[.slice (some ⟨b,0,none⟩) l.length cap] w fun e w' => e = .returned (.int .i64 (orL l)) ∧ w = w':=by
  have hc : ∀ k (hk : k < l.length),w.cell? ⟨b,k,none⟩ = some (.int .i64 l[k]):=fun k hk => (blk_cell hb k).trans (by simp [hk])
  have Hc:=Lib.hid hc;clear hc hb
  have At:=Lib.hid (orL_at l)
  have None:=Lib.hid (@orL_none l)
  obtain ⟨R,hR⟩ : ∃ R,R = orL l:=⟨_,rfl⟩
  rw [← hR]
  have HR:=Lib.hid hR;clear hR
  go_enter Tryd.func102,Tryd.ntmps102
  go_wp2
  go_loop [8] (fun i => ∃ k : Nat,i = .int .i64 k ∧ k ≤ l.length ∧ ∀ j (hj : j < l.length),j < k → l[j] = 0) (fun i => l.length - (intOf i).toNat)
  case atStart => exact ⟨0,rfl,by omega,fun j hj h => absurd h (by omega)⟩
  case round =>
    obtain ⟨k,rfl,hk,hz⟩:=hrel
    have Hz:=Lib.hid hz;clear hz
    by_cases hlt : k < l.length
    · have hk1:=Hc.out k hlt
      obtain ⟨V,hV⟩ : ∃ V,l[k] = V:=⟨_,rfl⟩
      rw [hV] at hk1
      have HV:=Lib.hid hV;clear hV
      by_cases h0 : V = 0
      · have h0' : (V != 0) = false:=by simp [h0]
        have H0:=Lib.hid h0;clear h0
        go_wp2
        go_round
        case rel =>
          refine ⟨k + 1,by go_num,by omega,fun j hj h => ?_⟩
          by_cases e : j = k
          · subst e;rw [HV.out,H0.out]
          · exact Hz.out j hj (by omega)
        case measure => simp [intOf];omega
      · have h0' : (V != 0) = true:=by simp [h0]
        go_wp2
        go_ret
        exact ⟨ret_int (by rw [HR.out,At.out k hlt Hz.out (by rw [HV.out];exact h0),HV.out]),rfl⟩
    · obtain rfl : k = l.length:=by omega
      go_wp2
      go_ret
      exact ⟨ret_int (by rw [HR.out];exact (None.out fun j hj => Hz.out j hj hj).symm),rfl⟩
def cmpI (no sq of no' sq' of' : Int) : Int:=orL [cmp3 no no',cmp3 sq sq',cmp3 of of']
theorem or3 (x y z r : Int) (hr : orL [x,y,z] = r) (b cap : Nat) (W : World) (hcap : cap = 3) (hb : blk W b = some #[.int .i64 x,.int .i64 y,.int .i64 z]) :
    Calls Tryd.prog 102 #[.slice (some ⟨b,0,none⟩) 3 cap] W fun e w' => e = .returned (.int .i64 r) ∧ W = w':=by
  subst hcap;rw [← hr];exact or_any b 3 [x,y,z] W (by simp) (by simp) (by simp) hb
set_option maxHeartbeats 800000 in
theorem compare_any (no sq of no' sq' of' : Int) (w : World) :
    Calls Tryd.prog 105 #[idv no sq of,idv no' sq' of'] w fun e w' => e = .returned (.int .i64 (cmpI no sq of no' sq' of')) ∧ Below w.heap.size w w':=by
  obtain ⟨r,hr⟩ : ∃ r,cmpI no sq of no' sq' of' = r:=⟨_,rfl⟩
  rw [hr]
  have g4:=Lib.hid (or3 _ _ _ r hr);clear hr
  go_enter Tryd.func105,Tryd.ntmps105
  go_wp2
  refine wp_region_tail 15 (by kernel_rfl) (by kernel_rfl) ?_
  intro W0_1 hE_1 hN_1
  have bW0_1 : Below w.heap.size w W0_1:=(by rw [hE_1.out];(repeat(first|(with_reducible first|assumption|exact Below.refl _ _|refine je ?_|refine jl ?_)|((with_reducible refine jp ?_ ?_);first|focus(dsimp only;assumption)|focus(simp;done)|focus(dsimp only;omega))|(with_reducible refine bt ?_ (by assumption)))))
  have kk2 : blk W0_1 (w.heap.size) = some #[.int .i64 no,.int .u64 sq,.int .i64 of]:=(by rw [hE_1.out];(apply jt;(focus repeat(first|(with_reducible first|assumption|apply jd|apply js)|((with_reducible apply jo);first|focus(dsimp only;assumption)|focus(simp;done)|focus(dsimp only;omega))|((with_reducible apply jn);first|with_reducible rfl|focus(simp;done)|focus(simp;omega))|(with_reducible apply ja)|((with_reducible apply jb);with_reducible assumption)));rfl))
  have kn2:=calm_kn kk2
  have kk3 : blk W0_1 (w.heap.size + 1) = some #[.int .i64 no',.int .u64 sq',.int .i64 of']:=(by rw [hE_1.out];(apply jt;(focus repeat(first|(with_reducible first|assumption|apply jd|apply js)|((with_reducible apply jo);first|focus(dsimp only;assumption)|focus(simp;done)|focus(dsimp only;omega))|((with_reducible apply jn);first|with_reducible rfl|focus(simp;done)|focus(simp;omega))|(with_reducible apply ja)|((with_reducible apply jb);with_reducible assumption)));rfl))
  have kn3:=calm_kn kk3
  clear hE_1
  simp only [List.take_succ_cons,List.take_zero,List.drop_succ_cons,List.drop_zero]
  repeat (go_big_quiet_step ((first|(go_at_call 103;exact Class.same _ (cmpInt_any _ _ _))|(go_at_call 104;exact Class.same _ (cmpNat_any _ _ _)))))
  refine wpQuiet_nil ?_
  rintro _ ⟨x_1,rfl⟩
  have hx_1 : Calm W0_1 x_1.wd:=x_1.ok
  have bwn : Below w.heap.size w x_1.wd:=bt bW0_1 hx_1
  clear kn2;replace kk2:=blk_below hx_1 kk2;have kn2:=kn kk2
  clear kn3;replace kk3:=blk_below hx_1 kk3;have kn3:=kn kk3
  clear hx_1 bW0_1 hN_1
  generalize x_1.wd = wn at *
  go_wp2_with (go_at_call 102;(with_reducible refine (g4.out _ _ _ rfl (blk_alloc_new _ _ _ (by simp))).mono ?_);rintro e wx ⟨rfl,rfl⟩)
  go_ret
  exact ⟨rfl,by (repeat(first|(with_reducible first|assumption|exact Below.refl _ _|refine je ?_|refine jl ?_)|((with_reducible refine jp ?_ ?_);first|focus(dsimp only;assumption)|focus(simp;done)|focus(dsimp only;omega))|(with_reducible refine bt ?_ (by assumption))))⟩
end Go.Proofs.YtkaehoihpgelnaaDoor
namespace Go.Proofs.YtkaehoihpgelnaaDoor
open Go.RowKit
def I64 (x : Int) : Prop:=-9223372036854775808 ≤ x ∧ x ≤ 9223372036854775807
def hiP (bo li : Int) : Int:=(bo + li) / 18446744073709551616
def loP (bo li : Int) : Int:=(bo + li) % 18446744073709551616
def ordB (no sq of pr bo li no' sq' of' pr' bo' li' : Int) : Int:=orL [cmp3 pr' pr,cmp3 (bo + li) (bo' + li'),cmpI no sq of no' sq' of']
def lessB (no sq of pr bo li no' sq' of' pr' bo' li' : Int) : Bool:=decide (ordB no sq of pr bo li no' sq' of' pr' bo' li' < 0)
theorem cmp3_cases (a b : Int) : (cmp3 a b = -1 ∧ a < b) ∨ (cmp3 a b = 0 ∧ a = b) ∨ (cmp3 a b = 1 ∧ b < a):=by
  unfold cmp3
  by_cases h1 : a < b
  · exact .inl ⟨if_pos h1,h1⟩
  · by_cases h2 : b < a
    · exact .inr (.inr ⟨by rw [if_neg h1,if_pos h2],h2⟩)
    · exact .inr (.inl ⟨by rw [if_neg h1,if_neg h2],by omega⟩)
theorem cmp3_eq {a b a' b' : Int} (h1 : a < b ↔ a' < b') (h2 : b < a ↔ b' < a') : cmp3 a b = cmp3 a' b':=by
  unfold cmp3;simp only [h1,h2]
theorem cmp3_parts (S T : Int) (m : Int) (hm : 0 < m) (l : List Int) : orL (cmp3 (S / m) (T / m) :: cmp3 (S % m) (T % m) :: l) = orL (cmp3 S T :: l):=by
  have a1:=Int.emod_add_mul_ediv S m
  have a2:=Int.emod_add_mul_ediv T m
  have b1:=Int.emod_nonneg S (show m ≠ 0 by omega)
  have b2:=Int.emod_nonneg T (show m ≠ 0 by omega)
  have b3:=Int.emod_lt_of_pos S hm
  have b4:=Int.emod_lt_of_pos T hm
  generalize S / m = q at *
  generalize T / m = r at *
  generalize S % m = x at *
  generalize T % m = y at *
  rcases cmp3_cases q r with ⟨h,h'⟩|⟨h,h'⟩|⟨h,h'⟩
  · have : m * (q + 1) ≤ m * r:=Int.mul_le_mul_of_nonneg_left (by omega) (by omega)
    rw [Int.mul_add] at this
    rw [h,show cmp3 S T = -1 by unfold cmp3;rw [if_pos (by omega)]]
    rfl
  · subst h'
    rw [h,show cmp3 S T = cmp3 x y from cmp3_eq (by omega) (by omega)]
    rfl
  · have : m * (r + 1) ≤ m * q:=Int.mul_le_mul_of_nonneg_left (by omega) (by omega)
    rw [Int.mul_add] at this
    rw [h,show cmp3 S T = 1 by unfold cmp3;rw [if_neg (by omega),if_pos (by omega)]]
    rfl
theorem ordB_parts (no sq of pr bo li no' sq' of' pr' bo' li' : Int) : orL [cmp3 pr' pr,cmp3 (hiP bo li) (hiP bo' li'),cmp3 (loP bo li) (loP bo' li'),cmpI no sq of no' sq' of'] = ordB no sq of pr bo li no' sq' of' pr' bo' li':=by
  unfold ordB hiP loP
  have:=cmp3_parts (bo + li) (bo' + li') 18446744073709551616 (by decide) [cmpI no sq of no' sq' of']
  show (if cmp3 pr' pr ≠ 0 then cmp3 pr' pr else orL _) = (if cmp3 pr' pr ≠ 0 then cmp3 pr' pr else orL _)
  rw [this]
theorem add64_run (x y : Int) (lo ca : Int) (h : (IntKind.u64.wrap x + IntKind.u64.wrap y) % 18446744073709551616 = lo) (h2 : (IntKind.u64.wrap x + IntKind.u64.wrap y) / 18446744073709551616 = ca) (w : World) :
    Sem.run Tryd.prog (callFunc 112 #[.int .u64 (IntKind.u64.wrap x),.int .u64 (IntKind.u64.wrap y),.int .u64 0]) w = .ok (.value (.tuple #[.int .u64 lo,.int .u64 ca])) w:=by
  have hw : ∀ n : Int,0 ≤ IntKind.u64.wrap n:=fun n => by rw [IntKind.wrap_u64];exact Int.emod_nonneg _ (by decide)
  rw [run_callFunc_extern Tryd.func112 (by kernel_rfl) (by kernel_rfl) (by kernel_rfl) (e:=add64Entry) (by kernel_rfl),run_add64 _ _ 0 (hw x) (hw y) (by decide) (by decide)]
  rw [← h,← h2]
  simp only [Int.add_zero,Result.andThen]
theorem end_parts (bo li : Int) (hb : I64 bo) (hl : I64 li) : ∃ lo ca : Int,(IntKind.u64.wrap bo + IntKind.u64.wrap li) % 18446744073709551616 = lo ∧ (IntKind.u64.wrap bo + IntKind.u64.wrap li) / 18446744073709551616 = ca ∧ lo = loP bo li ∧
    wrap64 (wrap64 (bo / 9223372036854775808 + li / 9223372036854775808) + wrap64 ca) = hiP bo li:=by
  obtain ⟨h1,h2⟩:=hb
  obtain ⟨h3,h4⟩:=hl
  refine ⟨_,_,rfl,rfl,?_,?_⟩
  · unfold loP
    rw [IntKind.wrap_u64,IntKind.wrap_u64]
    omega
  · rw [IntKind.wrap_u64,IntKind.wrap_u64]
    unfold hiP
    have d1 : (bo / 9223372036854775808 = -1 ∧ bo % 18446744073709551616 = bo + 18446744073709551616) ∨ (bo / 9223372036854775808 = 0 ∧ bo % 18446744073709551616 = bo):=by omega
    have d2 : (li / 9223372036854775808 = -1 ∧ li % 18446744073709551616 = li + 18446744073709551616) ∨ (li / 9223372036854775808 = 0 ∧ li % 18446744073709551616 = li):=by omega
    rcases d1 with ⟨a1,a2⟩|⟨a1,a2⟩ <;> rcases d2 with ⟨a3,a4⟩|⟨a3,a4⟩ <;> rw [a1,a2,a3,a4] <;> unfold wrap64 <;> omega
theorem end_any (no sq of de pr bo li to : Int) (da : ByteArray) (hb : I64 bo) (hl : I64 li) (w : World) :
    Calls Tryd.prog 101 #[buv no sq of de pr bo li to da] w fun e w' => e = .returned (.tuple #[.int .i64 (hiP bo li),.int .u64 (loP bo li)]) ∧ Below w.heap.size w w':=by
  obtain ⟨lo,ca,e1,e2,e3,e4⟩:=end_parts bo li hb hl
  have ha:=add64_run bo li lo ca e1 e2
  rw [← e3,← e4]
  clear e1 e2 e3 e4 hb hl
  go_enter Tryd.func101,Tryd.ntmps101
  go_wp2
  go_ret2
  exact ⟨rfl,(Below.refl _ _).alloc (Nat.le_refl _) _⟩
theorem or4 (x y z u r : Int) (hr : orL [x,y,z,u] = r) (b cap : Nat) (W : World) (hcap : cap = 4) (hb : blk W b = some #[.int .i64 x,.int .i64 y,.int .i64 z,.int .i64 u]) :
    Calls Tryd.prog 102 #[.slice (some ⟨b,0,none⟩) 4 cap] W fun e w' => e = .returned (.int .i64 r) ∧ W = w':=by
  subst hcap;rw [← hr];exact or_any b 4 [x,y,z,u] W (by simp) (by simp) (by simp) hb
set_option maxHeartbeats 1600000 in
theorem rcompare_any (no sq of de pr bo li to : Int) (da : ByteArray) (no' sq' of' de' pr' bo' li' to' : Int) (da' : ByteArray) (hb : I64 bo) (hl : I64 li) (hb' : I64 bo') (hl' : I64 li') (w : World) :
    Calls Tryd.prog 85 #[buv no sq of de pr bo li to da,buv no' sq' of' de' pr' bo' li' to' da'] w fun e w' => e = .returned (.int .i64 (ordB no sq of pr bo li no' sq' of' pr' bo' li')) ∧ Below w.heap.size w w':=by
  obtain ⟨r,hr⟩ : ∃ r,ordB no sq of pr bo li no' sq' of' pr' bo' li' = r:=⟨_,rfl⟩
  rw [hr]
  rw [← ordB_parts] at hr
  have g4:=Lib.hid (or4 _ _ _ _ r hr);clear hr
  have g1:=Lib.hid fun w => end_any no sq of de pr bo li to da hb hl w
  have g2:=Lib.hid fun w => end_any no' sq' of' de' pr' bo' li' to' da' hb' hl' w
  have g3:=Lib.hid fun w => compare_any no sq of no' sq' of' w
  clear hb hl hb' hl'
  obtain ⟨h1,e1⟩ : ∃ x,hiP bo li = x:=⟨_,rfl⟩
  obtain ⟨l1,e2⟩ : ∃ x,loP bo li = x:=⟨_,rfl⟩
  obtain ⟨h2,e3⟩ : ∃ x,hiP bo' li' = x:=⟨_,rfl⟩
  obtain ⟨l2,e4⟩ : ∃ x,loP bo' li' = x:=⟨_,rfl⟩
  rw [e1,e2] at g1;rw [e3,e4] at g2;rw [e1,e2,e3,e4] at g4
  clear e1 e2 e3 e4
  go_enter Tryd.func85,Tryd.ntmps85
  go_wp2_with (first
    | (go_at_call 101;(with_reducible refine (g1.out _).mono ?_);rintro e w1 ⟨rfl,hw1⟩;have kk4 : blk w1 (w.heap.size) = some #[.int .i64 no,.int .u64 sq,.int .i64 of,.int .i64 de,.int .i64 pr,.int .i64 bo,.int .i64 li,.int .i64 to,.string da]:=(by (apply jt;(focus repeat(first|(with_reducible first|assumption|apply jd|apply js)|((with_reducible apply jo);first|focus(dsimp only;assumption)|focus(simp;done)|focus(dsimp only;omega))|((with_reducible apply jn);first|with_reducible rfl|focus(simp;done)|focus(simp;omega))|(with_reducible apply ja)|((with_reducible apply jb);with_reducible assumption)));rfl));have kn4:=kn kk4;have kk5 : blk w1 (w.heap.size + 1) = some #[.int .i64 no',.int .u64 sq',.int .i64 of',.int .i64 de',.int .i64 pr',.int .i64 bo',.int .i64 li',.int .i64 to',.string da']:=(by (apply jt;(focus repeat(first|(with_reducible first|assumption|apply jd|apply js)|((with_reducible apply jo);first|focus(dsimp only;assumption)|focus(simp;done)|focus(dsimp only;omega))|((with_reducible apply jn);first|with_reducible rfl|focus(simp;done)|focus(simp;omega))|(with_reducible apply ja)|((with_reducible apply jb);with_reducible assumption)));rfl));have kn5:=kn kk5)
    | (go_at_call 101;(with_reducible refine (g2.out _).mono ?_);rintro e w2 ⟨rfl,hw2⟩;have kk6 : blk w2 (w.heap.size) = some #[.int .i64 no,.int .u64 sq,.int .i64 of,.int .i64 de,.int .i64 pr,.int .i64 bo,.int .i64 li,.int .i64 to,.string da]:=(by (apply jt;(focus repeat(first|(with_reducible first|assumption|apply jd|apply js)|((with_reducible apply jo);first|focus(dsimp only;assumption)|focus(simp;done)|focus(dsimp only;omega))|((with_reducible apply jn);first|with_reducible rfl|focus(simp;done)|focus(simp;omega))|(with_reducible apply ja)|((with_reducible apply jb);with_reducible assumption)));rfl));have kn6:=kn kk6;have kk7 : blk w2 (w.heap.size + 1) = some #[.int .i64 no',.int .u64 sq',.int .i64 of',.int .i64 de',.int .i64 pr',.int .i64 bo',.int .i64 li',.int .i64 to',.string da']:=(by (apply jt;(focus repeat(first|(with_reducible first|assumption|apply jd|apply js)|((with_reducible apply jo);first|focus(dsimp only;assumption)|focus(simp;done)|focus(dsimp only;omega))|((with_reducible apply jn);first|with_reducible rfl|focus(simp;done)|focus(simp;omega))|(with_reducible apply ja)|((with_reducible apply jb);with_reducible assumption)));rfl));have kn7:=kn kk7))
  refine wp_region_tail 16 (by kernel_rfl) (by kernel_rfl) ?_
  intro W0_1 hE_1 hN_1
  have bW0_1 : Below w.heap.size w W0_1:=(by rw [hE_1.out];(repeat(first|(with_reducible first|assumption|exact Below.refl _ _|refine je ?_|refine jl ?_)|((with_reducible refine jp ?_ ?_);first|focus(dsimp only;assumption)|focus(simp;done)|focus(dsimp only;omega))|(with_reducible refine bt ?_ (by assumption)))))
  have kk2 : blk W0_1 (w.heap.size) = some #[.int .i64 no,.int .u64 sq,.int .i64 of,.int .i64 de,.int .i64 pr,.int .i64 bo,.int .i64 li,.int .i64 to,.string da]:=(by rw [hE_1.out];(apply jt;(focus repeat(first|(with_reducible first|assumption|apply jd|apply js)|((with_reducible apply jo);first|focus(dsimp only;assumption)|focus(simp;done)|focus(dsimp only;omega))|((with_reducible apply jn);first|with_reducible rfl|focus(simp;done)|focus(simp;omega))|(with_reducible apply ja)|((with_reducible apply jb);with_reducible assumption)));rfl))
  have kn2:=calm_kn kk2
  have kk3 : blk W0_1 (w.heap.size + 1) = some #[.int .i64 no',.int .u64 sq',.int .i64 of',.int .i64 de',.int .i64 pr',.int .i64 bo',.int .i64 li',.int .i64 to',.string da']:=(by rw [hE_1.out];(apply jt;(focus repeat(first|(with_reducible first|assumption|apply jd|apply js)|((with_reducible apply jo);first|focus(dsimp only;assumption)|focus(simp;done)|focus(dsimp only;omega))|((with_reducible apply jn);first|with_reducible rfl|focus(simp;done)|focus(simp;omega))|(with_reducible apply ja)|((with_reducible apply jb);with_reducible assumption)));rfl))
  have kn3:=calm_kn kk3
  clear hE_1
  simp only [List.take_succ_cons,List.take_zero,List.drop_succ_cons,List.drop_zero]
  repeat (go_big_quiet_step ((first|(go_at_call 103;exact Class.same _ (cmpInt_any _ _ _))|(go_at_call 104;exact Class.same _ (cmpNat_any _ _ _))|(go_at_call 105;(with_reducible refine Class.go _ (g3.out _))))))
  refine wpQuiet_nil ?_
  rintro _ ⟨x_1,rfl⟩
  have hx_1 : Calm W0_1 x_1.wd:=x_1.ok
  have bwn : Below w.heap.size w x_1.wd:=bt bW0_1 hx_1
  clear kn2;replace kk2:=blk_below hx_1 kk2;have kn2:=kn kk2
  clear kn3;replace kk3:=blk_below hx_1 kk3;have kn3:=kn kk3
  clear hx_1 bW0_1 hN_1
  generalize x_1.wd = wn at *
  go_wp2_with (go_at_call 102;(with_reducible refine (g4.out _ _ _ rfl (blk_alloc_new _ _ _ (by simp))).mono ?_);rintro e wx ⟨rfl,rfl⟩)
  go_ret
  exact ⟨rfl,by (repeat(first|(with_reducible first|assumption|exact Below.refl _ _|refine je ?_|refine jl ?_)|((with_reducible refine jp ?_ ?_);first|focus(dsimp only;assumption)|focus(simp;done)|focus(dsimp only;omega))|(with_reducible refine bt ?_ (by assumption))))⟩
set_option maxHeartbeats 800000 in
theorem less_any (no sq of de pr bo li to : Int) (da : ByteArray) (no' sq' of' de' pr' bo' li' to' : Int) (da' : ByteArray) (hb : I64 bo) (hl : I64 li) (hb' : I64 bo') (hl' : I64 li') (w : World) :
    Calls Tryd.prog 72 #[buv no sq of de pr bo li to da,buv no' sq' of' de' pr' bo' li' to' da'] w fun e w' => e = .returned (.bool (lessB no sq of pr bo li no' sq' of' pr' bo' li')) ∧ Below w.heap.size w w':=by
  have g1:=fun w => rcompare_any no sq of de pr bo li to da no' sq' of' de' pr' bo' li' to' da' hb hl hb' hl' w
  unfold lessB
  obtain ⟨r,hr⟩ : ∃ r,ordB no sq of pr bo li no' sq' of' pr' bo' li' = r:=⟨_,rfl⟩
  rw [hr] at g1 ⊢
  clear hr hb hl hb' hl'
  replace g1:=Lib.hid g1
  go_enter Tryd.func72,Tryd.ntmps72
  go_wp2_with (go_at_call 85;(with_reducible refine (g1.out _).mono ?_);rintro e w1 ⟨rfl,hw1⟩)
  go_ret
  exact ⟨rfl,by (repeat(first|(with_reducible first|assumption|exact Below.refl _ _|refine je ?_|refine jl ?_)|((with_reducible refine jp ?_ ?_);first|focus(dsimp only;assumption)|focus(simp;done)|focus(dsimp only;omega))|(with_reducible refine bt ?_ (by assumption))))⟩
end Go.Proofs.YtkaehoihpgelnaaDoor
namespace Go.Proofs.YtkaehoihpgelnaaDoor
open Go.RowKit
structure Bn where
  (no sq of de pr bo li to : Int)
  da : ByteArray
def bn (b : Bn) : List Value:=[.int .i64 b.no,.int .u64 b.sq,.int .i64 b.of,.int .i64 b.de,.int .i64 b.pr,.int .i64 b.bo,.int .i64 b.li,.int .i64 b.to,.string b.da]
theorem bn_len (b : Bn) : (bn b).length = 9:=rfl
theorem bn_one (b : Bn) : ∀ u ∈ bn b,u.oneCell' = true:=by
  intro u hu
  simp only [bn,List.mem_cons,List.not_mem_nil,or_false] at hu
  rcases hu with rfl|rfl|rfl|rfl|rfl|rfl|rfl|rfl|rfl <;> rfl
def BnI (b : Bn) : Prop:=I64 b.bo ∧ I64 b.li
def ltB (a b : Bn) : Bool:=lessB a.no a.sq a.of a.pr a.bo a.li b.no b.sq b.of b.pr b.bo b.li
end Go.Proofs.YtkaehoihpgelnaaDoor
namespace Go.Proofs.YtkaehoihpgelnaaDoor
open Go.RowKit
def cmpO : List (Int × Int) → Int
  | [] => 0
  | x :: l => if cmp3 x.1 x.2 ≠ 0 then cmp3 x.1 x.2 else cmpO l
theorem cmpO_swap : ∀ l,cmpO (l.map fun x => (x.2,x.1)) = - cmpO l
  | [] => by simp [cmpO]
  | x :: l => by
    have:=cmpO_swap l
    simp only [List.map_cons,cmpO]
    rcases cmp3_cases x.1 x.2 with ⟨h,h'⟩|⟨h,h'⟩|⟨h,h'⟩ <;> rcases cmp3_cases x.2 x.1 with ⟨g,g'⟩|⟨g,g'⟩|⟨g,g'⟩ <;> first|omega|(rw [h,g];simp;try omega)
theorem cmpO_zero : ∀ l,cmpO l = 0 ↔ ∀ x ∈ l,x.1 = x.2
  | [] => by simp [cmpO]
  | x :: l => by
    have:=cmpO_zero l
    simp only [cmpO,List.mem_cons,forall_eq_or_imp]
    rcases cmp3_cases x.1 x.2 with ⟨h,h'⟩|⟨h,h'⟩|⟨h,h'⟩ <;> rw [h]
    · exact ⟨fun hh => by simp at hh,fun hh => absurd hh.1 (by omega)⟩
    · exact ⟨fun hh => ⟨h',this.1 (by simpa using hh)⟩,fun hh => by simpa using this.2 hh.2⟩
    · exact ⟨fun hh => by simp at hh,fun hh => absurd hh.1 (by omega)⟩
theorem cmpO_trans : ∀ (l : List (Int × Int × Int)),cmpO (l.map fun x => (x.1,x.2.1)) ≤ 0 → cmpO (l.map fun x => (x.2.1,x.2.2)) ≤ 0 →
    cmpO (l.map fun x => (x.1,x.2.2)) ≤ 0 ∧ (cmpO (l.map fun x => (x.1,x.2.1)) < 0 ∨ cmpO (l.map fun x => (x.2.1,x.2.2)) < 0 → cmpO (l.map fun x => (x.1,x.2.2)) < 0)
  | [] => by simp [cmpO]
  | x :: l => by
    have ih:=cmpO_trans l
    simp only [List.map_cons,cmpO]
    rcases cmp3_cases x.1 x.2.1 with ⟨h,h'⟩|⟨h,h'⟩|⟨h,h'⟩ <;> rcases cmp3_cases x.2.1 x.2.2 with ⟨g,g'⟩|⟨g,g'⟩|⟨g,g'⟩ <;> rcases cmp3_cases x.1 x.2.2 with ⟨k,k'⟩|⟨k,k'⟩|⟨k,k'⟩ <;> first|omega|(rw [h,g,k];simp;try omega)
theorem cmpI_L (no sq of no' sq' of' : Int) : cmpI no sq of no' sq' of' = cmpO [(no,no'),(sq,sq'),(of,of')]:=rfl
theorem ordB_O (no sq of pr bo li no' sq' of' pr' bo' li' : Int) : ordB no sq of pr bo li no' sq' of' pr' bo' li' = cmpO [(pr',pr),(bo + li,bo' + li'),(no,no'),(sq,sq'),(of,of')]:=by
  unfold ordB
  simp only [cmpI_L,orL,cmpO]
  rcases cmp3_cases pr' pr with ⟨h,_⟩|⟨h,_⟩|⟨h,_⟩ <;> rw [h] <;> simp <;>
  rcases cmp3_cases (bo + li) (bo' + li') with ⟨g,_⟩|⟨g,_⟩|⟨g,_⟩ <;> rw [g] <;> simp <;>
  (intro k;omega)
theorem less_lawsO (no sq of pr bo li no' sq' of' pr' bo' li' no2 sq2 of2 pr2 bo2 li2 : Int) :
    (lessB no sq of pr bo li no' sq' of' pr' bo' li' = true → lessB no' sq' of' pr' bo' li' no sq of pr bo li = false) ∧
    (lessB no sq of pr bo li no' sq' of' pr' bo' li' = true → lessB no' sq' of' pr' bo' li' no2 sq2 of2 pr2 bo2 li2 = true → lessB no sq of pr bo li no2 sq2 of2 pr2 bo2 li2 = true) ∧
    (lessB no sq of pr bo li no' sq' of' pr' bo' li' = false → lessB no' sq' of' pr' bo' li' no sq of pr bo li = false → no = no' ∧ sq = sq' ∧ of = of'):=by
  unfold lessB
  rw [ordB_O,ordB_O,ordB_O,ordB_O]
  have h1:=cmpO_swap [(pr',pr),(bo + li,bo' + li'),(no,no'),(sq,sq'),(of,of')]
  have h2:=cmpO_zero [(pr',pr),(bo + li,bo' + li'),(no,no'),(sq,sq'),(of,of')]
  have h3:=cmpO_trans [(bo + li,bo' + li',bo2 + li2),(no,no',no2),(sq,sq',sq2),(of,of',of2)]
  simp only [List.map_cons,List.map_nil] at h1 h3
  simp only [List.mem_cons,List.not_mem_nil,or_false,forall_eq_or_imp,forall_eq] at h2
  refine ⟨fun a => ?_,fun a b => ?_,fun a b => ?_⟩
  · simp only [decide_eq_true_eq,decide_eq_false_iff_not] at a ⊢;omega
  · simp only [decide_eq_true_eq] at a b ⊢
    have e : ∀ p q : Int,∀ l,cmpO ((p,q) :: l) = if cmp3 p q ≠ 0 then cmp3 p q else cmpO l:=fun _ _ _ => rfl
    rw [e] at a b ⊢
    rcases cmp3_cases pr' pr with ⟨h,h'⟩|⟨h,h'⟩|⟨h,h'⟩ <;> rcases cmp3_cases pr2 pr' with ⟨g,g'⟩|⟨g,g'⟩|⟨g,g'⟩ <;> rcases cmp3_cases pr2 pr with ⟨k,k'⟩|⟨k,k'⟩|⟨k,k'⟩ <;> first|omega|(rw [h] at a;rw [g] at b;rw [k];simp at a b ⊢;try exact (h3 (by omega) (by omega)).2 (.inl a))
  · simp only [decide_eq_false_iff_not] at a b
    have:=h2.1 (by omega)
    exact this.2.2
theorem ltB_asymO (a b : Bn) (h : ltB a b = true) : ltB b a = false:=(less_lawsO a.no a.sq a.of a.pr a.bo a.li b.no b.sq b.of b.pr b.bo b.li 0 0 0 0 0 0).1 h
theorem cmpO_nn : ∀ l : List (Int × Int × Int),¬ cmpO (l.map fun x => (x.1,x.2.1)) < 0 → ¬ cmpO (l.map fun x => (x.2.1,x.2.2)) < 0 → ¬ cmpO (l.map fun x => (x.1,x.2.2)) < 0
  | [],_,_ => by simp [cmpO]
  | (a,b,c) :: l,h1,h2 => by
    have e : ∀ p q : Int,∀ l,cmpO ((p,q) :: l) = if cmp3 p q ≠ 0 then cmp3 p q else cmpO l:=fun _ _ _ => rfl
    simp only [List.map_cons] at h1 h2 ⊢
    rw [e] at h1 h2 ⊢
    have ih:=cmpO_nn l
    rcases cmp3_cases a b with ⟨h,h'⟩|⟨h,h'⟩|⟨h,h'⟩ <;> rcases cmp3_cases b c with ⟨g,g'⟩|⟨g,g'⟩|⟨g,g'⟩ <;> rcases cmp3_cases a c with ⟨k,k'⟩|⟨k,k'⟩|⟨k,k'⟩ <;>
      first
      | omega
      | (rw [h] at h1;exact absurd h1 (by decide))
      | (rw [g] at h2;exact absurd h2 (by decide))
      | (rw [k];decide)
      | (rw [h] at h1;rw [g] at h2;rw [k];exact ih (by simpa using h1) (by simpa using h2))
theorem cmpO_neg (p q : Int) (l : List (Int × Int)) : cmpO ((p,q) :: l) = cmpO ((-q,-p) :: l):=by
  have e : ∀ p q : Int,∀ l,cmpO ((p,q) :: l) = if cmp3 p q ≠ 0 then cmp3 p q else cmpO l:=fun _ _ _ => rfl
  have h : cmp3 p q = cmp3 (-q) (-p):=by
    rcases cmp3_cases p q with ⟨h,h'⟩|⟨h,h'⟩|⟨h,h'⟩ <;> rcases cmp3_cases (-q) (-p) with ⟨g,g'⟩|⟨g,g'⟩|⟨g,g'⟩ <;> first|omega|rw [h,g]
  rw [e,e,h]
theorem ltB_nnO (a b c : Bn) (h1 : ltB a b = false) (h2 : ltB b c = false) : ltB a c = false:=by
  unfold ltB lessB at *
  rw [ordB_O,cmpO_neg] at *
  simp only [decide_eq_false_iff_not] at *
  exact cmpO_nn [(-a.pr,-b.pr,-c.pr),(a.bo + a.li,b.bo + b.li,c.bo + c.li),(a.no,b.no,c.no),(a.sq,b.sq,c.sq),(a.of,b.of,c.of)] h1 h2
end Go.Proofs.YtkaehoihpgelnaaDoor
namespace Go.Proofs.YtkaehoihpgelnaaDoor
open Go.RowKit
theorem owns_setCell {w : World} {base : Nat} {e : TypeId} {size g cap n : Nat} {xs : List Value} (h : w.ownsRow base e size (.slice (some ⟨g,0,none⟩) n cap) n xs) {j : Nat} (hj : j < n * size) (u : Value) :
    (w.setCell ⟨g,j,none⟩ u).ownsRow base e size (.slice (some ⟨g,0,none⟩) n cap) n (xs.set j u):=by
  obtain ⟨h1,h2⟩:=h
  refine ⟨by simpa using h1,?_⟩
  rcases h2 with ⟨h2,_⟩|⟨g',cap',cur,h3,h4,h5,h6,h7,h8,h9⟩
  · cases h2
  · simp only [Value.slice.injEq,Option.some.injEq,Addr.mk.injEq] at h3
    obtain ⟨⟨rfl,_⟩,_,rfl⟩:=h3
    refine .inr ⟨g,cap,cur.setIfInBounds j u,rfl,h4,?_,h6,h7,by simpa using h8,?_⟩
    · obtain ⟨hlt,hk⟩:=Array.getElem?_eq_some_iff.1 h5
      show (w.heap.modify g _)[g]? = _
      rw [Array.getElem?_eq_getElem (by rw [Array.size_modify];exact hlt),Array.getElem_modify_self,hk]
      rfl
    · rw [← h9,Array.toList_setIfInBounds,List.take_set]
section
variable {α : Type} {enc : α → List Value} {k : Nat}
variable {P : Program} {ops : Array Oper} {rest : List Oper} {o : Oper} {a : Act} {w : World}
end
end Go.Proofs.YtkaehoihpgelnaaDoor
namespace Go.Proofs.YtkaehoihpgelnaaDoor
open Go.RowKit
theorem owns_belowS {w w' : World} {base : Nat} {e : TypeId} {size : Nat} {v : Value} {n : Nat} {xs : List Value} (h : w.ownsRow base e size v n xs) (hb : Below w.heap.size w w') : w'.ownsRow base e size v n xs:=by
  obtain ⟨h1,h2⟩:=h
  refine ⟨h1,?_⟩
  rcases h2 with h2|⟨g,cap,cur,h3,h4,h5,h6⟩
  · exact .inl h2
  · refine .inr ⟨g,cap,cur,h3,h4,?_,h6⟩
    have hlt : g < w.heap.size:=(Array.getElem?_eq_some_iff.1 h5).1
    rw [hb.block g hlt]
    exact h5
theorem owns_base {w : World} {base base' : Nat} {e : TypeId} {size : Nat} {v : Value} {n : Nat} {xs : List Value} (h : w.ownsRow base e size v n xs) (hb : base' ≤ base) : w.ownsRow base' e size v n xs:=by
  obtain ⟨h1,h2⟩:=h
  refine ⟨h1,?_⟩
  rcases h2 with h2|⟨g,cap,cur,h3,h4,h5⟩
  · exact .inl h2
  · exact .inr ⟨g,cap,cur,h3,Nat.le_trans hb h4,h5⟩
theorem infoBu : (Tryd.prog.info? 38).map (fun i => (i.zero,i.size,i.bytes)) = some (some (.agg #[.int .i64 0,.int .u64 0,.int .i64 0,.int .i64 0,.int .i64 0,.int .i64 0,.int .i64 0,.int .i64 0,.string ⟨#[]⟩]),9,80):=by kernel_rfl
theorem rowC_one_cell (l : List Bn) : ∀ u ∈ rowC bn l,u.oneCell' = true:=by
  intro u hu
  simp only [rowC,List.mem_flatMap] at hu
  obtain ⟨x,_,hx⟩:=hu
  exact bn_one x u hx
theorem srow_cells {w : World} {a : Option Addr} {cap : Nat} {l : List Bn} (h : SRow bn 9 w a cap l) (h0 : 0 < l.length) : ∃ b off,a = some ⟨b,off,none⟩ ∧ b < w.heap.size ∧ ∀ j u,(rowC bn l)[j]? = some u → w.cell? ⟨b,off + j,none⟩ = some u:=by
  obtain ⟨b,off,e,hlt,hc⟩:=h.2.2.2 h0
  refine ⟨b,off,e,hlt,fun j u hj => ?_⟩
  have hjl : j < l.length * 9:=by
    have:=(List.getElem?_eq_some_iff.1 hj).1
    rwa [rowC_length bn_len] at this
  have hi : j / 9 < l.length:=by omega
  have h2:=rowC_cell bn_len l (j / 9) (j % 9) hi (by omega) []
  rw [List.append_nil,show j / 9 * 9 + j % 9 = j by omega,hj] at h2
  have:=hc (j / 9) hi (j % 9) u h2.symm
  rwa [show off + j / 9 * 9 + j % 9 = off + j by omega] at this
theorem own_empty9 (w : World) (e : TypeId) : (w.alloc (.cells #[] e)).ownsRow w.heap.size e 9 (.slice (some ⟨w.heap.size,0,none⟩) 0 0) 0 [] :=
  ⟨rfl,.inr ⟨w.heap.size,0,#[],rfl,Nat.le_refl _,heap_alloc_new w _,Nat.le_refl _,by unfold maxLen;omega,rfl,rfl⟩⟩
set_option maxHeartbeats 1600000 in
theorem ownB_any (a : Option Addr) (cap : Nat) (l : List Bn) (hl : l.length ≤ 1000) (h0 : 0 < l.length) (w : World) (hrow : SRow bn 9 w a cap l) :
    Calls Tryd.prog 18 #[.slice a l.length cap] w fun e w' => ∃ v,e = .returned v ∧ w'.ownsRow w.heap.size 38 9 v l.length (rowC bn l) ∧ Below w.heap.size w w':=by
  obtain ⟨b,off,rfl,hlt,hc⟩:=srow_cells hrow h0
  obtain ⟨i0,hi,hz0,hz1,hz2⟩:=info_parts infoBu
  have Hi:=Lib.hid hi;have Hz0:=Lib.hid hz0;have Hz1:=Lib.hid hz1;have Hz2:=Lib.hid hz2
  have HC:=Lib.hid hc
  clear hi hz0 hz1 hz2 hc hrow
  go_enter Tryd.func18,Tryd.ntmps18
  go_wp2_with (at_builtin;refine wpList_append_own _ rfl _ _ 23 rfl w.heap.size 38 i0 (.agg #[.int .i64 0,.int .u64 0,.int .i64 0,.int .i64 0,.int .i64 0,.int .i64 0,.int .i64 0,.int .i64 0,.string ⟨#[]⟩]) 9 80 Tryd.underlying23 Hi.out Hz0.out Hz1.out Hz2.out rfl (by decide) _ 0 [] rfl (own_empty9 w _) ⟨b,off,none⟩ l.length cap (rowC bn l) rfl (rowC_length bn_len l) (fun j u hj => (by rw [Addr.add_mid,((Below.refl w.heap.size w).alloc (Nat.le_refl _) _).cell (p:=⟨b,off + j,none⟩) hlt];exact HC.out j u hj)) (rowC_one_cell l) (by unfold maxLen;omega) (by omega) (by simp) ?_;intro v' wb hown2 hgrow2 _)
  go_ret
  refine ⟨_,rfl,?_,?_⟩
  · simpa using hown2
  · exact ((Below.refl _ _).alloc (Nat.le_refl _) _).grown hgrow2 (by simp) (fun k e => (own_empty9 w 38).lt k e |>.1)
set_option maxHeartbeats 1600000 in
theorem ownB_nil (a : Option Addr) (cap : Nat) (hn : a = none → cap = 0) (w : World) :
    Calls Tryd.prog 18 #[.slice a 0 cap] w fun e w' => ∃ v,e = .returned v ∧ w'.ownsRow w.heap.size 38 9 v 0 [] ∧ Below w.heap.size w w':=by
  obtain ⟨i0,hi,hz0,hz1,hz2⟩:=info_parts infoBu
  have Hi:=Lib.hid hi;have Hz0:=Lib.hid hz0;have Hz1:=Lib.hid hz1;have Hz2:=Lib.hid hz2
  clear hi hz0 hz1 hz2
  cases a with
  | none =>
    obtain rfl:=hn rfl
    clear hn
    go_enter Tryd.func18,Tryd.ntmps18
    go_wp2_with (at_builtin;refine wpList_append_own_none rfl _ _ 23 rfl w.heap.size 38 i0 9 Tryd.underlying23 Hi.out _ 0 [] rfl (own_empty9 w _) rfl ?_)
    go_ret
    exact ⟨_,rfl,own_empty9 w _,by (repeat(first|(with_reducible first|assumption|exact Below.refl _ _|refine je ?_|refine jl ?_)|((with_reducible refine jp ?_ ?_);first|focus(dsimp only;assumption)|focus(simp;done)|focus(dsimp only;omega))|(with_reducible refine bt ?_ (by assumption))))⟩
  | some ad =>
    clear hn
    go_enter Tryd.func18,Tryd.ntmps18
    go_wp2_with (at_builtin;refine wpList_append_own _ rfl _ _ 23 rfl w.heap.size 38 i0 (.agg #[.int .i64 0,.int .u64 0,.int .i64 0,.int .i64 0,.int .i64 0,.int .i64 0,.int .i64 0,.int .i64 0,.string ⟨#[]⟩]) 9 80 Tryd.underlying23 Hi.out Hz0.out Hz1.out Hz2.out rfl (by decide) _ 0 [] rfl (own_empty9 w _) ad 0 cap [] rfl rfl (fun j u hj => by simp at hj) (by simp) (by unfold maxLen;omega) (by omega) (by simp) ?_;intro v' wb hown2 hgrow2 _)
    go_ret
    refine ⟨_,rfl,?_,?_⟩
    · simpa using hown2
    · exact ((Below.refl _ _).alloc (Nat.le_refl _) _).grown hgrow2 (by simp) (fun k e => (own_empty9 w 38).lt k e |>.1)
theorem own_any (a : Option Addr) (cap : Nat) (l : List Bn) (hl : l.length ≤ 1000) (w : World) (hrow : SRow bn 9 w a cap l) :
    Calls Tryd.prog 18 #[.slice a l.length cap] w fun e w' => ∃ v,e = .returned v ∧ w'.ownsRow w.heap.size 38 9 v l.length (rowC bn l) ∧ Below w.heap.size w w':=by
  rcases Nat.eq_zero_or_pos l.length with h|h
  · obtain rfl:=List.length_eq_zero_iff.1 h
    exact ownB_nil a cap hrow.2.2.1 w
  · exact ownB_any a cap l hl h w hrow
end Go.Proofs.YtkaehoihpgelnaaDoor
namespace Go.Proofs.YtkaehoihpgelnaaDoor
open Go.RowKit
theorem bytes_toList_iff (a b : ByteArray) : a.toList = b.toList ↔ a = b:=by
  rw [ByteArray.toList_eq,ByteArray.toList_eq]
  constructor
  · intro h
    obtain ⟨⟨a⟩⟩:=a
    obtain ⟨⟨b⟩⟩:=b
    have : a = b:=h
    rw [this]
  · rintro rfl;rfl
def eqB (x y : Bn) : Bool:=decide (x.no = y.no ∧ x.sq = y.sq ∧ x.of = y.of ∧ x.de = y.de ∧ x.pr = y.pr ∧ x.bo = y.bo ∧ x.li = y.li ∧ x.to = y.to ∧ x.da.toList = y.da.toList)
theorem eqB_iff (x y : Bn) : eqB x y = true ↔ x = y:=by
  constructor
  · intro h
    obtain ⟨a1,a2,a3,a4,a5,a6,a7,a8,a9⟩:=x
    obtain ⟨b1,b2,b3,b4,b5,b6,b7,b8,b9⟩:=y
    simp only [eqB,decide_eq_true_eq,bytes_toList_iff] at h
    obtain ⟨rfl,rfl,rfl,rfl,rfl,rfl,rfl,rfl,rfl⟩:=h
    rfl
  · rintro rfl;simp [eqB]
set_option maxHeartbeats 1600000 in
theorem run_bnNe (x y : Bn) (w : World) : Sem.run Tryd.prog (binOp BinOp.neq 38 (.agg (bn x).toArray) (.agg (bn y).toArray)) w = .ok (.bool (!eqB x y)) w:=by
  obtain ⟨a1,a2,a3,a4,a5,a6,a7,a8,a9⟩:=x
  obtain ⟨b1,b2,b3,b4,b5,b6,b7,b8,b9⟩:=y
  simp only [eqB,bn]
  go_simp
  refine (Decidable.em (a1 = b1)).elim (fun h1 => ?_) (fun h1 => by simp [h1])
  subst h1
  refine (Decidable.em (a2 = b2)).elim (fun h2 => ?_) (fun h2 => by simp [h2])
  subst h2
  refine (Decidable.em (a3 = b3)).elim (fun h3 => ?_) (fun h3 => by simp [h3])
  subst h3
  refine (Decidable.em (a4 = b4)).elim (fun h4 => ?_) (fun h4 => by simp [h4])
  subst h4
  refine (Decidable.em (a5 = b5)).elim (fun h5 => ?_) (fun h5 => by simp [h5])
  subst h5
  refine (Decidable.em (a6 = b6)).elim (fun h6 => ?_) (fun h6 => by simp [h6])
  subst h6
  refine (Decidable.em (a7 = b7)).elim (fun h7 => ?_) (fun h7 => by simp [h7])
  subst h7
  refine (Decidable.em (a8 = b8)).elim (fun h8 => ?_) (fun h8 => by simp [h8])
  subst h8
  by_cases h9 : a9.toList = b9.toList
  · simp [h9]
  · simp [h9]
end Go.Proofs.YtkaehoihpgelnaaDoor
namespace Go.Proofs.YtkaehoihpgelnaaDoor
open Go.RowKit
abbrev Id3:=Int × Int × Int
def idCs (k : Id3) : Array Value:=#[.int .i64 k.1,.int .u64 k.2.1,.int .i64 k.2.2]
def idK (k : Id3) : Value:=.agg (idCs k)
theorem run_idKey (em : Bool) (k : Id3) (w : World) : (Instr.checkKey em 10000 36 (idK k)).run Tryd.prog w = .ok () w:=by
  obtain ⟨a,b,c⟩:=k
  kernel_rfl
theorem run_idEqual (a b : Id3) (w : World) : (Op.equal 36 (idK a) (idK b)).run Tryd.prog w = .ok (decide (a = b)) w:=by
  obtain ⟨a1,a2,a3⟩:=a
  obtain ⟨b1,b2,b3⟩:=b
  have h : (Op.equal 36 (.agg #[.int .i64 a1,.int .u64 a2,.int .i64 a3]) (.agg #[.int .i64 b1,.int .u64 b2,.int .i64 b3])).run Tryd.prog w = .ok (if a1 = b1 then (if a2 = b2 then a3 == b3 else false) else false) w:=by
    show Sem.run Tryd.prog (Op.equalIn (9998 + 1 + 1) _ _ _) w = _
    go_simp
    by_cases h1 : a1 = b1
    · by_cases h2 : a2 = b2
      · by_cases h3 : a3 = b3 <;> simp [h1,h2,h3]
      · simp [h1,h2]
    · simp [h1]
  refine h.trans ?_
  by_cases h1 : a1 = b1
  · by_cases h2 : a2 = b2
    · by_cases h3 : a3 = b3 <;> simp [h1,h2,h3]
    · simp [h1,h2]
  · simp [h1]
def idL (k : Id3) : List Value:=[.int .i64 k.1,.int .u64 k.2.1,.int .i64 k.2.2]
theorem run_idKEq (a b : Id3) (w : World) : Sem.run Tryd.prog (binOp BinOp.eql 36 (.agg (idL a).toArray) (.agg (idL b).toArray)) w = .ok (.bool (decide (a = b))) w:=by
  obtain ⟨a1,a2,a3⟩:=a
  obtain ⟨b1,b2,b3⟩:=b
  unfold idL
  go_simp
  by_cases h1 : a1 = b1
  · by_cases h2 : a2 = b2
    · by_cases h3 : a3 = b3 <;> simp [h1,h2,h3]
    · simp [h1,h2]
  · simp [h1]
def idxM (k : Id3) : List (Id3 × Value) → Nat → Option (Nat × Value)
  | [],_ => none
  | x :: l,i => if k = x.1 then some (i,x.2) else idxM k l (i + 1)
def getM (l : List (Id3 × Value)) (k : Id3) (z : Value) : Value:=((idxM k l 0).map (·.2)).getD z
def entE (l : List (Id3 × Value)) : List (Value × Value):=l.map fun x => (idK x.1,x.2)
def mapAt (w : World) (b : Nat) (l : List (Id3 × Value)) : Prop:=∃ es clock,w.heap[b]? = some (.map es clock) ∧ es.toList.map (fun e => (e.key,e.val)) = entE l
theorem mapAt.lt {w : World} {b : Nat} {l : List (Id3 × Value)} (h : mapAt w b l) : b < w.heap.size:=by
  obtain ⟨es,cl,h1,_⟩:=h
  exact (Array.getElem?_eq_some_iff.1 h1).1
theorem mapAt.kept {w w' : World} {b : Nat} {l : List (Id3 × Value)} (h : mapAt w b l) (he : w'.heap[b]? = w.heap[b]?) : mapAt w' b l:=by
  obtain ⟨es,cl,h1,h2⟩:=h
  exact ⟨es,cl,he.trans h1,h2⟩
theorem mapAt.below {w w' : World} {b : Nat} {l : List (Id3 × Value)} (h : mapAt w b l) (hb : Below w.heap.size w w') : mapAt w' b l:=h.kept (hb.block b h.lt)
theorem mapAt.alloc {w : World} {b : Nat} {l : List (Id3 × Value)} (h : mapAt w b l) (o : Obj) : mapAt (w.alloc o) b l:=h.kept (Below.heap_alloc w o b h.lt)
theorem mapAt.grown {w w' : World} {b : Nat} {row : Option Nat} {l : List (Id3 × Value)} (h : mapAt w b l) (hg : w.grownBy w' row) (hne : some b ≠ row) : mapAt w' b l:=h.kept (hg.block b h.lt hne)
theorem mapAt_made (w : World) : mapAt (w.alloc (.map #[] 0)) w.heap.size []:=⟨#[],0,(MapKept.heap_alloc w _).1,rfl⟩
theorem run_findId (k : Id3) (w : World) : ∀ (es : List MapEntry) (l : List (Id3 × Value)) (i : Nat),es.map (fun e => (e.key,e.val)) = entE l → (Instr.findAsking 36 (idK k) es i).run Tryd.prog w = .ok (idxM k l i) w
  | [],l,i,h => by
    cases l with
    | nil => rfl
    | cons x l => simp [entE] at h
  | e :: es,l,i,h => by
    cases l with
    | nil => simp [entE] at h
    | cons x l =>
      simp only [entE,List.map_cons,List.cons.injEq,Prod.mk.injEq] at h
      obtain ⟨⟨h1,h2⟩,h3⟩:=h
      unfold Instr.findAsking idxM
      rw [h1,Sem.run_bind,run_idEqual,Result.andThen_ok]
      by_cases hk : k = x.1
      · simp [hk,h2]
      · simp [hk,run_findId k w es l (i + 1) h3]
theorem run_findKeyId (k : Id3) (w : World) (es : Array MapEntry) (l : List (Id3 × Value)) (h : es.toList.map (fun e => (e.key,e.val)) = entE l) : (Instr.findKey 36 (idK k) es.toList).run Tryd.prog w = .ok (idxM k l 0) w:=by
  unfold Instr.findKey
  rw [Sem.run_bind,run_underlying Tryd.underlying36,Result.andThen_ok]
  cases hl : es.toList with
  | nil =>
    rw [hl] at h
    cases l with
    | nil => rfl
    | cons x l => simp [entE] at h
  | cons e r =>
    rw [hl] at h
    have:=run_findId k w (e :: r) l 0 h
    cases l with
    | nil => simp [entE] at h
    | cons x l =>
      rw [← this]
      rfl
theorem run_lookId {t e : TypeId} (ht : Tryd.prog.underlying t = some (.map 36 e)) {w : World} {z : Value} (hz : (zeroValue e).run Tryd.prog w = .ok z w) {b : Nat} {l : List (Id3 × Value)} (h : mapAt w b l) (k : Id3) :
    (Instr.lookup t (.map (some b)) (idK k) false).run Tryd.prog w = .ok (getM l k z) w:=by
  obtain ⟨es,cl,h1,h2⟩:=h
  have hf:=run_findKeyId k w es l h2
  unfold getM
  cases hi : idxM k l 0 with
  | none => rw [hi] at hf;simp [Instr.lookup,run_underlying ht,MapKept.run_getObj_map h1,run_idKey,hf,hz,Result.andThen]
  | some x => rw [hi] at hf;simp [Instr.lookup,run_underlying ht,MapKept.run_getObj_map h1,run_idKey,hf,Result.andThen]
def putM (l : List (Id3 × Value)) (k : Id3) (v : Value) : List (Id3 × Value) :=
  match idxM k l 0 with
  | none => l ++ [(k,v)]
  | some x => l.set x.1 (k,v)
theorem idxM_le (k : Id3) : ∀ (l : List (Id3 × Value)) (i : Nat) (x : Nat × Value),idxM k l i = some x → i ≤ x.1 ∧ ∃ h : x.1 - i < l.length,l[x.1 - i].1 = k
  | [],_,_,h => by simp [idxM] at h
  | y :: l,i,x,h => by
    unfold idxM at h
    split at h
    · cases h
      rename_i hk
      exact ⟨Nat.le_refl _,by simp,by simp [hk]⟩
    · obtain ⟨h1,h2,h3⟩:=idxM_le k l (i + 1) x h
      refine ⟨by omega,by simp;omega,?_⟩
      obtain ⟨d,hd⟩ : ∃ d,x.1 - i = d + 1:=⟨x.1 - i - 1,by omega⟩
      have hd' : x.1 - (i + 1) = d:=by omega
      simp only [hd,List.getElem_cons_succ]
      simpa only [hd'] using h3
theorem run_stays (k : Id3) (w : World) : (Instr.keyThatStays (idK k) (idK k)).run Tryd.prog w = .ok (idK k) w:=by
  obtain ⟨a,b,c⟩:=k
  unfold Instr.keyThatStays
  have : Instr.sameBits 10000 (idK (a,b,c)) (idK (a,b,c)) = true:=by
    simp [idK,idCs,Instr.sameBits]
  rw [if_pos this]
  rfl
theorem run_putId {t e : TypeId} (ht : Tryd.prog.underlying t = some (.map 36 e)) {w : World} {b : Nat} {l : List (Id3 × Value)} (h : mapAt w b l) (k : Id3) (v : Value) :
    ∃ w',(Instr.mapUpdate t (.map (some b)) (idK k) v).run Tryd.prog w = .ok () w' ∧ mapAt w' b (putM l k v) ∧ w.grownBy w' (some b):=by
  obtain ⟨es,cl,h1,h2⟩:=h
  have hf:=run_findKeyId k w es l h2
  unfold putM
  cases hi : idxM k l 0 with
  | none =>
    rw [hi] at hf
    refine ⟨_,by simp [Instr.mapUpdate,run_underlying ht,MapKept.run_getObj_map h1,run_idKey,hf,MapKept.run_setObj_map _ h1,Result.andThen];rfl,?_,?_⟩
    · exact ⟨_,_,ChangeMaps.heap_setBlock_same h1 _,by simp [h2,entE]⟩
    · exact ⟨rfl,rfl,rfl,by simp [ChangeMaps.setBlock],fun i _ hi => ChangeMaps.heap_setBlock_other h1 _ (fun e => hi (by rw [e]))⟩
  | some x =>
    rw [hi] at hf
    obtain ⟨_,hx,hk⟩:=idxM_le k l 0 x hi
    simp only [Nat.sub_zero] at hx hk
    have hlen : es.toList.length = l.length:=by have:=congrArg List.length h2;simpa [entE] using this
    have h3 : es.size = l.length:=by simpa using hlen
    have hxs : x.1 < es.size:=by omega
    have hkey : es[x.1].key = idK k:=by
      have:=congrArg (fun z => z[x.1]?) h2
      simp [entE,hx,hxs] at this
      rw [this.1,hk]
    refine ⟨_,by simp [Instr.mapUpdate,run_underlying ht,MapKept.run_getObj_map h1,run_idKey,hf,hxs,hkey,run_stays,MapKept.run_setObj_map _ h1,Result.andThen];rfl,?_,?_⟩
    · refine ⟨_,_,ChangeMaps.heap_setBlock_same h1 _,?_⟩
      apply List.ext_getElem?
      intro i
      have hi2:=congrArg (fun z => z[i]?) h2
      simp only [List.getElem?_map,entE,Array.getElem?_toList] at hi2 ⊢
      simp only [Array.getElem?_modify,List.getElem?_set]
      by_cases e : x.1 = i
      · subst e
        simp [hx,hxs]
      · simp [e]
        exact hi2
    · exact ⟨rfl,rfl,rfl,by simp [ChangeMaps.setBlock],fun i _ hi => ChangeMaps.heap_setBlock_other h1 _ (fun e => hi (by rw [e]))⟩
section
variable {ops : Array Oper} {rest : List Oper} {o : Oper} {a : Act} {w : World}
theorem wpList_lookId {Q : Exit → Act → World → Prop} (hg : o.guard = none) (m x : Operand) (t : TypeId) (hop : o.op = Op.lookup t m x false) (e : TypeId) (ht : Tryd.prog.underlying t = some (.map 36 e)) (z : Value)
    (hz : (zeroValue e).run Tryd.prog w = .ok z w) (b : Nat) (l : List (Id3 × Value)) (h : mapAt w b l) (k : Id3) (hm : a.eval m = .map (some b)) (hx : a.eval x = idK k) (hK : wpList Tryd.prog ops Q rest (a.put o.dst (getM l k z)) w) : wpList Tryd.prog ops Q (o :: rest) a w:=by
  refine wpList_plain hg fun K' hK' => ?_
  unfold Oper.wp
  simp [execOp,hop,hm,hx,run_lookId ht hz h,Result.andThen]
  exact hK' _ _ hK
theorem wpList_putId {Q : Exit → Act → World → Prop} (hg : o.guard = none) (m x v : Operand) (t : TypeId) (hop : o.op = Op.mapUpdate t m x v) (e : TypeId) (ht : Tryd.prog.underlying t = some (.map 36 e))
    (b : Nat) (l : List (Id3 × Value)) (h : mapAt w b l) (k : Id3) (val : Value) (hm : a.eval m = .map (some b)) (hx : a.eval x = idK k) (hv : a.eval v = val)
    (hK : ∀ w',mapAt w' b (putM l k val) → w.grownBy w' (some b) → wpList Tryd.prog ops Q rest (a.put o.dst undef) w') : wpList Tryd.prog ops Q (o :: rest) a w:=by
  refine wpList_plain hg fun K' hK' => ?_
  obtain ⟨w',hrun,r1,r2⟩:=run_putId ht h k val
  unfold Oper.wp
  simp [execOp,hop,hm,hx,hv,hrun,Result.andThen]
  exact hK' _ _ (hK w' r1 r2)
end
end Go.Proofs.YtkaehoihpgelnaaDoor
namespace Go.Proofs.YtkaehoihpgelnaaDoor
open Go.RowKit
structure Itm where
  b : Bn
  (st to off od : Int)
def bid (b : Bn) : Id3:=(b.no,b.sq,b.of)
def bcode (b : Bn) : Int:=buC b.no b.sq b.of b.de b.pr b.bo b.li b.to b.da.size
def idsM (l : List Itm) : List (Id3 × Value):=l.map fun x => (bid x.b,.bool true)
theorem idx_ids (k : Id3) : ∀ (l : List Itm) (i : Nat),(idxM k (idsM l) i).isSome = decide (k ∈ l.map (bid ·.b))
  | [],i => rfl
  | x :: l,i => by
    have ih:=idx_ids k l (i + 1)
    unfold idsM at ih ⊢
    rw [List.map_cons]
    unfold idxM
    by_cases h : k = bid x.b
    · simp [h]
    · rw [if_neg h,ih]
      simp [h]
theorem idx_ids_val (k : Id3) : ∀ (l : List Itm) (i : Nat) (v : Nat × Value),idxM k (idsM l) i = some v → v.2 = .bool true
  | [],i,v,h => by simp [idsM,idxM] at h
  | x :: l,i,v,h => by
    unfold idsM at h
    rw [List.map_cons] at h
    unfold idxM at h
    split at h
    · cases h;rfl
    · exact idx_ids_val k l (i + 1) v h
theorem getM_ids (k : Id3) (l : List Itm) : getM (idsM l) k (.bool false) = .bool (decide (k ∈ l.map (bid ·.b))):=by
  have h1:=idx_ids k l 0
  unfold getM
  cases hi : idxM k (idsM l) 0 with
  | none => rw [hi] at h1;rw [← h1];rfl
  | some v =>
    rw [hi] at h1
    rw [← h1]
    exact idx_ids_val k l 0 v hi
theorem putM_ids {x : Itm} {l : List Itm} (h : bid x.b ∉ l.map (bid ·.b)) : putM (idsM l) (bid x.b) (.bool true) = idsM (l ++ [x]):=by
  have h1:=idx_ids (bid x.b) l 0
  rw [decide_eq_false h] at h1
  unfold putM
  cases hi : idxM (bid x.b) (idsM l) 0 with
  | none => simp [idsM]
  | some v => rw [hi] at h1;simp at h1
end Go.Proofs.YtkaehoihpgelnaaDoor
