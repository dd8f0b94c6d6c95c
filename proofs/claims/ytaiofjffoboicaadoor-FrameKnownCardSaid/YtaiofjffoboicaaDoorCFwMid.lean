/- Parts of a proof, printed by a program of mine out of my texts: FwMid. -/
import Derived.Deep.MidRow
import Derived.Test.YtaiofjffoboicaaDoorCEq
import Derived.Test.YtaiofjffoboicaaDoorCUsed
import Derived.Test.YtaiofjffoboicaaDoorCX9
set_option linter.unusedSimpArgs false
set_option linter.unusedVariables false
namespace Go.Proofs.YtaiofjffoboicaaDoor
open Go.RowKit
def setMid (c : Array Value) : Nat → List Value → Array Value
  | _,[] => c
  | o,v :: r => setMid (c.setIfInBounds o v) (o + 1) r
theorem blk_setCells {b : Nat} : ∀ (vs : List Value) (o : Nat) (w : World) (c : Array Value),blk w b = some c → blk (w.setCells b o vs) b = some (setMid c o vs)
  | [],_,_,_,h => h
  | v :: r,o,w,c,h => blk_setCells r (o + 1) _ _ (blk_set h)
theorem blk_setCells_other {b d : Nat} (hd : d ≠ b) : ∀ (vs : List Value) (o : Nat) (w : World) (c : Array Value),blk w d = some c → blk (w.setCells b o vs) d = some c
  | [],_,_,_,h => h
  | v :: r,o,w,c,h => blk_setCells_other hd r (o + 1) _ _ (blk_other h hd)
theorem below_setCells {B b : Nat} {w0 : World} (hB : B ≤ b) : ∀ (vs : List Value) (o : Nat) (w : World),Below B w0 w → Below B w0 (w.setCells b o vs)
  | [],_,_,h => h
  | v :: r,o,w,h => below_setCells hB r (o + 1) _ (h.setCell hB v)
theorem size_setCells {b : Nat} : ∀ (vs : List Value) (o : Nat) (w : World),(w.setCells b o vs).heap.size = w.heap.size
  | [],_,_ => rfl
  | v :: r,o,w => (size_setCells r (o + 1) _).trans (by simp)
theorem there_of_blk {w : World} {b o n : Nat} {c : Array Value} (h : blk w b = some c) (hn : o + n ≤ c.size) : w.there b o n:=fun j hj => by
  refine ⟨?_,blk_frozen h _⟩
  rw [blk_cell h,Array.getElem?_eq_getElem (by omega)]
  rfl
theorem range_of_blk {w : World} {b : Nat} {c : Array Value} (h : blk w b = some c) (o : Nat) (cs : List Value) (hc : (c.toList.drop o).take cs.length = cs) : w.rangeAt b o cs:=fun j v hv => by
  rw [blk_cell h]
  have hj : j < cs.length:=(List.getElem?_eq_some_iff.1 hv).1
  rw [← hc] at hv
  rw [List.getElem?_take_of_lt hj,List.getElem?_drop,Array.getElem?_toList] at hv
  exact hv
section
variable {P : Program} {ops : Array Oper} {rest : List Oper} {o : Oper} {a : Act} {w : World}
theorem wpList_store_midB {Q : Exit → Act → World → Prop} (ty : TypeId) (x y : Operand) (b off : Nat) (c c' cells : Array Value) (hb : blk w b = some c) (hgd : o.guard = none) (ho : o.op = .store ty x y)
    (hx : a.eval x = .pointer (some ⟨b,off,none⟩)) (hy : a.eval y = .agg cells) (hsz : off + cells.size ≤ c.size) (hi : (P.info? ty).map (·.size) = some cells.size) (h1 : cells.all (·.oneCell') = true)
    (hc : setMid c off cells.toList = c')
    (h : ∀ w',blk w' b = some c' → (∀ d e,d ≠ b → blk w d = some e → blk w' d = some e) → (∀ B w0,B ≤ b → Below B w0 w → Below B w0 w') → w'.heap.size = w.heap.size → wpList P ops Q rest (a.put o.dst undef) w') : wpList P ops Q (o :: rest) a w:=by
  refine wpList_store_mid hgd ty x y ho b off cells hx hy (there_of_blk hb hsz) hi h1 ?_
  exact h _ (hc ▸ blk_setCells _ _ _ _ hb) (fun d e hd he => blk_setCells_other hd _ _ _ _ he) (fun B w0 hB hw => below_setCells hB _ _ _ hw) (size_setCells _ _ _)
theorem wpQuiet_load_midG {C : World → Prop} {Q : Act → Prop} (ty : TypeId) (x : Operand) (b off : Nat) (c cs : Array Value) (hb : ∀ w,C w → blk w b = some c) (hc : (c.toList.drop off).take cs.toList.length = cs.toList) (d : TypeDesc) (hw : Region.wanted o (yielded ops a.tmps) = true) (ho : o.op = .load ty x) (hx : a.eval x = .pointer (some ⟨b,off,none⟩))
    (hu : P.underlying ty = some d) (hd : d.isRow = true) (hi : (P.info? ty).map (·.size) = some cs.toList.length)
    (h : wpQuiet P ops C Q rest (a.put o.dst (.agg cs))) : wpQuiet P ops C Q (o :: rest) a:=by
  refine wpQuiet_step fun K hK => ?_
  rw [if_pos hw]
  refine ⟨.agg cs,fun w hw => ?_,hK _ h⟩
  unfold Oper.quietAt execOp
  simp only [ho,hx,Sem.run_bind,run_loadAt_mid w b off ty cs.toList d (range_of_blk (hb w hw) off cs.toList hc) hu hd hi,Result.andThen_ok]
  exact ⟨rfl,rfl⟩
end
end Go.Proofs.YtaiofjffoboicaaDoor
