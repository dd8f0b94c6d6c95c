/- Parts of a proof, printed by a program of mine out of my texts: FwLaws. -/
import Derived.Test.YtaiofjffoboicaaDoorCEq
import Derived.Test.YtaiofjffoboicaaDoorCX9
set_option linter.unusedSimpArgs false
set_option linter.unusedVariables false
namespace Go.Proofs.YtaiofjffoboicaaDoor
open Go.RowKit
theorem wpList_callR {P : Program} {ops : Array Oper} {rest : List Oper} {o : Oper} {a : Act} {w : World} {Q : Exit → Act → World → Prop} (hg : o.guard = none) (d : Option Tmp) (hd : o.dst = d)
    (f : FuncId) (args : Array Value) (hrun : (execOp a.eval o).run P w = .ok (.enter f args) w) (R : Value → World → Prop)
    (hc : Calls P f args w fun e w' => ∃ v,e = .returned v ∧ R v w')
    (h : ∀ v w',R v w' → wpList P ops Q rest (a.put d v) w') : wpList P ops Q (o :: rest) a w:=by
  subst hd
  refine wpList_plain hg fun K hK => ?_
  unfold Oper.wp
  rw [hrun,Oper.upon_enter]
  refine hc.mono fun e w' hh => ?_
  obtain ⟨v,rfl,hR⟩:=hh
  exact hK _ _ (h v w' hR)
end Go.Proofs.YtaiofjffoboicaaDoor
