/- Parts of a proof: which answers answer. -/
import Derived.Test.YtaiofjffoboicaaDoorCX9
import Derived.Test.YtaiofjffoboicaaDoorCFrAns
set_option linter.unusedSimpArgs false
set_option linter.unusedVariables false
namespace Go.Proofs.YtaiofjffoboicaaDoor
open Go.RowKit
theorem ans_data (a o : Int) (h : 5 ≤ a) (h2 : a ≤ 100) (h3 : 0 ≤ o) (h4 : o ≤ 100) : ansV (dataA a) (ackF o) = (decide (o = a), 0) := by
  unfold ansV
  rw [if_neg (by rw [dataA_ok a h h2]; simp), if_neg (by rw [ackF_ok o h3 h4]; simp), if_neg (by simp [dataA])]
  unfold ansB dataA ackF
  simp
end Go.Proofs.YtaiofjffoboicaaDoor
