/- Parts of a proof, printed by a program of mine out of my texts: StOne. -/
import Derived.Test.YtahopnlibmiafaaDoorMB
import Derived.Test.YtahopnlibmiafaaDoorMU
set_option linter.unusedSimpArgs false
set_option linter.unusedVariables false
namespace Go.Proofs.YtahopnlibmiafaaDoor
open Go.RowKit
theorem rchk_any (b : Bn) (hda : b.da.size ≤ maxLen) (w : World) : Calls Tryd.prog 57 #[.agg (bn b).toArray] w fun e w' => e = .returned (.int .i64 (bcode b)) ∧ Below w.heap.size w w' :=
  refCheck_any b.no b.sq b.of b.de b.pr b.bo b.li b.to b.da hda w
theorem pchk_any (b : Bn) (hda : b.da.size ≤ maxLen) (w : World) : Calls Tryd.prog 54 #[.agg (bn b).toArray] w fun e w' => e = .returned (.int .i64 (bcode b)) ∧ Below w.heap.size w w' :=
  check_any b.no b.sq b.of b.de b.pr b.bo b.li b.to b.da hda w
end Go.Proofs.YtahopnlibmiafaaDoor
