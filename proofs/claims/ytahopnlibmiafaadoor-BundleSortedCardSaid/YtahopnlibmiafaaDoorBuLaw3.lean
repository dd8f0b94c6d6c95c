/- Comparisons: the program and the reference answer alike. -/
import Derived.Test.YtahopnlibmiafaaDoorBuAwake
import Derived.Test.YtahopnlibmiafaaDoorBuOrd2
import Derived.Test.YtahopnlibmiafaaDoorReg
namespace Go.Proofs.YtahopnlibmiafaaDoor
set_option linter.unusedVariables false
open Go.RowKit

end Go.Proofs.YtahopnlibmiafaaDoor
