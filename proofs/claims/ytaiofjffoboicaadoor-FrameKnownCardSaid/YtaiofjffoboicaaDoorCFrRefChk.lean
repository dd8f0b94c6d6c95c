/- Parts of a proof, printed by a program of mine out of my texts: FrRefChk. -/
import Derived.Test.YtaiofjffoboicaaDoorCEq
import Derived.Test.YtaiofjffoboicaaDoorCFrRefH
set_option linter.unusedSimpArgs false
set_option linter.unusedVariables false
