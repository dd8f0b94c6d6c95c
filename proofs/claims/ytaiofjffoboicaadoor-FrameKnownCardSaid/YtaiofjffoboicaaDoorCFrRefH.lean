/- Parts of a proof, printed by a program of mine out of my texts: FrRefH. -/
import Derived.Test.YtaiofjffoboicaaDoorCEq
set_option linter.unusedSimpArgs false
set_option linter.unusedVariables false
