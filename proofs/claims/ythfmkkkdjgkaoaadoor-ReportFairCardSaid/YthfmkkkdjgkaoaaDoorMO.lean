/- Parts of a proof, printed by a program of mine out of my texts: OpenRow, OpenBun. -/
import Derived.Deep.Slices
import Derived.DataReads
import Derived.Test.YthfmkkkdjgkaoaaDoorMA
import Derived.Test.YthfmkkkdjgkaoaaDoorMU
set_option linter.unusedSimpArgs false
set_option linter.unusedVariables false
