/- Parts of a proof, printed by a program of mine out of my texts: RpAsp. -/
import Derived.OrdersHeld
import Derived.Deep.RegionHeld
import Derived.Deep.Cut
import Derived.Test.YthfmkkkdjgkaoaaGreatDoorMH
import Derived.Test.YthfmkkkdjgkaoaaGreatDoorMK
set_option linter.unusedSimpArgs false
set_option linter.unusedVariables false
