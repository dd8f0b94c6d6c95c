/- Parts of a proof, printed by a program of mine out of my texts: WiRefDece, WiRefDecf. -/
import Derived.Test.YtaiofjffoboicaaDoorMI
import Derived.Test.YtaiofjffoboicaaDoorMJ
import Derived.Test.YtaiofjffoboicaaDoorMK
import Derived.Test.YtaiofjffoboicaaDoorMWiDec3
