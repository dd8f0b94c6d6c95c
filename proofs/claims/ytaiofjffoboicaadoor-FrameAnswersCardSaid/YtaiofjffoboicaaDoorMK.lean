/- Parts of a proof, printed by a program of mine out of my texts: WiRefDecc, WiRefDecd. -/
import Derived.Test.YtaiofjffoboicaaDoorMI
import Derived.Test.YtaiofjffoboicaaDoorMWiDec3
