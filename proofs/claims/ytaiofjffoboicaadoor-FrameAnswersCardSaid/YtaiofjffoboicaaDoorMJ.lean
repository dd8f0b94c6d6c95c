/- Parts of a proof, printed by a program of mine out of my texts: WiRefDeca, WiRefDecb. -/
import Derived.Test.YtaiofjffoboicaaDoorMI
import Derived.Test.YtaiofjffoboicaaDoorMWiDec3
