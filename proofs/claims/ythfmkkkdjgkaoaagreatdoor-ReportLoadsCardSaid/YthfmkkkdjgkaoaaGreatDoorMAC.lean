/- Parts of a proof, printed by a program of mine out of my texts: RpLsP. -/
import Derived.Test.YthfmkkkdjgkaoaaGreatDoorMK
import Derived.Test.YthfmkkkdjgkaoaaGreatDoorMX
set_option linter.unusedSimpArgs false
set_option linter.unusedVariables false
namespace Go.Proofs.YthfmkkkdjgkaoaaGreatDoor
open Go.RowKit
def sp (b : List Bn) (l : List Oc) : Nat → Nat → Int
  | 0, _ => 0
  | j + 1, i => sp b l j i + cntO b l (j : Int) i
end Go.Proofs.YthfmkkkdjgkaoaaGreatDoor
