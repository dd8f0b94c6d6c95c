/- Parts of a proof, printed by a program of mine out of my texts: FxKey, FxPre. -/
import Derived.Lib.AppendIntMem
import Derived.Lib.ItoaLen
import Derived.Lib.Join
import Derived.OrdersHeld
import Derived.Test.YtaiofjffoboicaaDoorCA
import Derived.Test.YtaiofjffoboicaaDoorCB
import Derived.Test.YtaiofjffoboicaaDoorCEq
import Derived.Test.YtaiofjffoboicaaDoorCFwKit
import Derived.Test.YtaiofjffoboicaaDoorCShelf
set_option linter.unusedSimpArgs false
set_option linter.unusedVariables false
namespace Go.Proofs.YtaiofjffoboicaaDoor
open Go.RowKit Go.Sort
open Go.Lib (decDigits nDigits)
abbrev tabNm : String := "internal/strconv.uint64pow10"
def Tab (w : World) : Prop:=Lib.TabBelow Tryd.prog w.heap.size w tabNm .u64 Lib.pow10Tab
theorem Tab.at {w w' : World} (h : Tab w) (hb : RowKit.Below w.heap.size w w') : Lib.TabIs Tryd.prog w' tabNm .u64 Lib.pow10Tab:=(Lib.TabBelow.on h hb).here
theorem Tab.on {w w' : World} (h : Tab w) (hb : RowKit.Below w.heap.size w w') : Tab w':=Lib.tabBelow_of_tabIs (h.at hb)
end Go.Proofs.YtaiofjffoboicaaDoor
namespace Go.Proofs.YtaiofjffoboicaaDoor
open Go.RowKit
theorem wpAnyH_weaken {P : Program} {md : Region.Mode} {ops : Array Oper} {Q : Exit → Act → World → Prop} {S S2 : World → Prop} (hS : ∀ w,S2 w → S w) : ∀ (fuel : Nat) (listed : Array Bool) (a : Act) (w : World),wpAnyH P md ops Q S2 fuel listed a w → wpAnyH P md ops Q S fuel listed a w
  | 0,_,_,_,h => h
  | fuel + 1,_,_,_,h => ⟨h.1,fun i hi => wpOp_mono (fun a' w' hh => ⟨hS w' hh.1,wpAnyH_weaken hS fuel _ a' w' hh.2⟩) (h.2 i hi)⟩
abbrev blanksNm : String := "strings.asciiSpace"
def STabA (w : World) : Prop:=Lib.TabBelow Tryd.prog w.heap.size w blanksNm .u8 Lib.asciiSpaceTab
theorem STabA.at {w w' : World} (h : STabA w) (hb : Below w.heap.size w w') : Lib.TabIs Tryd.prog w' blanksNm .u8 Lib.asciiSpaceTab:=(Lib.TabBelow.on h hb).here
theorem STabA.on {w w' : World} (h : STabA w) (hb : Below w.heap.size w w') : STabA w':=Lib.tabBelow_of_tabIs (h.at hb)
end Go.Proofs.YtaiofjffoboicaaDoor
