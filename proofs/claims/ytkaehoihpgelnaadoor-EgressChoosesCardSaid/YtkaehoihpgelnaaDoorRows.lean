/-
  NARROWER THAN 'FOR EVERY INPUT', by the rows' own cells (each row's printed sentence says how): EgressAll: laid · EgressOrder: laid · EgressStates: laid · EgressWithin: laid · EgressKnown: laid · EgressPassed: laid · EgressChooses: laid.
  DERIVED. THE GIVEN ROWS OF THIS SEAT. 7 by the template 'for every input the law returns true; each argument reads behind the call as it read before'; 0 by the template 'total and deterministic' (their statements: YtkaehoihpgelnaaDoorTotals.lean).
  GIVEN WITH THE SEED: the statements are not yours to turn. If you find one false, say at which input.
  Laid BY PROGRAM, IN A SANDBOX (cutbox-rows.mjs): the forced cells as the released guide's own fill.sh prints them over the translation 43d054e83e36a028… (all of the seat's roots in one cut). By AI agents, Wed Nov 11 2026. No macro, syntax, notation, axiom, sorry.
-/
import Derived.Test.YtkaehoihpgelnaaDoorChecked
import GoSem.Claim
import GoSem.ClaimJoined
import GoSem.ClaimMapViews
import Derived.JoinedTies
import Derived.KernelRfl
namespace Go.Proofs.YtkaehoihpgelnaaDoor
/- THE CELL 'sum', in the pinned program and in every row, IS THE sha256 OF THE DUMP (.gsa) THAT YtkaehoihpgelnaaDoorProg.lean LOADS. Nothing in Lean hashes anything: it is a label: what it is worth is what the hold of that sum in a sandbox is worth. -/
noncomputable def Tryd.pinned : Pinned := { name := "ytkaehoihpgelnaadoor", sum := "43d054e83e36a028b7d2bc1522b7c6e443268649443fb64cdc9ed7f459ca7ad3", checked := Tryd.checked }
namespace Rows
def none {H : Type} : Left H := { results := [], args := [] }

/- WHAT THE LISTED PACKAGE-LEVEL VARIABLES READ AS WHEN THE CALL BEGINS. Each datum BY PROGRAM (the guide's laid-datum.mjs) off the statement by which the dump's own 'gosem.cut.vars' lays the variable. In a bare row this is a premise. The card (YtkaehoihpgelnaaDoorCards.lean) ties it to the program's text. -/
def laid_packhorse_wire_heads {H : Type} : DataW H := .agg [.lit (.int .u8 176), .lit (.int .u8 177), .lit (.int .u8 178), .lit (.int .u8 180), .lit (.int .u8 181), .lit (.int .u8 182)]

/-- 'packhorselaw29.EgressAll': WHATEVER THE INPUT: true; the input reads as it did. -/
def egressAllSpec : ChangeSpec := { name := "egressAll", fn := fun _ => fun
  | [d] => { results := [.lit (.bool true)], args := [d] }
  | _ => none }
def egressAllRow : OpenClaim := { program := "ytkaehoihpgelnaadoor", sum := "43d054e83e36a028b7d2bc1522b7c6e443268649443fb64cdc9ed7f459ca7ad3", func := "packhorse/packhorselaw29.EgressAll", spec := "egressAll", inPlace := ["math/bits.Add64"], unfollowed := true, recurses := true, named := ["packhorse/wire.heads"], plainKeys := false, apart := false, laid := [("packhorse/wire.heads", laid_packhorse_wire_heads)] }
def EgressAllSaid : Prop := egressAllRow.holds Tryd.pinned (OpenSpec.ofChange egressAllSpec)

/-- ITS FALSE NEIGHBOUR: 'it returns false'. Refute it at one input. -/
def egressAllWrong : ChangeSpec := { name := "egressAll", fn := fun _ => fun
  | [d] => { results := [.lit (.bool false)], args := [d] }
  | _ => none }
def EgressAllWrongFalsely : Prop := egressAllRow.holds Tryd.pinned (OpenSpec.ofChange egressAllWrong)

/-- 'packhorselaw29.EgressOrder': WHATEVER THE INPUT: true; the input reads as it did. -/
def egressOrderSpec : ChangeSpec := { name := "egressOrder", fn := fun _ => fun
  | [d1, d2, d3, d4] => { results := [.lit (.bool true)], args := [d1, d2, d3, d4] }
  | _ => none }
def egressOrderRow : OpenClaim := { program := "ytkaehoihpgelnaadoor", sum := "43d054e83e36a028b7d2bc1522b7c6e443268649443fb64cdc9ed7f459ca7ad3", func := "packhorse/packhorselaw29.EgressOrder", spec := "egressOrder", inPlace := ["math/bits.Add64"], unfollowed := true, recurses := true, named := ["packhorse/wire.heads"], plainKeys := false, apart := false, laid := [("packhorse/wire.heads", laid_packhorse_wire_heads)] }
def EgressOrderSaid : Prop := egressOrderRow.holds Tryd.pinned (OpenSpec.ofChange egressOrderSpec)

/-- ITS FALSE NEIGHBOUR: 'it returns false'. Refute it at one input. -/
def egressOrderWrong : ChangeSpec := { name := "egressOrder", fn := fun _ => fun
  | [d1, d2, d3, d4] => { results := [.lit (.bool false)], args := [d1, d2, d3, d4] }
  | _ => none }
def EgressOrderWrongFalsely : Prop := egressOrderRow.holds Tryd.pinned (OpenSpec.ofChange egressOrderWrong)

/-- 'packhorselaw29.EgressStates': WHATEVER THE INPUT: true; the input reads as it did. -/
def egressStatesSpec : ChangeSpec := { name := "egressStates", fn := fun _ => fun
  | [d1, d2, d3] => { results := [.lit (.bool true)], args := [d1, d2, d3] }
  | _ => none }
def egressStatesRow : OpenClaim := { program := "ytkaehoihpgelnaadoor", sum := "43d054e83e36a028b7d2bc1522b7c6e443268649443fb64cdc9ed7f459ca7ad3", func := "packhorse/packhorselaw29.EgressStates", spec := "egressStates", inPlace := ["math/bits.Add64"], unfollowed := true, recurses := true, named := ["packhorse/wire.heads"], plainKeys := false, apart := false, laid := [("packhorse/wire.heads", laid_packhorse_wire_heads)] }
def EgressStatesSaid : Prop := egressStatesRow.holds Tryd.pinned (OpenSpec.ofChange egressStatesSpec)

/-- ITS FALSE NEIGHBOUR: 'it returns false'. Refute it at one input. -/
def egressStatesWrong : ChangeSpec := { name := "egressStates", fn := fun _ => fun
  | [d1, d2, d3] => { results := [.lit (.bool false)], args := [d1, d2, d3] }
  | _ => none }
def EgressStatesWrongFalsely : Prop := egressStatesRow.holds Tryd.pinned (OpenSpec.ofChange egressStatesWrong)

/-- 'packhorselaw29.EgressWithin': WHATEVER THE INPUT: true; the input reads as it did. -/
def egressWithinSpec : ChangeSpec := { name := "egressWithin", fn := fun _ => fun
  | [d1, d2, d3, d4] => { results := [.lit (.bool true)], args := [d1, d2, d3, d4] }
  | _ => none }
def egressWithinRow : OpenClaim := { program := "ytkaehoihpgelnaadoor", sum := "43d054e83e36a028b7d2bc1522b7c6e443268649443fb64cdc9ed7f459ca7ad3", func := "packhorse/packhorselaw29.EgressWithin", spec := "egressWithin", inPlace := ["math/bits.Add64"], unfollowed := true, recurses := true, named := ["packhorse/wire.heads"], plainKeys := false, apart := false, laid := [("packhorse/wire.heads", laid_packhorse_wire_heads)] }
def EgressWithinSaid : Prop := egressWithinRow.holds Tryd.pinned (OpenSpec.ofChange egressWithinSpec)

/-- ITS FALSE NEIGHBOUR: 'it returns false'. Refute it at one input. -/
def egressWithinWrong : ChangeSpec := { name := "egressWithin", fn := fun _ => fun
  | [d1, d2, d3, d4] => { results := [.lit (.bool false)], args := [d1, d2, d3, d4] }
  | _ => none }
def EgressWithinWrongFalsely : Prop := egressWithinRow.holds Tryd.pinned (OpenSpec.ofChange egressWithinWrong)

/-- 'packhorselaw29.EgressKnown': WHATEVER THE INPUT: true; the input reads as it did. -/
def egressKnownSpec : ChangeSpec := { name := "egressKnown", fn := fun _ => fun
  | [] => { results := [.lit (.bool true)], args := [] }
  | _ => none }
def egressKnownRow : OpenClaim := { program := "ytkaehoihpgelnaadoor", sum := "43d054e83e36a028b7d2bc1522b7c6e443268649443fb64cdc9ed7f459ca7ad3", func := "packhorse/packhorselaw29.EgressKnown", spec := "egressKnown", inPlace := ["math/bits.Add64"], unfollowed := true, recurses := true, named := ["packhorse/wire.heads"], plainKeys := false, apart := false, laid := [("packhorse/wire.heads", laid_packhorse_wire_heads)] }
def EgressKnownSaid : Prop := egressKnownRow.holds Tryd.pinned (OpenSpec.ofChange egressKnownSpec)

/-- ITS FALSE NEIGHBOUR: 'it returns false'. Refute it at one input. -/
def egressKnownWrong : ChangeSpec := { name := "egressKnown", fn := fun _ => fun
  | [] => { results := [.lit (.bool false)], args := [] }
  | _ => none }
def EgressKnownWrongFalsely : Prop := egressKnownRow.holds Tryd.pinned (OpenSpec.ofChange egressKnownWrong)

/-- 'packhorselaw29.EgressPassed': WHATEVER THE INPUT: true; the input reads as it did. -/
def egressPassedSpec : ChangeSpec := { name := "egressPassed", fn := fun _ => fun
  | [d1, d2, d3] => { results := [.lit (.bool true)], args := [d1, d2, d3] }
  | _ => none }
def egressPassedRow : OpenClaim := { program := "ytkaehoihpgelnaadoor", sum := "43d054e83e36a028b7d2bc1522b7c6e443268649443fb64cdc9ed7f459ca7ad3", func := "packhorse/packhorselaw29.EgressPassed", spec := "egressPassed", inPlace := ["math/bits.Add64"], unfollowed := true, recurses := true, named := ["packhorse/wire.heads"], plainKeys := false, apart := false, laid := [("packhorse/wire.heads", laid_packhorse_wire_heads)] }
def EgressPassedSaid : Prop := egressPassedRow.holds Tryd.pinned (OpenSpec.ofChange egressPassedSpec)

/-- ITS FALSE NEIGHBOUR: 'it returns false'. Refute it at one input. -/
def egressPassedWrong : ChangeSpec := { name := "egressPassed", fn := fun _ => fun
  | [d1, d2, d3] => { results := [.lit (.bool false)], args := [d1, d2, d3] }
  | _ => none }
def EgressPassedWrongFalsely : Prop := egressPassedRow.holds Tryd.pinned (OpenSpec.ofChange egressPassedWrong)

/-- 'packhorselaw29.EgressChooses': WHATEVER THE INPUT: true; the input reads as it did. -/
def egressChoosesSpec : ChangeSpec := { name := "egressChooses", fn := fun _ => fun
  | [d1, d2, d3, d4, d5] => { results := [.lit (.bool true)], args := [d1, d2, d3, d4, d5] }
  | _ => none }
def egressChoosesRow : OpenClaim := { program := "ytkaehoihpgelnaadoor", sum := "43d054e83e36a028b7d2bc1522b7c6e443268649443fb64cdc9ed7f459ca7ad3", func := "packhorse/packhorselaw29.EgressChooses", spec := "egressChooses", inPlace := ["math/bits.Add64"], unfollowed := true, recurses := true, named := ["packhorse/wire.heads"], plainKeys := false, apart := false, laid := [("packhorse/wire.heads", laid_packhorse_wire_heads)] }
def EgressChoosesSaid : Prop := egressChoosesRow.holds Tryd.pinned (OpenSpec.ofChange egressChoosesSpec)

/-- ITS FALSE NEIGHBOUR: 'it returns false'. Refute it at one input. -/
def egressChoosesWrong : ChangeSpec := { name := "egressChooses", fn := fun _ => fun
  | [d1, d2, d3, d4, d5] => { results := [.lit (.bool false)], args := [d1, d2, d3, d4, d5] }
  | _ => none }
def EgressChoosesWrongFalsely : Prop := egressChoosesRow.holds Tryd.pinned (OpenSpec.ofChange egressChoosesWrong)

/- THE SECOND FORM. 'bulk': how many values and letters a reading holds, each counted each time it is reached (what is shared counts as often as it is met; a slice's spare places count too). A statement '..UptoSaid' is the law's where the arguments, and the package variables that the reading takes, are together of bulk at most 1048576: NARROWER than '..Said'. Prove '..Said' where nothing that the law and all that it calls make is longer than what came in: it says more and counts as full. Else prove '..UptoSaid'. A law counts once. -/
mutual
def uptoBulk {H : Type} : DataW H → Nat
  | .lit (.string bytes) => bytes.length + 1
  | .lit _ => 1
  | .nil => 1
  | .ptr d => uptoBulk d + 1
  | .slice elems spare => uptoBulkAll elems + uptoBulkAll spare + 1
  | .agg parts => uptoBulkAll parts + 1
  | .iface _ d => uptoBulk d + 1
  | .map entries => uptoBulkEntries entries + 1
  | .held _ => 1
def uptoBulkAll {H : Type} : List (DataW H) → Nat
  | [] => 0
  | d :: r => uptoBulk d + uptoBulkAll r
def uptoBulkEntries {H : Type} : List (Lit × DataW H) → Nat
  | [] => 0
  | x :: r => uptoBulkEntry x + uptoBulkEntries r
def uptoBulkEntry {H : Type} : Lit × DataW H → Nat
  | (.string bytes, d) => bytes.length + uptoBulk d + 1
  | (_, d) => uptoBulk d + 1
 end
def uptoSmall : (H : Type) → List (DataW H) → Bool := fun _ ds => decide (uptoBulkAll ds ≤ 1048576)
def OpenSpec.upto (s : _root_.Go.ChangeSpec) : _root_.Go.OpenSpec := { _root_.Go.OpenSpec.ofChange s with cond := some uptoSmall }

/-- 'packhorselaw29.EgressAll', WHERE WHAT IT READS IS OF BULK AT MOST 1048576: true; the input reads as it did. -/
def egressAllUptoRow : OpenClaim := { program := "ytkaehoihpgelnaadoor", sum := "43d054e83e36a028b7d2bc1522b7c6e443268649443fb64cdc9ed7f459ca7ad3", func := "packhorse/packhorselaw29.EgressAll", spec := "egressAll", inPlace := ["math/bits.Add64"], unfollowed := true, recurses := true, named := ["packhorse/wire.heads"], plainKeys := false, apart := false, laid := [("packhorse/wire.heads", laid_packhorse_wire_heads)], narrowed := true }
def EgressAllUptoSaid : Prop := egressAllUptoRow.holds Tryd.pinned (OpenSpec.upto egressAllSpec)

/-- 'packhorselaw29.EgressOrder', WHERE WHAT IT READS IS OF BULK AT MOST 1048576: true; the input reads as it did. -/
def egressOrderUptoRow : OpenClaim := { program := "ytkaehoihpgelnaadoor", sum := "43d054e83e36a028b7d2bc1522b7c6e443268649443fb64cdc9ed7f459ca7ad3", func := "packhorse/packhorselaw29.EgressOrder", spec := "egressOrder", inPlace := ["math/bits.Add64"], unfollowed := true, recurses := true, named := ["packhorse/wire.heads"], plainKeys := false, apart := false, laid := [("packhorse/wire.heads", laid_packhorse_wire_heads)], narrowed := true }
def EgressOrderUptoSaid : Prop := egressOrderUptoRow.holds Tryd.pinned (OpenSpec.upto egressOrderSpec)

/-- 'packhorselaw29.EgressStates', WHERE WHAT IT READS IS OF BULK AT MOST 1048576: true; the input reads as it did. -/
def egressStatesUptoRow : OpenClaim := { program := "ytkaehoihpgelnaadoor", sum := "43d054e83e36a028b7d2bc1522b7c6e443268649443fb64cdc9ed7f459ca7ad3", func := "packhorse/packhorselaw29.EgressStates", spec := "egressStates", inPlace := ["math/bits.Add64"], unfollowed := true, recurses := true, named := ["packhorse/wire.heads"], plainKeys := false, apart := false, laid := [("packhorse/wire.heads", laid_packhorse_wire_heads)], narrowed := true }
def EgressStatesUptoSaid : Prop := egressStatesUptoRow.holds Tryd.pinned (OpenSpec.upto egressStatesSpec)

/-- 'packhorselaw29.EgressWithin', WHERE WHAT IT READS IS OF BULK AT MOST 1048576: true; the input reads as it did. -/
def egressWithinUptoRow : OpenClaim := { program := "ytkaehoihpgelnaadoor", sum := "43d054e83e36a028b7d2bc1522b7c6e443268649443fb64cdc9ed7f459ca7ad3", func := "packhorse/packhorselaw29.EgressWithin", spec := "egressWithin", inPlace := ["math/bits.Add64"], unfollowed := true, recurses := true, named := ["packhorse/wire.heads"], plainKeys := false, apart := false, laid := [("packhorse/wire.heads", laid_packhorse_wire_heads)], narrowed := true }
def EgressWithinUptoSaid : Prop := egressWithinUptoRow.holds Tryd.pinned (OpenSpec.upto egressWithinSpec)

/-- 'packhorselaw29.EgressKnown', WHERE WHAT IT READS IS OF BULK AT MOST 1048576: true; the input reads as it did. -/
def egressKnownUptoRow : OpenClaim := { program := "ytkaehoihpgelnaadoor", sum := "43d054e83e36a028b7d2bc1522b7c6e443268649443fb64cdc9ed7f459ca7ad3", func := "packhorse/packhorselaw29.EgressKnown", spec := "egressKnown", inPlace := ["math/bits.Add64"], unfollowed := true, recurses := true, named := ["packhorse/wire.heads"], plainKeys := false, apart := false, laid := [("packhorse/wire.heads", laid_packhorse_wire_heads)], narrowed := true }
def EgressKnownUptoSaid : Prop := egressKnownUptoRow.holds Tryd.pinned (OpenSpec.upto egressKnownSpec)

/-- 'packhorselaw29.EgressPassed', WHERE WHAT IT READS IS OF BULK AT MOST 1048576: true; the input reads as it did. -/
def egressPassedUptoRow : OpenClaim := { program := "ytkaehoihpgelnaadoor", sum := "43d054e83e36a028b7d2bc1522b7c6e443268649443fb64cdc9ed7f459ca7ad3", func := "packhorse/packhorselaw29.EgressPassed", spec := "egressPassed", inPlace := ["math/bits.Add64"], unfollowed := true, recurses := true, named := ["packhorse/wire.heads"], plainKeys := false, apart := false, laid := [("packhorse/wire.heads", laid_packhorse_wire_heads)], narrowed := true }
def EgressPassedUptoSaid : Prop := egressPassedUptoRow.holds Tryd.pinned (OpenSpec.upto egressPassedSpec)

/-- 'packhorselaw29.EgressChooses', WHERE WHAT IT READS IS OF BULK AT MOST 1048576: true; the input reads as it did. -/
def egressChoosesUptoRow : OpenClaim := { program := "ytkaehoihpgelnaadoor", sum := "43d054e83e36a028b7d2bc1522b7c6e443268649443fb64cdc9ed7f459ca7ad3", func := "packhorse/packhorselaw29.EgressChooses", spec := "egressChooses", inPlace := ["math/bits.Add64"], unfollowed := true, recurses := true, named := ["packhorse/wire.heads"], plainKeys := false, apart := false, laid := [("packhorse/wire.heads", laid_packhorse_wire_heads)], narrowed := true }
def EgressChoosesUptoSaid : Prop := egressChoosesUptoRow.holds Tryd.pinned (OpenSpec.upto egressChoosesSpec)

end Rows
end Go.Proofs.YtkaehoihpgelnaaDoor
