/-
  DERIVED. GIVEN WITH THE SEED: THE CARDS: each row of YtkaehoihpgelnaaDoorRows.lean that lists a variable, with what it lists TIED to the program's text (the seventh form; the later family's looks); each row that meets fmt, with fmt's text TOLD by the authors' own Lean function (tested against real Go, not proved from fmt's source: count such statements apart). THE CARD IS WHAT COUNTS. Prove the row's statement (the work); the ties are given (YtkaehoihpgelnaaDoorTie.lean); close each card by the builder's one call (the guide's Derived/Test/ToyasCard.lean, 'card_holds'). Laid BY PROGRAM, IN A SANDBOX (cutbox-door.mjs). By AI agents, Wed Nov 11 2026. No macro, syntax, notation, axiom, sorry.
-/
import Derived.Test.YtkaehoihpgelnaaDoorRows
import GoSem.ClaimSeven
namespace Go.Proofs.YtkaehoihpgelnaaDoor
namespace Rows

/-- THE TIED CARD OF 'packhorselaw29.EgressAll'. -/
def egressAllCard : Claim7 := { stood := { row := egressAllRow, standIns := [], harness := (true, "c35a5c28d946b5540b85bcd9c44cfbbf9055a9843b87d9041ea6fbe2147c76a5"), looks := false }, kinds := [], alts := [], laidByText := true, laidKinds := [.widerDeep], laidTests := true, laidLooks := .later }
def EgressAllCardSaid : Prop := Claim7.holds Tryd.pinned (.plain (OpenSpec.ofChange egressAllSpec)) egressAllCard

/-- THE TIED CARD OF 'packhorselaw29.EgressOrder'. -/
def egressOrderCard : Claim7 := { stood := { row := egressOrderRow, standIns := [], harness := (true, "c35a5c28d946b5540b85bcd9c44cfbbf9055a9843b87d9041ea6fbe2147c76a5"), looks := false }, kinds := [], alts := [], laidByText := true, laidKinds := [.widerDeep], laidTests := true, laidLooks := .later }
def EgressOrderCardSaid : Prop := Claim7.holds Tryd.pinned (.plain (OpenSpec.ofChange egressOrderSpec)) egressOrderCard

/-- THE TIED CARD OF 'packhorselaw29.EgressStates'. -/
def egressStatesCard : Claim7 := { stood := { row := egressStatesRow, standIns := [], harness := (true, "c35a5c28d946b5540b85bcd9c44cfbbf9055a9843b87d9041ea6fbe2147c76a5"), looks := false }, kinds := [], alts := [], laidByText := true, laidKinds := [.widerDeep], laidTests := true, laidLooks := .later }
def EgressStatesCardSaid : Prop := Claim7.holds Tryd.pinned (.plain (OpenSpec.ofChange egressStatesSpec)) egressStatesCard

/-- THE TIED CARD OF 'packhorselaw29.EgressWithin'. -/
def egressWithinCard : Claim7 := { stood := { row := egressWithinRow, standIns := [], harness := (true, "c35a5c28d946b5540b85bcd9c44cfbbf9055a9843b87d9041ea6fbe2147c76a5"), looks := false }, kinds := [], alts := [], laidByText := true, laidKinds := [.widerDeep], laidTests := true, laidLooks := .later }
def EgressWithinCardSaid : Prop := Claim7.holds Tryd.pinned (.plain (OpenSpec.ofChange egressWithinSpec)) egressWithinCard

/-- THE TIED CARD OF 'packhorselaw29.EgressKnown'. -/
def egressKnownCard : Claim7 := { stood := { row := egressKnownRow, standIns := [], harness := (true, "c35a5c28d946b5540b85bcd9c44cfbbf9055a9843b87d9041ea6fbe2147c76a5"), looks := false }, kinds := [], alts := [], laidByText := true, laidKinds := [.widerDeep], laidTests := true, laidLooks := .later }
def EgressKnownCardSaid : Prop := Claim7.holds Tryd.pinned (.plain (OpenSpec.ofChange egressKnownSpec)) egressKnownCard

/-- THE TIED CARD OF 'packhorselaw29.EgressPassed'. -/
def egressPassedCard : Claim7 := { stood := { row := egressPassedRow, standIns := [], harness := (true, "c35a5c28d946b5540b85bcd9c44cfbbf9055a9843b87d9041ea6fbe2147c76a5"), looks := false }, kinds := [], alts := [], laidByText := true, laidKinds := [.widerDeep], laidTests := true, laidLooks := .later }
def EgressPassedCardSaid : Prop := Claim7.holds Tryd.pinned (.plain (OpenSpec.ofChange egressPassedSpec)) egressPassedCard

/-- THE TIED CARD OF 'packhorselaw29.EgressChooses'. -/
def egressChoosesCard : Claim7 := { stood := { row := egressChoosesRow, standIns := [], harness := (true, "c35a5c28d946b5540b85bcd9c44cfbbf9055a9843b87d9041ea6fbe2147c76a5"), looks := false }, kinds := [], alts := [], laidByText := true, laidKinds := [.widerDeep], laidTests := true, laidLooks := .later }
def EgressChoosesCardSaid : Prop := Claim7.holds Tryd.pinned (.plain (OpenSpec.ofChange egressChoosesSpec)) egressChoosesCard

/-- THE SECOND FORM's CARD OF 'packhorselaw29.EgressAll'. -/
def egressAllUptoCard : Claim7 := { stood := { row := egressAllUptoRow, standIns := [], harness := (true, "c35a5c28d946b5540b85bcd9c44cfbbf9055a9843b87d9041ea6fbe2147c76a5"), looks := false }, kinds := [], alts := [], laidByText := true, laidKinds := [.widerDeep], laidTests := true, laidLooks := .later }
def EgressAllUptoCardSaid : Prop := Claim7.holds Tryd.pinned (.plain (OpenSpec.upto egressAllSpec)) egressAllUptoCard

/-- THE SECOND FORM's CARD OF 'packhorselaw29.EgressOrder'. -/
def egressOrderUptoCard : Claim7 := { stood := { row := egressOrderUptoRow, standIns := [], harness := (true, "c35a5c28d946b5540b85bcd9c44cfbbf9055a9843b87d9041ea6fbe2147c76a5"), looks := false }, kinds := [], alts := [], laidByText := true, laidKinds := [.widerDeep], laidTests := true, laidLooks := .later }
def EgressOrderUptoCardSaid : Prop := Claim7.holds Tryd.pinned (.plain (OpenSpec.upto egressOrderSpec)) egressOrderUptoCard

/-- THE SECOND FORM's CARD OF 'packhorselaw29.EgressStates'. -/
def egressStatesUptoCard : Claim7 := { stood := { row := egressStatesUptoRow, standIns := [], harness := (true, "c35a5c28d946b5540b85bcd9c44cfbbf9055a9843b87d9041ea6fbe2147c76a5"), looks := false }, kinds := [], alts := [], laidByText := true, laidKinds := [.widerDeep], laidTests := true, laidLooks := .later }
def EgressStatesUptoCardSaid : Prop := Claim7.holds Tryd.pinned (.plain (OpenSpec.upto egressStatesSpec)) egressStatesUptoCard

/-- THE SECOND FORM's CARD OF 'packhorselaw29.EgressWithin'. -/
def egressWithinUptoCard : Claim7 := { stood := { row := egressWithinUptoRow, standIns := [], harness := (true, "c35a5c28d946b5540b85bcd9c44cfbbf9055a9843b87d9041ea6fbe2147c76a5"), looks := false }, kinds := [], alts := [], laidByText := true, laidKinds := [.widerDeep], laidTests := true, laidLooks := .later }
def EgressWithinUptoCardSaid : Prop := Claim7.holds Tryd.pinned (.plain (OpenSpec.upto egressWithinSpec)) egressWithinUptoCard

/-- THE SECOND FORM's CARD OF 'packhorselaw29.EgressKnown'. -/
def egressKnownUptoCard : Claim7 := { stood := { row := egressKnownUptoRow, standIns := [], harness := (true, "c35a5c28d946b5540b85bcd9c44cfbbf9055a9843b87d9041ea6fbe2147c76a5"), looks := false }, kinds := [], alts := [], laidByText := true, laidKinds := [.widerDeep], laidTests := true, laidLooks := .later }
def EgressKnownUptoCardSaid : Prop := Claim7.holds Tryd.pinned (.plain (OpenSpec.upto egressKnownSpec)) egressKnownUptoCard

/-- THE SECOND FORM's CARD OF 'packhorselaw29.EgressPassed'. -/
def egressPassedUptoCard : Claim7 := { stood := { row := egressPassedUptoRow, standIns := [], harness := (true, "c35a5c28d946b5540b85bcd9c44cfbbf9055a9843b87d9041ea6fbe2147c76a5"), looks := false }, kinds := [], alts := [], laidByText := true, laidKinds := [.widerDeep], laidTests := true, laidLooks := .later }
def EgressPassedUptoCardSaid : Prop := Claim7.holds Tryd.pinned (.plain (OpenSpec.upto egressPassedSpec)) egressPassedUptoCard

/-- THE SECOND FORM's CARD OF 'packhorselaw29.EgressChooses'. -/
def egressChoosesUptoCard : Claim7 := { stood := { row := egressChoosesUptoRow, standIns := [], harness := (true, "c35a5c28d946b5540b85bcd9c44cfbbf9055a9843b87d9041ea6fbe2147c76a5"), looks := false }, kinds := [], alts := [], laidByText := true, laidKinds := [.widerDeep], laidTests := true, laidLooks := .later }
def EgressChoosesUptoCardSaid : Prop := Claim7.holds Tryd.pinned (.plain (OpenSpec.upto egressChoosesSpec)) egressChoosesUptoCard
end Rows
end Go.Proofs.YtkaehoihpgelnaaDoor
