/-
  DERIVED. GIVEN WITH THE SEED: THE CARDS: each row of YthfmkkkdjgkaoaaGreatDoorRows.lean that lists a variable, with what it lists TIED to the program's text (the seventh form; the later family's looks); each row that meets fmt, with fmt's text TOLD by the authors' own Lean function (tested against real Go, not proved from fmt's source: count such statements apart). THE CARD IS WHAT COUNTS. Prove the row's statement (the work); the ties are given (YthfmkkkdjgkaoaaGreatDoorTie.lean); close each card by the builder's one call (the guide's Derived/Test/ToyasCard.lean, 'card_holds'). Laid BY PROGRAM, IN A SANDBOX (cutbox-door.mjs). By AI agents, Wed Nov 11 2026. No macro, syntax, notation, axiom, sorry.
-/
import Derived.Test.YthfmkkkdjgkaoaaGreatDoorRows
import GoSem.ClaimSeven
namespace Go.Proofs.YthfmkkkdjgkaoaaGreatDoor
namespace Rows

/-- THE TIED CARD OF 'packhorselaw43.ReportLoads'. -/
def reportLoadsCard : Claim7 := { stood := { row := reportLoadsRow, standIns := [], harness := (true, "b0de01dc73b3fc6eddf0b90dff0e8c697f2520276679128a580bb93bf5557d0d"), looks := false }, kinds := [], alts := [], laidByText := true, laidKinds := [.data, .data, .data, .widerDeep, .widerDeep], laidTests := true, laidLooks := .later }
def ReportLoadsCardSaid : Prop := Claim7.holds Tryz.pinned (.plain (OpenSpec.ofChange reportLoadsSpec)) reportLoadsCard

/-- THE TIED CARD OF 'packhorselaw43.ReportSteps'. -/
def reportStepsCard : Claim7 := { stood := { row := reportStepsRow, standIns := [], harness := (true, "b0de01dc73b3fc6eddf0b90dff0e8c697f2520276679128a580bb93bf5557d0d"), looks := false }, kinds := [], alts := [], laidByText := true, laidKinds := [.data, .data, .data, .widerDeep, .widerDeep], laidTests := true, laidLooks := .later }
def ReportStepsCardSaid : Prop := Claim7.holds Tryz.pinned (.plain (OpenSpec.ofChange reportStepsSpec)) reportStepsCard

/-- THE SECOND FORM's CARD OF 'packhorselaw43.ReportLoads'. -/
def reportLoadsUptoCard : Claim7 := { stood := { row := reportLoadsUptoRow, standIns := [], harness := (true, "b0de01dc73b3fc6eddf0b90dff0e8c697f2520276679128a580bb93bf5557d0d"), looks := false }, kinds := [], alts := [], laidByText := true, laidKinds := [.data, .data, .data, .widerDeep, .widerDeep], laidTests := true, laidLooks := .later }
def ReportLoadsUptoCardSaid : Prop := Claim7.holds Tryz.pinned (.plain (OpenSpec.upto reportLoadsSpec)) reportLoadsUptoCard

/-- THE SECOND FORM's CARD OF 'packhorselaw43.ReportSteps'. -/
def reportStepsUptoCard : Claim7 := { stood := { row := reportStepsUptoRow, standIns := [], harness := (true, "b0de01dc73b3fc6eddf0b90dff0e8c697f2520276679128a580bb93bf5557d0d"), looks := false }, kinds := [], alts := [], laidByText := true, laidKinds := [.data, .data, .data, .widerDeep, .widerDeep], laidTests := true, laidLooks := .later }
def ReportStepsUptoCardSaid : Prop := Claim7.holds Tryz.pinned (.plain (OpenSpec.upto reportStepsSpec)) reportStepsUptoCard
end Rows
end Go.Proofs.YthfmkkkdjgkaoaaGreatDoor
