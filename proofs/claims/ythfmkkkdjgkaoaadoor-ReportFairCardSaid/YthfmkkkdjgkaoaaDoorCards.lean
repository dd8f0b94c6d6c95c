/-
  DERIVED. GIVEN WITH THE SEED: THE CARDS: each row of YthfmkkkdjgkaoaaDoorRows.lean that lists a variable, with what it lists TIED to the program's text (the seventh form; the later family's looks); each row that meets fmt, with fmt's text TOLD by the authors' own Lean function (tested against real Go, not proved from fmt's source: count such statements apart). THE CARD IS WHAT COUNTS. Prove the row's statement (the work); the ties are given (YthfmkkkdjgkaoaaDoorTie.lean); close each card by the builder's one call (the guide's Derived/Test/ToyasCard.lean, 'card_holds'). Laid BY PROGRAM, IN A SANDBOX (cutbox-door.mjs). By AI agents, Wed Nov 11 2026. No macro, syntax, notation, axiom, sorry.
-/
import Derived.Test.YthfmkkkdjgkaoaaDoorRows
import GoSem.ClaimSeven
namespace Go.Proofs.YthfmkkkdjgkaoaaDoor
namespace Rows

/-- THE TIED CARD OF 'packhorselaw43.ReportCounts'. -/
def reportCountsCard : Claim7 := { stood := { row := reportCountsRow, standIns := [], harness := (true, "eaa1f14e8231628672c9e766cfca519aedbc0ace02ce98685a6e3516a4f73543"), looks := false }, kinds := [], alts := [], laidByText := true, laidKinds := [.widerDeep, .widerDeep], laidTests := true, laidLooks := .later }
def ReportCountsCardSaid : Prop := Claim7.holds Tryd.pinned (.plain (OpenSpec.ofChange reportCountsSpec)) reportCountsCard

/-- THE TIED CARD OF 'packhorselaw43.ReportKnown'. -/
def reportKnownCard : Claim7 := { stood := { row := reportKnownRow, standIns := [], harness := (true, "eaa1f14e8231628672c9e766cfca519aedbc0ace02ce98685a6e3516a4f73543"), looks := false }, kinds := [], alts := [], laidByText := true, laidKinds := [.data, .data, .data, .widerDeep, .widerDeep], laidTests := true, laidLooks := .later }
def ReportKnownCardSaid : Prop := Claim7.holds Tryd.pinned (.plain (OpenSpec.ofChange reportKnownSpec)) reportKnownCard

/-- THE TIED CARD OF 'packhorselaw43.ReportSums'. -/
def reportSumsCard : Claim7 := { stood := { row := reportSumsRow, standIns := [], harness := (true, "eaa1f14e8231628672c9e766cfca519aedbc0ace02ce98685a6e3516a4f73543"), looks := false }, kinds := [], alts := [], laidByText := true, laidKinds := [.data, .data, .data, .widerDeep, .widerDeep], laidTests := true, laidLooks := .later }
def ReportSumsCardSaid : Prop := Claim7.holds Tryd.pinned (.plain (OpenSpec.ofChange reportSumsSpec)) reportSumsCard

/-- THE TIED CARD OF 'packhorselaw43.ReportFair'. -/
def reportFairCard : Claim7 := { stood := { row := reportFairRow, standIns := [], harness := (true, "eaa1f14e8231628672c9e766cfca519aedbc0ace02ce98685a6e3516a4f73543"), looks := false }, kinds := [], alts := [], laidByText := true, laidKinds := [.data, .data, .data, .widerDeep, .widerDeep], laidTests := true, laidLooks := .later }
def ReportFairCardSaid : Prop := Claim7.holds Tryd.pinned (.plain (OpenSpec.ofChange reportFairSpec)) reportFairCard

/-- THE SECOND FORM's CARD OF 'packhorselaw43.ReportCounts'. -/
def reportCountsUptoCard : Claim7 := { stood := { row := reportCountsUptoRow, standIns := [], harness := (true, "eaa1f14e8231628672c9e766cfca519aedbc0ace02ce98685a6e3516a4f73543"), looks := false }, kinds := [], alts := [], laidByText := true, laidKinds := [.widerDeep, .widerDeep], laidTests := true, laidLooks := .later }
def ReportCountsUptoCardSaid : Prop := Claim7.holds Tryd.pinned (.plain (OpenSpec.upto reportCountsSpec)) reportCountsUptoCard

/-- THE SECOND FORM's CARD OF 'packhorselaw43.ReportKnown'. -/
def reportKnownUptoCard : Claim7 := { stood := { row := reportKnownUptoRow, standIns := [], harness := (true, "eaa1f14e8231628672c9e766cfca519aedbc0ace02ce98685a6e3516a4f73543"), looks := false }, kinds := [], alts := [], laidByText := true, laidKinds := [.data, .data, .data, .widerDeep, .widerDeep], laidTests := true, laidLooks := .later }
def ReportKnownUptoCardSaid : Prop := Claim7.holds Tryd.pinned (.plain (OpenSpec.upto reportKnownSpec)) reportKnownUptoCard

/-- THE SECOND FORM's CARD OF 'packhorselaw43.ReportSums'. -/
def reportSumsUptoCard : Claim7 := { stood := { row := reportSumsUptoRow, standIns := [], harness := (true, "eaa1f14e8231628672c9e766cfca519aedbc0ace02ce98685a6e3516a4f73543"), looks := false }, kinds := [], alts := [], laidByText := true, laidKinds := [.data, .data, .data, .widerDeep, .widerDeep], laidTests := true, laidLooks := .later }
def ReportSumsUptoCardSaid : Prop := Claim7.holds Tryd.pinned (.plain (OpenSpec.upto reportSumsSpec)) reportSumsUptoCard

/-- THE SECOND FORM's CARD OF 'packhorselaw43.ReportFair'. -/
def reportFairUptoCard : Claim7 := { stood := { row := reportFairUptoRow, standIns := [], harness := (true, "eaa1f14e8231628672c9e766cfca519aedbc0ace02ce98685a6e3516a4f73543"), looks := false }, kinds := [], alts := [], laidByText := true, laidKinds := [.data, .data, .data, .widerDeep, .widerDeep], laidTests := true, laidLooks := .later }
def ReportFairUptoCardSaid : Prop := Claim7.holds Tryd.pinned (.plain (OpenSpec.upto reportFairSpec)) reportFairUptoCard
end Rows
end Go.Proofs.YthfmkkkdjgkaoaaDoor
