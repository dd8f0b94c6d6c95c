/-
  DERIVED. GIVEN WITH THE SEED: THE CARDS: each row of YtaiofjffoboicaaDoorRows.lean that lists a variable, with what it lists TIED to the program's text (the seventh form; the later family's looks); each row that meets fmt, with fmt's text TOLD by the authors' own Lean function (tested against real Go, not proved from fmt's source: count such statements apart). THE CARD IS WHAT COUNTS. Prove the row's statement (the work); the ties are given (YtaiofjffoboicaaDoorTie.lean); close each card by the builder's one call (the guide's Derived/Test/ToyasCard.lean, 'card_holds'). Laid BY PROGRAM, IN A SANDBOX (cutbox-door.mjs). By AI agents, Wed Nov 11 2026. No macro, syntax, notation, axiom, sorry.
-/
import Derived.Test.YtaiofjffoboicaaDoorRows
import GoSem.ClaimSeven
namespace Go.Proofs.YtaiofjffoboicaaDoor
namespace Rows

/-- THE TIED CARD OF 'packhorselaw09.FrameDecodes'. -/
def frameDecodesCard : Claim7 := { stood := { row := frameDecodesRow, standIns := [], harness := (true, "89d143f9c8f4626cf9c6eec97c8f5adc20e530691981842dbe31765117ec2bf3"), looks := false }, kinds := [], alts := [], laidByText := true, laidKinds := [.data, .widerDeep], laidTests := true, laidLooks := .later }
def FrameDecodesCardSaid : Prop := Claim7.holds Tryd.pinned (.plain (OpenSpec.ofChange frameDecodesSpec)) frameDecodesCard

/-- THE TIED CARD OF 'packhorselaw09.FrameOnly'. -/
def frameOnlyCard : Claim7 := { stood := { row := frameOnlyRow, standIns := [], harness := (true, "89d143f9c8f4626cf9c6eec97c8f5adc20e530691981842dbe31765117ec2bf3"), looks := false }, kinds := [], alts := [], laidByText := true, laidKinds := [.data, .widerDeep], laidTests := true, laidLooks := .later }
def FrameOnlyCardSaid : Prop := Claim7.holds Tryd.pinned (.plain (OpenSpec.ofChange frameOnlySpec)) frameOnlyCard

/-- THE TIED CARD OF 'packhorselaw09.FrameSpoilt'. -/
def frameSpoiltCard : Claim7 := { stood := { row := frameSpoiltRow, standIns := [], harness := (true, "89d143f9c8f4626cf9c6eec97c8f5adc20e530691981842dbe31765117ec2bf3"), looks := false }, kinds := [], alts := [], laidByText := true, laidKinds := [.data, .widerDeep], laidTests := true, laidLooks := .later }
def FrameSpoiltCardSaid : Prop := Claim7.holds Tryd.pinned (.plain (OpenSpec.ofChange frameSpoiltSpec)) frameSpoiltCard

/-- THE TIED CARD OF 'packhorselaw09.FrameBack'. -/
def frameBackCard : Claim7 := { stood := { row := frameBackRow, standIns := [], harness := (true, "89d143f9c8f4626cf9c6eec97c8f5adc20e530691981842dbe31765117ec2bf3"), looks := false }, kinds := [], alts := [], laidByText := true, laidKinds := [.data, .widerDeep], laidTests := true, laidLooks := .later }
def FrameBackCardSaid : Prop := Claim7.holds Tryd.pinned (.plain (OpenSpec.ofChange frameBackSpec)) frameBackCard

/-- THE TIED CARD OF 'packhorselaw09.FrameAnswers'. -/
def frameAnswersCard : Claim7 := { stood := { row := frameAnswersRow, standIns := [], harness := (true, "89d143f9c8f4626cf9c6eec97c8f5adc20e530691981842dbe31765117ec2bf3"), looks := false }, kinds := [], alts := [], laidByText := true, laidKinds := [.data, .widerDeep], laidTests := true, laidLooks := .later }
def FrameAnswersCardSaid : Prop := Claim7.holds Tryd.pinned (.plain (OpenSpec.ofChange frameAnswersSpec)) frameAnswersCard

/-- THE TIED CARD OF 'packhorselaw09.FrameApart'. -/
def frameApartCard : Claim7 := { stood := { row := frameApartRow, standIns := [], harness := (true, "89d143f9c8f4626cf9c6eec97c8f5adc20e530691981842dbe31765117ec2bf3"), looks := false }, kinds := [], alts := [], laidByText := true, laidKinds := [.data, .data, .data, .data, .widerDeep, .listed, .data], laidTests := true, laidLooks := .later }
def FrameApartCardSaid : Prop := Claim7.holds Tryd.pinned (.plain (OpenSpec.ofChange frameApartSpec)) frameApartCard

/-- THE TIED CARD OF 'packhorselaw09.FrameKnown'. -/
def frameKnownCard : Claim7 := { stood := { row := frameKnownRow, standIns := [], harness := (true, "89d143f9c8f4626cf9c6eec97c8f5adc20e530691981842dbe31765117ec2bf3"), looks := false }, kinds := [], alts := [], laidByText := true, laidKinds := [.data, .data, .data, .data, .widerDeep, .listed, .data], laidTests := true, laidLooks := .later }
def FrameKnownCardSaid : Prop := Claim7.holds Tryd.pinned (.plain (OpenSpec.ofChange frameKnownSpec)) frameKnownCard

/-- THE SECOND FORM's CARD OF 'packhorselaw09.FrameDecodes'. -/
def frameDecodesUptoCard : Claim7 := { stood := { row := frameDecodesUptoRow, standIns := [], harness := (true, "89d143f9c8f4626cf9c6eec97c8f5adc20e530691981842dbe31765117ec2bf3"), looks := false }, kinds := [], alts := [], laidByText := true, laidKinds := [.data, .widerDeep], laidTests := true, laidLooks := .later }
def FrameDecodesUptoCardSaid : Prop := Claim7.holds Tryd.pinned (.plain (OpenSpec.upto frameDecodesSpec)) frameDecodesUptoCard

/-- THE SECOND FORM's CARD OF 'packhorselaw09.FrameOnly'. -/
def frameOnlyUptoCard : Claim7 := { stood := { row := frameOnlyUptoRow, standIns := [], harness := (true, "89d143f9c8f4626cf9c6eec97c8f5adc20e530691981842dbe31765117ec2bf3"), looks := false }, kinds := [], alts := [], laidByText := true, laidKinds := [.data, .widerDeep], laidTests := true, laidLooks := .later }
def FrameOnlyUptoCardSaid : Prop := Claim7.holds Tryd.pinned (.plain (OpenSpec.upto frameOnlySpec)) frameOnlyUptoCard

/-- THE SECOND FORM's CARD OF 'packhorselaw09.FrameSpoilt'. -/
def frameSpoiltUptoCard : Claim7 := { stood := { row := frameSpoiltUptoRow, standIns := [], harness := (true, "89d143f9c8f4626cf9c6eec97c8f5adc20e530691981842dbe31765117ec2bf3"), looks := false }, kinds := [], alts := [], laidByText := true, laidKinds := [.data, .widerDeep], laidTests := true, laidLooks := .later }
def FrameSpoiltUptoCardSaid : Prop := Claim7.holds Tryd.pinned (.plain (OpenSpec.upto frameSpoiltSpec)) frameSpoiltUptoCard

/-- THE SECOND FORM's CARD OF 'packhorselaw09.FrameBack'. -/
def frameBackUptoCard : Claim7 := { stood := { row := frameBackUptoRow, standIns := [], harness := (true, "89d143f9c8f4626cf9c6eec97c8f5adc20e530691981842dbe31765117ec2bf3"), looks := false }, kinds := [], alts := [], laidByText := true, laidKinds := [.data, .widerDeep], laidTests := true, laidLooks := .later }
def FrameBackUptoCardSaid : Prop := Claim7.holds Tryd.pinned (.plain (OpenSpec.upto frameBackSpec)) frameBackUptoCard

/-- THE SECOND FORM's CARD OF 'packhorselaw09.FrameAnswers'. -/
def frameAnswersUptoCard : Claim7 := { stood := { row := frameAnswersUptoRow, standIns := [], harness := (true, "89d143f9c8f4626cf9c6eec97c8f5adc20e530691981842dbe31765117ec2bf3"), looks := false }, kinds := [], alts := [], laidByText := true, laidKinds := [.data, .widerDeep], laidTests := true, laidLooks := .later }
def FrameAnswersUptoCardSaid : Prop := Claim7.holds Tryd.pinned (.plain (OpenSpec.upto frameAnswersSpec)) frameAnswersUptoCard

/-- THE SECOND FORM's CARD OF 'packhorselaw09.FrameApart'. -/
def frameApartUptoCard : Claim7 := { stood := { row := frameApartUptoRow, standIns := [], harness := (true, "89d143f9c8f4626cf9c6eec97c8f5adc20e530691981842dbe31765117ec2bf3"), looks := false }, kinds := [], alts := [], laidByText := true, laidKinds := [.data, .data, .data, .data, .widerDeep, .listed, .data], laidTests := true, laidLooks := .later }
def FrameApartUptoCardSaid : Prop := Claim7.holds Tryd.pinned (.plain (OpenSpec.upto frameApartSpec)) frameApartUptoCard

/-- THE SECOND FORM's CARD OF 'packhorselaw09.FrameKnown'. -/
def frameKnownUptoCard : Claim7 := { stood := { row := frameKnownUptoRow, standIns := [], harness := (true, "89d143f9c8f4626cf9c6eec97c8f5adc20e530691981842dbe31765117ec2bf3"), looks := false }, kinds := [], alts := [], laidByText := true, laidKinds := [.data, .data, .data, .data, .widerDeep, .listed, .data], laidTests := true, laidLooks := .later }
def FrameKnownUptoCardSaid : Prop := Claim7.holds Tryd.pinned (.plain (OpenSpec.upto frameKnownSpec)) frameKnownUptoCard
end Rows
end Go.Proofs.YtaiofjffoboicaaDoor
