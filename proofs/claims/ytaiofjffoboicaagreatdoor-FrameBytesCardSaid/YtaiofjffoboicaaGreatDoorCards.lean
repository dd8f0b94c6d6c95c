/-
  DERIVED. GIVEN WITH THE SEED: THE CARDS: each row of YtaiofjffoboicaaGreatDoorRows.lean that lists a variable, with what it lists TIED to the program's text (the seventh form; the later family's looks); each row that meets fmt, with fmt's text TOLD by the authors' own Lean function (tested against real Go, not proved from fmt's source: count such statements apart). THE CARD IS WHAT COUNTS. Prove the row's statement (the work); the ties are given (YtaiofjffoboicaaGreatDoorTie.lean); close each card by the builder's one call (the guide's Derived/Test/ToyasCard.lean, 'card_holds'). Laid BY PROGRAM, IN A SANDBOX (cutbox-door.mjs). By AI agents, Wed Nov 11 2026. No macro, syntax, notation, axiom, sorry.
-/
import Derived.Test.YtaiofjffoboicaaGreatDoorRows
import GoSem.ClaimSeven
namespace Go.Proofs.YtaiofjffoboicaaGreatDoor
namespace Rows

/-- THE TIED CARD OF 'packhorselaw09.FrameBytes'. -/
def frameBytesCard : Claim7 := { stood := { row := frameBytesRow, standIns := [], harness := (true, "6a00499f55467c96236e195800c0c8800a8295014df10da1dd1339a7617d109e"), looks := false }, kinds := [], alts := [], laidByText := true, laidKinds := [.data, .data, .data, .data, .widerDeep, .listed, .data], laidTests := true, laidLooks := .later }
def FrameBytesCardSaid : Prop := Claim7.holds Tryz.pinned (.plain (OpenSpec.ofChange frameBytesSpec)) frameBytesCard

/-- THE SECOND FORM's CARD OF 'packhorselaw09.FrameBytes'. -/
def frameBytesUptoCard : Claim7 := { stood := { row := frameBytesUptoRow, standIns := [], harness := (true, "6a00499f55467c96236e195800c0c8800a8295014df10da1dd1339a7617d109e"), looks := false }, kinds := [], alts := [], laidByText := true, laidKinds := [.data, .data, .data, .data, .widerDeep, .listed, .data], laidTests := true, laidLooks := .later }
def FrameBytesUptoCardSaid : Prop := Claim7.holds Tryz.pinned (.plain (OpenSpec.upto frameBytesSpec)) frameBytesUptoCard
end Rows
end Go.Proofs.YtaiofjffoboicaaGreatDoor
