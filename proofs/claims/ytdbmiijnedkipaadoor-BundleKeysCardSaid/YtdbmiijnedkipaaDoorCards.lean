/-
  DERIVED. GIVEN WITH THE SEED: THE CARDS: each row of YtdbmiijnedkipaaDoorRows.lean that lists a variable, with what it lists TIED to the program's text (the seventh form; the later family's looks); each row that meets fmt, with fmt's text TOLD by the authors' own Lean function (tested against real Go, not proved from fmt's source: count such statements apart). THE CARD IS WHAT COUNTS. Prove the row's statement (the work); the ties are given (YtdbmiijnedkipaaDoorTie.lean); close each card by the builder's one call (the guide's Derived/Test/ToyasCard.lean, 'card_holds'). Laid BY PROGRAM, IN A SANDBOX (cutbox-door.mjs). By AI agents, Wed Nov 11 2026. No macro, syntax, notation, axiom, sorry.
-/
import Derived.Test.YtdbmiijnedkipaaDoorRows
import GoSem.ClaimSeven
namespace Go.Proofs.YtdbmiijnedkipaaDoor
namespace Rows

/-- THE TIED CARD OF 'packhorselaw06.BundleChecks'. -/
def bundleChecksCard : Claim7 := { stood := { row := bundleChecksRow, standIns := [], harness := (true, "4b1ef997b3caab8d850ac2758c5e1e70c95467ac56991cc678dde05f6e6e4e03"), looks := false }, kinds := [], alts := [], laidByText := true, laidKinds := [.data, .data, .data], laidTests := true, laidLooks := .later }
def BundleChecksCardSaid : Prop := Claim7.holds Tryd.pinned (.plain (OpenSpec.ofChange bundleChecksSpec)) bundleChecksCard

/-- THE TIED CARD OF 'packhorselaw06.BundleTicks'. -/
def bundleTicksCard : Claim7 := { stood := { row := bundleTicksRow, standIns := [], harness := (true, "4b1ef997b3caab8d850ac2758c5e1e70c95467ac56991cc678dde05f6e6e4e03"), looks := false }, kinds := [], alts := [], laidByText := true, laidKinds := [.data, .data, .data], laidTests := true, laidLooks := .later }
def BundleTicksCardSaid : Prop := Claim7.holds Tryd.pinned (.plain (OpenSpec.ofChange bundleTicksSpec)) bundleTicksCard

/-- THE TIED CARD OF 'packhorselaw06.BundleChain'. -/
def bundleChainCard : Claim7 := { stood := { row := bundleChainRow, standIns := [], harness := (true, "4b1ef997b3caab8d850ac2758c5e1e70c95467ac56991cc678dde05f6e6e4e03"), looks := false }, kinds := [], alts := [], laidByText := true, laidKinds := [.data, .data, .data], laidTests := true, laidLooks := .later }
def BundleChainCardSaid : Prop := Claim7.holds Tryd.pinned (.plain (OpenSpec.ofChange bundleChainSpec)) bundleChainCard

/-- THE TIED CARD OF 'packhorselaw06.BundleOrders'. -/
def bundleOrdersCard : Claim7 := { stood := { row := bundleOrdersRow, standIns := [], harness := (true, "4b1ef997b3caab8d850ac2758c5e1e70c95467ac56991cc678dde05f6e6e4e03"), looks := false }, kinds := [], alts := [], laidByText := true, laidKinds := [.data, .data, .data], laidTests := true, laidLooks := .later }
def BundleOrdersCardSaid : Prop := Claim7.holds Tryd.pinned (.plain (OpenSpec.ofChange bundleOrdersSpec)) bundleOrdersCard

/-- THE TIED CARD OF 'packhorselaw06.BundleKeys'. -/
def bundleKeysCard : Claim7 := { stood := { row := bundleKeysRow, standIns := [], harness := (true, "4b1ef997b3caab8d850ac2758c5e1e70c95467ac56991cc678dde05f6e6e4e03"), looks := false }, kinds := [], alts := [], laidByText := true, laidKinds := [.data, .data, .data], laidTests := true, laidLooks := .later }
def BundleKeysCardSaid : Prop := Claim7.holds Tryd.pinned (.plain (OpenSpec.ofChange bundleKeysSpec)) bundleKeysCard

/-- THE TIED CARD OF 'packhorselaw06.BundleRead'. -/
def bundleReadCard : Claim7 := { stood := { row := bundleReadRow, standIns := [], harness := (true, "4b1ef997b3caab8d850ac2758c5e1e70c95467ac56991cc678dde05f6e6e4e03"), looks := false }, kinds := [], alts := [], laidByText := true, laidKinds := [.data, .data, .data], laidTests := true, laidLooks := .later }
def BundleReadCardSaid : Prop := Claim7.holds Tryd.pinned (.plain (OpenSpec.ofChange bundleReadSpec)) bundleReadCard

/-- THE TIED CARD OF 'packhorselaw06.BundleKnown'. -/
def bundleKnownCard : Claim7 := { stood := { row := bundleKnownRow, standIns := [], harness := (true, "4b1ef997b3caab8d850ac2758c5e1e70c95467ac56991cc678dde05f6e6e4e03"), looks := false }, kinds := [], alts := [], laidByText := true, laidKinds := [.data, .data, .data], laidTests := true, laidLooks := .later }
def BundleKnownCardSaid : Prop := Claim7.holds Tryd.pinned (.plain (OpenSpec.ofChange bundleKnownSpec)) bundleKnownCard

/-- THE TIED CARD OF 'packhorselaw06.BundleSorts'. -/
def bundleSortsCard : Claim7 := { stood := { row := bundleSortsRow, standIns := [], harness := (true, "4b1ef997b3caab8d850ac2758c5e1e70c95467ac56991cc678dde05f6e6e4e03"), looks := false }, kinds := [], alts := [], laidByText := true, laidKinds := [.data, .data, .data], laidTests := true, laidLooks := .later }
def BundleSortsCardSaid : Prop := Claim7.holds Tryd.pinned (.plain (OpenSpec.ofChange bundleSortsSpec)) bundleSortsCard

/-- THE TIED CARD OF 'packhorselaw06.BundleSorted'. -/
def bundleSortedCard : Claim7 := { stood := { row := bundleSortedRow, standIns := [], harness := (true, "4b1ef997b3caab8d850ac2758c5e1e70c95467ac56991cc678dde05f6e6e4e03"), looks := false }, kinds := [], alts := [], laidByText := true, laidKinds := [.data, .data, .data], laidTests := true, laidLooks := .later }
def BundleSortedCardSaid : Prop := Claim7.holds Tryd.pinned (.plain (OpenSpec.ofChange bundleSortedSpec)) bundleSortedCard

/-- THE SECOND FORM's CARD OF 'packhorselaw06.BundleChecks'. -/
def bundleChecksUptoCard : Claim7 := { stood := { row := bundleChecksUptoRow, standIns := [], harness := (true, "4b1ef997b3caab8d850ac2758c5e1e70c95467ac56991cc678dde05f6e6e4e03"), looks := false }, kinds := [], alts := [], laidByText := true, laidKinds := [.data, .data, .data], laidTests := true, laidLooks := .later }
def BundleChecksUptoCardSaid : Prop := Claim7.holds Tryd.pinned (.plain (OpenSpec.upto bundleChecksSpec)) bundleChecksUptoCard

/-- THE SECOND FORM's CARD OF 'packhorselaw06.BundleTicks'. -/
def bundleTicksUptoCard : Claim7 := { stood := { row := bundleTicksUptoRow, standIns := [], harness := (true, "4b1ef997b3caab8d850ac2758c5e1e70c95467ac56991cc678dde05f6e6e4e03"), looks := false }, kinds := [], alts := [], laidByText := true, laidKinds := [.data, .data, .data], laidTests := true, laidLooks := .later }
def BundleTicksUptoCardSaid : Prop := Claim7.holds Tryd.pinned (.plain (OpenSpec.upto bundleTicksSpec)) bundleTicksUptoCard

/-- THE SECOND FORM's CARD OF 'packhorselaw06.BundleChain'. -/
def bundleChainUptoCard : Claim7 := { stood := { row := bundleChainUptoRow, standIns := [], harness := (true, "4b1ef997b3caab8d850ac2758c5e1e70c95467ac56991cc678dde05f6e6e4e03"), looks := false }, kinds := [], alts := [], laidByText := true, laidKinds := [.data, .data, .data], laidTests := true, laidLooks := .later }
def BundleChainUptoCardSaid : Prop := Claim7.holds Tryd.pinned (.plain (OpenSpec.upto bundleChainSpec)) bundleChainUptoCard

/-- THE SECOND FORM's CARD OF 'packhorselaw06.BundleOrders'. -/
def bundleOrdersUptoCard : Claim7 := { stood := { row := bundleOrdersUptoRow, standIns := [], harness := (true, "4b1ef997b3caab8d850ac2758c5e1e70c95467ac56991cc678dde05f6e6e4e03"), looks := false }, kinds := [], alts := [], laidByText := true, laidKinds := [.data, .data, .data], laidTests := true, laidLooks := .later }
def BundleOrdersUptoCardSaid : Prop := Claim7.holds Tryd.pinned (.plain (OpenSpec.upto bundleOrdersSpec)) bundleOrdersUptoCard

/-- THE SECOND FORM's CARD OF 'packhorselaw06.BundleKeys'. -/
def bundleKeysUptoCard : Claim7 := { stood := { row := bundleKeysUptoRow, standIns := [], harness := (true, "4b1ef997b3caab8d850ac2758c5e1e70c95467ac56991cc678dde05f6e6e4e03"), looks := false }, kinds := [], alts := [], laidByText := true, laidKinds := [.data, .data, .data], laidTests := true, laidLooks := .later }
def BundleKeysUptoCardSaid : Prop := Claim7.holds Tryd.pinned (.plain (OpenSpec.upto bundleKeysSpec)) bundleKeysUptoCard

/-- THE SECOND FORM's CARD OF 'packhorselaw06.BundleRead'. -/
def bundleReadUptoCard : Claim7 := { stood := { row := bundleReadUptoRow, standIns := [], harness := (true, "4b1ef997b3caab8d850ac2758c5e1e70c95467ac56991cc678dde05f6e6e4e03"), looks := false }, kinds := [], alts := [], laidByText := true, laidKinds := [.data, .data, .data], laidTests := true, laidLooks := .later }
def BundleReadUptoCardSaid : Prop := Claim7.holds Tryd.pinned (.plain (OpenSpec.upto bundleReadSpec)) bundleReadUptoCard

/-- THE SECOND FORM's CARD OF 'packhorselaw06.BundleKnown'. -/
def bundleKnownUptoCard : Claim7 := { stood := { row := bundleKnownUptoRow, standIns := [], harness := (true, "4b1ef997b3caab8d850ac2758c5e1e70c95467ac56991cc678dde05f6e6e4e03"), looks := false }, kinds := [], alts := [], laidByText := true, laidKinds := [.data, .data, .data], laidTests := true, laidLooks := .later }
def BundleKnownUptoCardSaid : Prop := Claim7.holds Tryd.pinned (.plain (OpenSpec.upto bundleKnownSpec)) bundleKnownUptoCard

/-- THE SECOND FORM's CARD OF 'packhorselaw06.BundleSorts'. -/
def bundleSortsUptoCard : Claim7 := { stood := { row := bundleSortsUptoRow, standIns := [], harness := (true, "4b1ef997b3caab8d850ac2758c5e1e70c95467ac56991cc678dde05f6e6e4e03"), looks := false }, kinds := [], alts := [], laidByText := true, laidKinds := [.data, .data, .data], laidTests := true, laidLooks := .later }
def BundleSortsUptoCardSaid : Prop := Claim7.holds Tryd.pinned (.plain (OpenSpec.upto bundleSortsSpec)) bundleSortsUptoCard

/-- THE SECOND FORM's CARD OF 'packhorselaw06.BundleSorted'. -/
def bundleSortedUptoCard : Claim7 := { stood := { row := bundleSortedUptoRow, standIns := [], harness := (true, "4b1ef997b3caab8d850ac2758c5e1e70c95467ac56991cc678dde05f6e6e4e03"), looks := false }, kinds := [], alts := [], laidByText := true, laidKinds := [.data, .data, .data], laidTests := true, laidLooks := .later }
def BundleSortedUptoCardSaid : Prop := Claim7.holds Tryd.pinned (.plain (OpenSpec.upto bundleSortedSpec)) bundleSortedUptoCard
end Rows
end Go.Proofs.YtdbmiijnedkipaaDoor
