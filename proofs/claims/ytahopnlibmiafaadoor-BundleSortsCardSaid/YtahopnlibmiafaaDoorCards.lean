/-
  DERIVED. GIVEN WITH THE SEED: THE CARDS: each row of YtahopnlibmiafaaDoorRows.lean that lists a variable, with what it lists TIED to the program's text (the seventh form; the later family's looks); each row that meets fmt, with fmt's text TOLD by the authors' own Lean function (tested against real Go, not proved from fmt's source: count such statements apart). THE CARD IS WHAT COUNTS. Prove the row's statement (the work); the ties are given (YtahopnlibmiafaaDoorTie.lean); close each card by the builder's one call (the guide's Derived/Test/ToyasCard.lean, 'card_holds'). Laid BY PROGRAM, IN A SANDBOX (cutbox-door.mjs). By AI agents, Wed Nov 11 2026. No macro, syntax, notation, axiom, sorry.
-/
import Derived.Test.YtahopnlibmiafaaDoorRows
import GoSem.ClaimSeven
namespace Go.Proofs.YtahopnlibmiafaaDoor
namespace Rows

/-- THE TIED CARD OF 'packhorselaw06.BundleSorts'. -/
def bundleSortsCard : Claim7 := { stood := { row := bundleSortsRow, standIns := [], harness := (true, "60f8f67c8eeec764b47b8ca46da6f93a7c9ed104d6bbd004c3836cea5eb7b7da"), looks := false }, kinds := [], alts := [], laidByText := true, laidKinds := [.data, .data, .data], laidTests := true, laidLooks := .later }
def BundleSortsCardSaid : Prop := Claim7.holds Tryd.pinned (.plain (OpenSpec.ofChange bundleSortsSpec)) bundleSortsCard

/-- THE TIED CARD OF 'packhorselaw06.BundleSorted'. -/
def bundleSortedCard : Claim7 := { stood := { row := bundleSortedRow, standIns := [], harness := (true, "60f8f67c8eeec764b47b8ca46da6f93a7c9ed104d6bbd004c3836cea5eb7b7da"), looks := false }, kinds := [], alts := [], laidByText := true, laidKinds := [.data, .data, .data], laidTests := true, laidLooks := .later }
def BundleSortedCardSaid : Prop := Claim7.holds Tryd.pinned (.plain (OpenSpec.ofChange bundleSortedSpec)) bundleSortedCard

/-- THE TIED CARD OF 'packhorselaw15.StoreLists'. -/
def storeListsCard : Claim7 := { stood := { row := storeListsRow, standIns := [], harness := (true, "60f8f67c8eeec764b47b8ca46da6f93a7c9ed104d6bbd004c3836cea5eb7b7da"), looks := false }, kinds := [], alts := [], laidByText := true, laidKinds := [.widerDeep], laidTests := true, laidLooks := .later }
def StoreListsCardSaid : Prop := Claim7.holds Tryd.pinned (.plain (OpenSpec.ofChange storeListsSpec)) storeListsCard

/-- THE TIED CARD OF 'packhorselaw15.StoreAdds'. -/
def storeAddsCard : Claim7 := { stood := { row := storeAddsRow, standIns := [], harness := (true, "60f8f67c8eeec764b47b8ca46da6f93a7c9ed104d6bbd004c3836cea5eb7b7da"), looks := false }, kinds := [], alts := [], laidByText := true, laidKinds := [.widerDeep], laidTests := true, laidLooks := .later }
def StoreAddsCardSaid : Prop := Claim7.holds Tryd.pinned (.plain (OpenSpec.ofChange storeAddsSpec)) storeAddsCard

/-- THE TIED CARD OF 'packhorselaw15.StoreOffers'. -/
def storeOffersCard : Claim7 := { stood := { row := storeOffersRow, standIns := [], harness := (true, "60f8f67c8eeec764b47b8ca46da6f93a7c9ed104d6bbd004c3836cea5eb7b7da"), looks := false }, kinds := [], alts := [], laidByText := true, laidKinds := [.widerDeep], laidTests := true, laidLooks := .later }
def StoreOffersCardSaid : Prop := Claim7.holds Tryd.pinned (.plain (OpenSpec.ofChange storeOffersSpec)) storeOffersCard

/-- THE TIED CARD OF 'packhorselaw15.StoreKnown'. -/
def storeKnownCard : Claim7 := { stood := { row := storeKnownRow, standIns := [], harness := (true, "60f8f67c8eeec764b47b8ca46da6f93a7c9ed104d6bbd004c3836cea5eb7b7da"), looks := false }, kinds := [], alts := [], laidByText := true, laidKinds := [.widerDeep], laidTests := true, laidLooks := .later }
def StoreKnownCardSaid : Prop := Claim7.holds Tryd.pinned (.plain (OpenSpec.ofChange storeKnownSpec)) storeKnownCard

/-- THE TIED CARD OF 'packhorselaw15.StoreDrops'. -/
def storeDropsCard : Claim7 := { stood := { row := storeDropsRow, standIns := [], harness := (true, "60f8f67c8eeec764b47b8ca46da6f93a7c9ed104d6bbd004c3836cea5eb7b7da"), looks := false }, kinds := [], alts := [], laidByText := true, laidKinds := [.widerDeep], laidTests := true, laidLooks := .later }
def StoreDropsCardSaid : Prop := Claim7.holds Tryd.pinned (.plain (OpenSpec.ofChange storeDropsSpec)) storeDropsCard

/-- THE TIED CARD OF 'packhorselaw15.StoreBacks'. -/
def storeBacksCard : Claim7 := { stood := { row := storeBacksRow, standIns := [], harness := (true, "60f8f67c8eeec764b47b8ca46da6f93a7c9ed104d6bbd004c3836cea5eb7b7da"), looks := false }, kinds := [], alts := [], laidByText := true, laidKinds := [.widerDeep], laidTests := true, laidLooks := .later }
def StoreBacksCardSaid : Prop := Claim7.holds Tryd.pinned (.plain (OpenSpec.ofChange storeBacksSpec)) storeBacksCard

/-- THE TIED CARD OF 'packhorselaw15.StoreFor'. -/
def storeForCard : Claim7 := { stood := { row := storeForRow, standIns := [], harness := (true, "60f8f67c8eeec764b47b8ca46da6f93a7c9ed104d6bbd004c3836cea5eb7b7da"), looks := false }, kinds := [], alts := [], laidByText := true, laidKinds := [.widerDeep], laidTests := true, laidLooks := .later }
def StoreForCardSaid : Prop := Claim7.holds Tryd.pinned (.plain (OpenSpec.ofChange storeForSpec)) storeForCard

/-- THE SECOND FORM's CARD OF 'packhorselaw06.BundleSorts'. -/
def bundleSortsUptoCard : Claim7 := { stood := { row := bundleSortsUptoRow, standIns := [], harness := (true, "60f8f67c8eeec764b47b8ca46da6f93a7c9ed104d6bbd004c3836cea5eb7b7da"), looks := false }, kinds := [], alts := [], laidByText := true, laidKinds := [.data, .data, .data], laidTests := true, laidLooks := .later }
def BundleSortsUptoCardSaid : Prop := Claim7.holds Tryd.pinned (.plain (OpenSpec.upto bundleSortsSpec)) bundleSortsUptoCard

/-- THE SECOND FORM's CARD OF 'packhorselaw06.BundleSorted'. -/
def bundleSortedUptoCard : Claim7 := { stood := { row := bundleSortedUptoRow, standIns := [], harness := (true, "60f8f67c8eeec764b47b8ca46da6f93a7c9ed104d6bbd004c3836cea5eb7b7da"), looks := false }, kinds := [], alts := [], laidByText := true, laidKinds := [.data, .data, .data], laidTests := true, laidLooks := .later }
def BundleSortedUptoCardSaid : Prop := Claim7.holds Tryd.pinned (.plain (OpenSpec.upto bundleSortedSpec)) bundleSortedUptoCard

/-- THE SECOND FORM's CARD OF 'packhorselaw15.StoreLists'. -/
def storeListsUptoCard : Claim7 := { stood := { row := storeListsUptoRow, standIns := [], harness := (true, "60f8f67c8eeec764b47b8ca46da6f93a7c9ed104d6bbd004c3836cea5eb7b7da"), looks := false }, kinds := [], alts := [], laidByText := true, laidKinds := [.widerDeep], laidTests := true, laidLooks := .later }
def StoreListsUptoCardSaid : Prop := Claim7.holds Tryd.pinned (.plain (OpenSpec.upto storeListsSpec)) storeListsUptoCard

/-- THE SECOND FORM's CARD OF 'packhorselaw15.StoreAdds'. -/
def storeAddsUptoCard : Claim7 := { stood := { row := storeAddsUptoRow, standIns := [], harness := (true, "60f8f67c8eeec764b47b8ca46da6f93a7c9ed104d6bbd004c3836cea5eb7b7da"), looks := false }, kinds := [], alts := [], laidByText := true, laidKinds := [.widerDeep], laidTests := true, laidLooks := .later }
def StoreAddsUptoCardSaid : Prop := Claim7.holds Tryd.pinned (.plain (OpenSpec.upto storeAddsSpec)) storeAddsUptoCard

/-- THE SECOND FORM's CARD OF 'packhorselaw15.StoreOffers'. -/
def storeOffersUptoCard : Claim7 := { stood := { row := storeOffersUptoRow, standIns := [], harness := (true, "60f8f67c8eeec764b47b8ca46da6f93a7c9ed104d6bbd004c3836cea5eb7b7da"), looks := false }, kinds := [], alts := [], laidByText := true, laidKinds := [.widerDeep], laidTests := true, laidLooks := .later }
def StoreOffersUptoCardSaid : Prop := Claim7.holds Tryd.pinned (.plain (OpenSpec.upto storeOffersSpec)) storeOffersUptoCard

/-- THE SECOND FORM's CARD OF 'packhorselaw15.StoreKnown'. -/
def storeKnownUptoCard : Claim7 := { stood := { row := storeKnownUptoRow, standIns := [], harness := (true, "60f8f67c8eeec764b47b8ca46da6f93a7c9ed104d6bbd004c3836cea5eb7b7da"), looks := false }, kinds := [], alts := [], laidByText := true, laidKinds := [.widerDeep], laidTests := true, laidLooks := .later }
def StoreKnownUptoCardSaid : Prop := Claim7.holds Tryd.pinned (.plain (OpenSpec.upto storeKnownSpec)) storeKnownUptoCard

/-- THE SECOND FORM's CARD OF 'packhorselaw15.StoreDrops'. -/
def storeDropsUptoCard : Claim7 := { stood := { row := storeDropsUptoRow, standIns := [], harness := (true, "60f8f67c8eeec764b47b8ca46da6f93a7c9ed104d6bbd004c3836cea5eb7b7da"), looks := false }, kinds := [], alts := [], laidByText := true, laidKinds := [.widerDeep], laidTests := true, laidLooks := .later }
def StoreDropsUptoCardSaid : Prop := Claim7.holds Tryd.pinned (.plain (OpenSpec.upto storeDropsSpec)) storeDropsUptoCard

/-- THE SECOND FORM's CARD OF 'packhorselaw15.StoreBacks'. -/
def storeBacksUptoCard : Claim7 := { stood := { row := storeBacksUptoRow, standIns := [], harness := (true, "60f8f67c8eeec764b47b8ca46da6f93a7c9ed104d6bbd004c3836cea5eb7b7da"), looks := false }, kinds := [], alts := [], laidByText := true, laidKinds := [.widerDeep], laidTests := true, laidLooks := .later }
def StoreBacksUptoCardSaid : Prop := Claim7.holds Tryd.pinned (.plain (OpenSpec.upto storeBacksSpec)) storeBacksUptoCard

/-- THE SECOND FORM's CARD OF 'packhorselaw15.StoreFor'. -/
def storeForUptoCard : Claim7 := { stood := { row := storeForUptoRow, standIns := [], harness := (true, "60f8f67c8eeec764b47b8ca46da6f93a7c9ed104d6bbd004c3836cea5eb7b7da"), looks := false }, kinds := [], alts := [], laidByText := true, laidKinds := [.widerDeep], laidTests := true, laidLooks := .later }
def StoreForUptoCardSaid : Prop := Claim7.holds Tryd.pinned (.plain (OpenSpec.upto storeForSpec)) storeForUptoCard
end Rows
end Go.Proofs.YtahopnlibmiafaaDoor
