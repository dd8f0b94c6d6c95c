/-
  NARROWER THAN 'FOR EVERY INPUT', by the rows' own cells (each row's printed sentence says how): BundleSorts: laid · BundleSorted: laid · StoreLists: laid · StoreAdds: laid · StoreOffers: laid · StoreKnown: laid · StoreDrops: laid · StoreBacks: laid · StoreFor: laid.
  DERIVED. THE GIVEN ROWS OF THIS SEAT. 9 by the template 'for every input the law returns true; each argument reads behind the call as it read before'; 0 by the template 'total and deterministic' (their statements: YtahopnlibmiafaaDoorTotals.lean).
  GIVEN WITH THE SEED: the statements are not yours to turn. If you find one false, say at which input.
  Laid BY PROGRAM, IN A SANDBOX (cutbox-rows.mjs): the forced cells as the released guide's own fill.sh prints them over the translation 682be89489bf2a91… (all of the seat's roots in one cut). By AI agents, Wed Nov 11 2026. No macro, syntax, notation, axiom, sorry.
-/
import Derived.Test.YtahopnlibmiafaaDoorChecked
import GoSem.Claim
import GoSem.ClaimJoined
import GoSem.ClaimMapViews
import Derived.JoinedTies
import Derived.KernelRfl
namespace Go.Proofs.YtahopnlibmiafaaDoor
/- THE CELL 'sum', in the pinned program and in every row, IS THE sha256 OF THE DUMP (.gsa) THAT YtahopnlibmiafaaDoorProg.lean LOADS. Nothing in Lean hashes anything: it is a label: what it is worth is what the hold of that sum in a sandbox is worth. -/
noncomputable def Tryd.pinned : Pinned := { name := "ytahopnlibmiafaadoor", sum := "682be89489bf2a91ee699b1c1f052c1188251a35b3b5156e6d3ccbbe0d21c637", checked := Tryd.checked }
namespace Rows
def none {H : Type} : Left H := { results := [], args := [] }

/- WHAT THE LISTED PACKAGE-LEVEL VARIABLES READ AS WHEN THE CALL BEGINS. Each datum BY PROGRAM (the guide's laid-datum.mjs) off the statement by which the dump's own 'gosem.cut.vars' lays the variable. In a bare row this is a premise. The card (YtahopnlibmiafaaDoorCards.lean) ties it to the program's text. -/
def laid_math_bits_deBruijn32tab {H : Type} : DataW H := .agg [.lit (.int .u8 0), .lit (.int .u8 1), .lit (.int .u8 28), .lit (.int .u8 2), .lit (.int .u8 29), .lit (.int .u8 14), .lit (.int .u8 24), .lit (.int .u8 3), .lit (.int .u8 30), .lit (.int .u8 22), .lit (.int .u8 20), .lit (.int .u8 15), .lit (.int .u8 25), .lit (.int .u8 17), .lit (.int .u8 4), .lit (.int .u8 8), .lit (.int .u8 31), .lit (.int .u8 27), .lit (.int .u8 13), .lit (.int .u8 23), .lit (.int .u8 21), .lit (.int .u8 19), .lit (.int .u8 16), .lit (.int .u8 7), .lit (.int .u8 26), .lit (.int .u8 12), .lit (.int .u8 18), .lit (.int .u8 6), .lit (.int .u8 11), .lit (.int .u8 5), .lit (.int .u8 10), .lit (.int .u8 9)]
def laid_math_bits_deBruijn64tab {H : Type} : DataW H := .agg [.lit (.int .u8 0), .lit (.int .u8 1), .lit (.int .u8 56), .lit (.int .u8 2), .lit (.int .u8 57), .lit (.int .u8 49), .lit (.int .u8 28), .lit (.int .u8 3), .lit (.int .u8 61), .lit (.int .u8 58), .lit (.int .u8 42), .lit (.int .u8 50), .lit (.int .u8 38), .lit (.int .u8 29), .lit (.int .u8 17), .lit (.int .u8 4), .lit (.int .u8 62), .lit (.int .u8 47), .lit (.int .u8 59), .lit (.int .u8 36), .lit (.int .u8 45), .lit (.int .u8 43), .lit (.int .u8 51), .lit (.int .u8 22), .lit (.int .u8 53), .lit (.int .u8 39), .lit (.int .u8 33), .lit (.int .u8 30), .lit (.int .u8 24), .lit (.int .u8 18), .lit (.int .u8 12), .lit (.int .u8 5), .lit (.int .u8 63), .lit (.int .u8 55), .lit (.int .u8 48), .lit (.int .u8 27), .lit (.int .u8 60), .lit (.int .u8 41), .lit (.int .u8 37), .lit (.int .u8 16), .lit (.int .u8 46), .lit (.int .u8 35), .lit (.int .u8 44), .lit (.int .u8 21), .lit (.int .u8 52), .lit (.int .u8 32), .lit (.int .u8 23), .lit (.int .u8 11), .lit (.int .u8 54), .lit (.int .u8 26), .lit (.int .u8 40), .lit (.int .u8 15), .lit (.int .u8 34), .lit (.int .u8 20), .lit (.int .u8 31), .lit (.int .u8 10), .lit (.int .u8 25), .lit (.int .u8 14), .lit (.int .u8 19), .lit (.int .u8 9), .lit (.int .u8 13), .lit (.int .u8 8), .lit (.int .u8 7), .lit (.int .u8 6)]
def laid_internal_strconv_uint64pow10 {H : Type} : DataW H := .agg [.lit (.int .u64 1), .lit (.int .u64 10), .lit (.int .u64 100), .lit (.int .u64 1000), .lit (.int .u64 10000), .lit (.int .u64 100000), .lit (.int .u64 1000000), .lit (.int .u64 10000000), .lit (.int .u64 100000000), .lit (.int .u64 1000000000), .lit (.int .u64 10000000000), .lit (.int .u64 100000000000), .lit (.int .u64 1000000000000), .lit (.int .u64 10000000000000), .lit (.int .u64 100000000000000), .lit (.int .u64 1000000000000000), .lit (.int .u64 10000000000000000), .lit (.int .u64 100000000000000000), .lit (.int .u64 1000000000000000000), .lit (.int .u64 10000000000000000000)]
def laid_packhorse_wire_heads {H : Type} : DataW H := .agg [.lit (.int .u8 176), .lit (.int .u8 177), .lit (.int .u8 178), .lit (.int .u8 180), .lit (.int .u8 181), .lit (.int .u8 182)]

/-- 'packhorselaw06.BundleSorts': WHATEVER THE INPUT: true; the input reads as it did. -/
def bundleSortsSpec : ChangeSpec := { name := "bundleSorts", fn := fun _ => fun
  | [d] => { results := [.lit (.bool true)], args := [d] }
  | _ => none }
def bundleSortsRow : OpenClaim := { program := "ytahopnlibmiafaadoor", sum := "682be89489bf2a91ee699b1c1f052c1188251a35b3b5156e6d3ccbbe0d21c637", func := "packhorse/packhorselaw06.BundleSorts", spec := "bundleSorts", inPlace := ["math/bits.Add64"], unfollowed := true, recurses := true, named := ["internal/strconv.uint64pow10", "math/bits.deBruijn32tab", "math/bits.deBruijn64tab"], plainKeys := false, apart := false, laid := [("math/bits.deBruijn32tab", laid_math_bits_deBruijn32tab), ("math/bits.deBruijn64tab", laid_math_bits_deBruijn64tab), ("internal/strconv.uint64pow10", laid_internal_strconv_uint64pow10)] }
def BundleSortsSaid : Prop := bundleSortsRow.holds Tryd.pinned (OpenSpec.ofChange bundleSortsSpec)

/-- ITS FALSE NEIGHBOUR: 'it returns false'. Refute it at one input. -/
def bundleSortsWrong : ChangeSpec := { name := "bundleSorts", fn := fun _ => fun
  | [d] => { results := [.lit (.bool false)], args := [d] }
  | _ => none }
def BundleSortsWrongFalsely : Prop := bundleSortsRow.holds Tryd.pinned (OpenSpec.ofChange bundleSortsWrong)

/-- 'packhorselaw06.BundleSorted': WHATEVER THE INPUT: true; the input reads as it did. -/
def bundleSortedSpec : ChangeSpec := { name := "bundleSorted", fn := fun _ => fun
  | [d] => { results := [.lit (.bool true)], args := [d] }
  | _ => none }
def bundleSortedRow : OpenClaim := { program := "ytahopnlibmiafaadoor", sum := "682be89489bf2a91ee699b1c1f052c1188251a35b3b5156e6d3ccbbe0d21c637", func := "packhorse/packhorselaw06.BundleSorted", spec := "bundleSorted", inPlace := ["math/bits.Add64"], unfollowed := true, recurses := true, named := ["internal/strconv.uint64pow10", "math/bits.deBruijn32tab", "math/bits.deBruijn64tab"], plainKeys := false, apart := false, laid := [("math/bits.deBruijn32tab", laid_math_bits_deBruijn32tab), ("math/bits.deBruijn64tab", laid_math_bits_deBruijn64tab), ("internal/strconv.uint64pow10", laid_internal_strconv_uint64pow10)] }
def BundleSortedSaid : Prop := bundleSortedRow.holds Tryd.pinned (OpenSpec.ofChange bundleSortedSpec)

/-- ITS FALSE NEIGHBOUR: 'it returns false'. Refute it at one input. -/
def bundleSortedWrong : ChangeSpec := { name := "bundleSorted", fn := fun _ => fun
  | [d] => { results := [.lit (.bool false)], args := [d] }
  | _ => none }
def BundleSortedWrongFalsely : Prop := bundleSortedRow.holds Tryd.pinned (OpenSpec.ofChange bundleSortedWrong)

/-- 'packhorselaw15.StoreLists': WHATEVER THE INPUT: true; the input reads as it did. -/
def storeListsSpec : ChangeSpec := { name := "storeLists", fn := fun _ => fun
  | [d1, d2, d3] => { results := [.lit (.bool true)], args := [d1, d2, d3] }
  | _ => none }
def storeListsRow : OpenClaim := { program := "ytahopnlibmiafaadoor", sum := "682be89489bf2a91ee699b1c1f052c1188251a35b3b5156e6d3ccbbe0d21c637", func := "packhorse/packhorselaw15.StoreLists", spec := "storeLists", inPlace := ["math/bits.Add64"], unfollowed := true, recurses := true, named := ["packhorse/wire.heads"], plainKeys := false, apart := false, laid := [("packhorse/wire.heads", laid_packhorse_wire_heads)] }
def StoreListsSaid : Prop := storeListsRow.holds Tryd.pinned (OpenSpec.ofChange storeListsSpec)

/-- ITS FALSE NEIGHBOUR: 'it returns false'. Refute it at one input. -/
def storeListsWrong : ChangeSpec := { name := "storeLists", fn := fun _ => fun
  | [d1, d2, d3] => { results := [.lit (.bool false)], args := [d1, d2, d3] }
  | _ => none }
def StoreListsWrongFalsely : Prop := storeListsRow.holds Tryd.pinned (OpenSpec.ofChange storeListsWrong)

/-- 'packhorselaw15.StoreAdds': WHATEVER THE INPUT: true; the input reads as it did. -/
def storeAddsSpec : ChangeSpec := { name := "storeAdds", fn := fun _ => fun
  | [d1, d2, d3] => { results := [.lit (.bool true)], args := [d1, d2, d3] }
  | _ => none }
def storeAddsRow : OpenClaim := { program := "ytahopnlibmiafaadoor", sum := "682be89489bf2a91ee699b1c1f052c1188251a35b3b5156e6d3ccbbe0d21c637", func := "packhorse/packhorselaw15.StoreAdds", spec := "storeAdds", inPlace := ["math/bits.Add64"], unfollowed := true, recurses := true, named := ["packhorse/wire.heads"], plainKeys := false, apart := false, laid := [("packhorse/wire.heads", laid_packhorse_wire_heads)] }
def StoreAddsSaid : Prop := storeAddsRow.holds Tryd.pinned (OpenSpec.ofChange storeAddsSpec)

/-- ITS FALSE NEIGHBOUR: 'it returns false'. Refute it at one input. -/
def storeAddsWrong : ChangeSpec := { name := "storeAdds", fn := fun _ => fun
  | [d1, d2, d3] => { results := [.lit (.bool false)], args := [d1, d2, d3] }
  | _ => none }
def StoreAddsWrongFalsely : Prop := storeAddsRow.holds Tryd.pinned (OpenSpec.ofChange storeAddsWrong)

/-- 'packhorselaw15.StoreOffers': WHATEVER THE INPUT: true; the input reads as it did. -/
def storeOffersSpec : ChangeSpec := { name := "storeOffers", fn := fun _ => fun
  | [d1, d2, d3, d4] => { results := [.lit (.bool true)], args := [d1, d2, d3, d4] }
  | _ => none }
def storeOffersRow : OpenClaim := { program := "ytahopnlibmiafaadoor", sum := "682be89489bf2a91ee699b1c1f052c1188251a35b3b5156e6d3ccbbe0d21c637", func := "packhorse/packhorselaw15.StoreOffers", spec := "storeOffers", inPlace := ["math/bits.Add64"], unfollowed := true, recurses := true, named := ["packhorse/wire.heads"], plainKeys := false, apart := false, laid := [("packhorse/wire.heads", laid_packhorse_wire_heads)] }
def StoreOffersSaid : Prop := storeOffersRow.holds Tryd.pinned (OpenSpec.ofChange storeOffersSpec)

/-- ITS FALSE NEIGHBOUR: 'it returns false'. Refute it at one input. -/
def storeOffersWrong : ChangeSpec := { name := "storeOffers", fn := fun _ => fun
  | [d1, d2, d3, d4] => { results := [.lit (.bool false)], args := [d1, d2, d3, d4] }
  | _ => none }
def StoreOffersWrongFalsely : Prop := storeOffersRow.holds Tryd.pinned (OpenSpec.ofChange storeOffersWrong)

/-- 'packhorselaw15.StoreKnown': WHATEVER THE INPUT: true; the input reads as it did. -/
def storeKnownSpec : ChangeSpec := { name := "storeKnown", fn := fun _ => fun
  | [] => { results := [.lit (.bool true)], args := [] }
  | _ => none }
def storeKnownRow : OpenClaim := { program := "ytahopnlibmiafaadoor", sum := "682be89489bf2a91ee699b1c1f052c1188251a35b3b5156e6d3ccbbe0d21c637", func := "packhorse/packhorselaw15.StoreKnown", spec := "storeKnown", inPlace := ["math/bits.Add64"], unfollowed := true, recurses := true, named := ["packhorse/wire.heads"], plainKeys := false, apart := false, laid := [("packhorse/wire.heads", laid_packhorse_wire_heads)] }
def StoreKnownSaid : Prop := storeKnownRow.holds Tryd.pinned (OpenSpec.ofChange storeKnownSpec)

/-- ITS FALSE NEIGHBOUR: 'it returns false'. Refute it at one input. -/
def storeKnownWrong : ChangeSpec := { name := "storeKnown", fn := fun _ => fun
  | [] => { results := [.lit (.bool false)], args := [] }
  | _ => none }
def StoreKnownWrongFalsely : Prop := storeKnownRow.holds Tryd.pinned (OpenSpec.ofChange storeKnownWrong)

/-- 'packhorselaw15.StoreDrops': WHATEVER THE INPUT: true; the input reads as it did. -/
def storeDropsSpec : ChangeSpec := { name := "storeDrops", fn := fun _ => fun
  | [d1, d2] => { results := [.lit (.bool true)], args := [d1, d2] }
  | _ => none }
def storeDropsRow : OpenClaim := { program := "ytahopnlibmiafaadoor", sum := "682be89489bf2a91ee699b1c1f052c1188251a35b3b5156e6d3ccbbe0d21c637", func := "packhorse/packhorselaw15.StoreDrops", spec := "storeDrops", inPlace := ["math/bits.Add64"], unfollowed := true, recurses := true, named := ["packhorse/wire.heads"], plainKeys := false, apart := false, laid := [("packhorse/wire.heads", laid_packhorse_wire_heads)] }
def StoreDropsSaid : Prop := storeDropsRow.holds Tryd.pinned (OpenSpec.ofChange storeDropsSpec)

/-- ITS FALSE NEIGHBOUR: 'it returns false'. Refute it at one input. -/
def storeDropsWrong : ChangeSpec := { name := "storeDrops", fn := fun _ => fun
  | [d1, d2] => { results := [.lit (.bool false)], args := [d1, d2] }
  | _ => none }
def StoreDropsWrongFalsely : Prop := storeDropsRow.holds Tryd.pinned (OpenSpec.ofChange storeDropsWrong)

/-- 'packhorselaw15.StoreBacks': WHATEVER THE INPUT: true; the input reads as it did. -/
def storeBacksSpec : ChangeSpec := { name := "storeBacks", fn := fun _ => fun
  | [d1, d2, d3] => { results := [.lit (.bool true)], args := [d1, d2, d3] }
  | _ => none }
def storeBacksRow : OpenClaim := { program := "ytahopnlibmiafaadoor", sum := "682be89489bf2a91ee699b1c1f052c1188251a35b3b5156e6d3ccbbe0d21c637", func := "packhorse/packhorselaw15.StoreBacks", spec := "storeBacks", inPlace := ["math/bits.Add64"], unfollowed := true, recurses := true, named := ["packhorse/wire.heads"], plainKeys := false, apart := false, laid := [("packhorse/wire.heads", laid_packhorse_wire_heads)] }
def StoreBacksSaid : Prop := storeBacksRow.holds Tryd.pinned (OpenSpec.ofChange storeBacksSpec)

/-- ITS FALSE NEIGHBOUR: 'it returns false'. Refute it at one input. -/
def storeBacksWrong : ChangeSpec := { name := "storeBacks", fn := fun _ => fun
  | [d1, d2, d3] => { results := [.lit (.bool false)], args := [d1, d2, d3] }
  | _ => none }
def StoreBacksWrongFalsely : Prop := storeBacksRow.holds Tryd.pinned (OpenSpec.ofChange storeBacksWrong)

/-- 'packhorselaw15.StoreFor': WHATEVER THE INPUT: true; the input reads as it did. -/
def storeForSpec : ChangeSpec := { name := "storeFor", fn := fun _ => fun
  | [d1, d2] => { results := [.lit (.bool true)], args := [d1, d2] }
  | _ => none }
def storeForRow : OpenClaim := { program := "ytahopnlibmiafaadoor", sum := "682be89489bf2a91ee699b1c1f052c1188251a35b3b5156e6d3ccbbe0d21c637", func := "packhorse/packhorselaw15.StoreFor", spec := "storeFor", inPlace := ["math/bits.Add64"], unfollowed := true, recurses := true, named := ["packhorse/wire.heads"], plainKeys := false, apart := false, laid := [("packhorse/wire.heads", laid_packhorse_wire_heads)] }
def StoreForSaid : Prop := storeForRow.holds Tryd.pinned (OpenSpec.ofChange storeForSpec)

/-- ITS FALSE NEIGHBOUR: 'it returns false'. Refute it at one input. -/
def storeForWrong : ChangeSpec := { name := "storeFor", fn := fun _ => fun
  | [d1, d2] => { results := [.lit (.bool false)], args := [d1, d2] }
  | _ => none }
def StoreForWrongFalsely : Prop := storeForRow.holds Tryd.pinned (OpenSpec.ofChange storeForWrong)

/- THE SECOND FORM. 'bulk': how many values and letters a reading holds, each counted each time it is reached (what is shared counts as often as it is met; a slice's spare places count too). A statement '..UptoSaid' is the law's where the arguments, and the package variables that the reading takes, are together of bulk at most 1048576: NARROWER than '..Said'. Prove '..Said' where nothing that the law and all that it calls make is longer than what came in: it says more and counts as full. Else prove '..UptoSaid'. A law counts once. -/
mutual
def uptoBulk {H : Type} : DataW H → Nat
  | .lit (.string bytes) => bytes.length + 1
  | .lit _ => 1
  | .nil => 1
  | .ptr d => uptoBulk d + 1
  | .slice elems spare => uptoBulkAll elems + uptoBulkAll spare + 1
  | .agg parts => uptoBulkAll parts + 1
  | .iface _ d => uptoBulk d + 1
  | .map entries => uptoBulkEntries entries + 1
  | .held _ => 1
def uptoBulkAll {H : Type} : List (DataW H) → Nat
  | [] => 0
  | d :: r => uptoBulk d + uptoBulkAll r
def uptoBulkEntries {H : Type} : List (Lit × DataW H) → Nat
  | [] => 0
  | x :: r => uptoBulkEntry x + uptoBulkEntries r
def uptoBulkEntry {H : Type} : Lit × DataW H → Nat
  | (.string bytes, d) => bytes.length + uptoBulk d + 1
  | (_, d) => uptoBulk d + 1
 end
def uptoSmall : (H : Type) → List (DataW H) → Bool := fun _ ds => decide (uptoBulkAll ds ≤ 1048576)
def OpenSpec.upto (s : _root_.Go.ChangeSpec) : _root_.Go.OpenSpec := { _root_.Go.OpenSpec.ofChange s with cond := some uptoSmall }

/-- 'packhorselaw06.BundleSorts', WHERE WHAT IT READS IS OF BULK AT MOST 1048576: true; the input reads as it did. -/
def bundleSortsUptoRow : OpenClaim := { program := "ytahopnlibmiafaadoor", sum := "682be89489bf2a91ee699b1c1f052c1188251a35b3b5156e6d3ccbbe0d21c637", func := "packhorse/packhorselaw06.BundleSorts", spec := "bundleSorts", inPlace := ["math/bits.Add64"], unfollowed := true, recurses := true, named := ["internal/strconv.uint64pow10", "math/bits.deBruijn32tab", "math/bits.deBruijn64tab"], plainKeys := false, apart := false, laid := [("math/bits.deBruijn32tab", laid_math_bits_deBruijn32tab), ("math/bits.deBruijn64tab", laid_math_bits_deBruijn64tab), ("internal/strconv.uint64pow10", laid_internal_strconv_uint64pow10)], narrowed := true }
def BundleSortsUptoSaid : Prop := bundleSortsUptoRow.holds Tryd.pinned (OpenSpec.upto bundleSortsSpec)

/-- 'packhorselaw06.BundleSorted', WHERE WHAT IT READS IS OF BULK AT MOST 1048576: true; the input reads as it did. -/
def bundleSortedUptoRow : OpenClaim := { program := "ytahopnlibmiafaadoor", sum := "682be89489bf2a91ee699b1c1f052c1188251a35b3b5156e6d3ccbbe0d21c637", func := "packhorse/packhorselaw06.BundleSorted", spec := "bundleSorted", inPlace := ["math/bits.Add64"], unfollowed := true, recurses := true, named := ["internal/strconv.uint64pow10", "math/bits.deBruijn32tab", "math/bits.deBruijn64tab"], plainKeys := false, apart := false, laid := [("math/bits.deBruijn32tab", laid_math_bits_deBruijn32tab), ("math/bits.deBruijn64tab", laid_math_bits_deBruijn64tab), ("internal/strconv.uint64pow10", laid_internal_strconv_uint64pow10)], narrowed := true }
def BundleSortedUptoSaid : Prop := bundleSortedUptoRow.holds Tryd.pinned (OpenSpec.upto bundleSortedSpec)

/-- 'packhorselaw15.StoreLists', WHERE WHAT IT READS IS OF BULK AT MOST 1048576: true; the input reads as it did. -/
def storeListsUptoRow : OpenClaim := { program := "ytahopnlibmiafaadoor", sum := "682be89489bf2a91ee699b1c1f052c1188251a35b3b5156e6d3ccbbe0d21c637", func := "packhorse/packhorselaw15.StoreLists", spec := "storeLists", inPlace := ["math/bits.Add64"], unfollowed := true, recurses := true, named := ["packhorse/wire.heads"], plainKeys := false, apart := false, laid := [("packhorse/wire.heads", laid_packhorse_wire_heads)], narrowed := true }
def StoreListsUptoSaid : Prop := storeListsUptoRow.holds Tryd.pinned (OpenSpec.upto storeListsSpec)

/-- 'packhorselaw15.StoreAdds', WHERE WHAT IT READS IS OF BULK AT MOST 1048576: true; the input reads as it did. -/
def storeAddsUptoRow : OpenClaim := { program := "ytahopnlibmiafaadoor", sum := "682be89489bf2a91ee699b1c1f052c1188251a35b3b5156e6d3ccbbe0d21c637", func := "packhorse/packhorselaw15.StoreAdds", spec := "storeAdds", inPlace := ["math/bits.Add64"], unfollowed := true, recurses := true, named := ["packhorse/wire.heads"], plainKeys := false, apart := false, laid := [("packhorse/wire.heads", laid_packhorse_wire_heads)], narrowed := true }
def StoreAddsUptoSaid : Prop := storeAddsUptoRow.holds Tryd.pinned (OpenSpec.upto storeAddsSpec)

/-- 'packhorselaw15.StoreOffers', WHERE WHAT IT READS IS OF BULK AT MOST 1048576: true; the input reads as it did. -/
def storeOffersUptoRow : OpenClaim := { program := "ytahopnlibmiafaadoor", sum := "682be89489bf2a91ee699b1c1f052c1188251a35b3b5156e6d3ccbbe0d21c637", func := "packhorse/packhorselaw15.StoreOffers", spec := "storeOffers", inPlace := ["math/bits.Add64"], unfollowed := true, recurses := true, named := ["packhorse/wire.heads"], plainKeys := false, apart := false, laid := [("packhorse/wire.heads", laid_packhorse_wire_heads)], narrowed := true }
def StoreOffersUptoSaid : Prop := storeOffersUptoRow.holds Tryd.pinned (OpenSpec.upto storeOffersSpec)

/-- 'packhorselaw15.StoreKnown', WHERE WHAT IT READS IS OF BULK AT MOST 1048576: true; the input reads as it did. -/
def storeKnownUptoRow : OpenClaim := { program := "ytahopnlibmiafaadoor", sum := "682be89489bf2a91ee699b1c1f052c1188251a35b3b5156e6d3ccbbe0d21c637", func := "packhorse/packhorselaw15.StoreKnown", spec := "storeKnown", inPlace := ["math/bits.Add64"], unfollowed := true, recurses := true, named := ["packhorse/wire.heads"], plainKeys := false, apart := false, laid := [("packhorse/wire.heads", laid_packhorse_wire_heads)], narrowed := true }
def StoreKnownUptoSaid : Prop := storeKnownUptoRow.holds Tryd.pinned (OpenSpec.upto storeKnownSpec)

/-- 'packhorselaw15.StoreDrops', WHERE WHAT IT READS IS OF BULK AT MOST 1048576: true; the input reads as it did. -/
def storeDropsUptoRow : OpenClaim := { program := "ytahopnlibmiafaadoor", sum := "682be89489bf2a91ee699b1c1f052c1188251a35b3b5156e6d3ccbbe0d21c637", func := "packhorse/packhorselaw15.StoreDrops", spec := "storeDrops", inPlace := ["math/bits.Add64"], unfollowed := true, recurses := true, named := ["packhorse/wire.heads"], plainKeys := false, apart := false, laid := [("packhorse/wire.heads", laid_packhorse_wire_heads)], narrowed := true }
def StoreDropsUptoSaid : Prop := storeDropsUptoRow.holds Tryd.pinned (OpenSpec.upto storeDropsSpec)

/-- 'packhorselaw15.StoreBacks', WHERE WHAT IT READS IS OF BULK AT MOST 1048576: true; the input reads as it did. -/
def storeBacksUptoRow : OpenClaim := { program := "ytahopnlibmiafaadoor", sum := "682be89489bf2a91ee699b1c1f052c1188251a35b3b5156e6d3ccbbe0d21c637", func := "packhorse/packhorselaw15.StoreBacks", spec := "storeBacks", inPlace := ["math/bits.Add64"], unfollowed := true, recurses := true, named := ["packhorse/wire.heads"], plainKeys := false, apart := false, laid := [("packhorse/wire.heads", laid_packhorse_wire_heads)], narrowed := true }
def StoreBacksUptoSaid : Prop := storeBacksUptoRow.holds Tryd.pinned (OpenSpec.upto storeBacksSpec)

/-- 'packhorselaw15.StoreFor', WHERE WHAT IT READS IS OF BULK AT MOST 1048576: true; the input reads as it did. -/
def storeForUptoRow : OpenClaim := { program := "ytahopnlibmiafaadoor", sum := "682be89489bf2a91ee699b1c1f052c1188251a35b3b5156e6d3ccbbe0d21c637", func := "packhorse/packhorselaw15.StoreFor", spec := "storeFor", inPlace := ["math/bits.Add64"], unfollowed := true, recurses := true, named := ["packhorse/wire.heads"], plainKeys := false, apart := false, laid := [("packhorse/wire.heads", laid_packhorse_wire_heads)], narrowed := true }
def StoreForUptoSaid : Prop := storeForUptoRow.holds Tryd.pinned (OpenSpec.upto storeForSpec)

end Rows
end Go.Proofs.YtahopnlibmiafaaDoor
