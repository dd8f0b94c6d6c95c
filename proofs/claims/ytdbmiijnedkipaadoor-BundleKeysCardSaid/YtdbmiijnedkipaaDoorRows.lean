/-
  NARROWER THAN 'FOR EVERY INPUT', by the rows' own cells (each row's printed sentence says how): BundleChecks: laid · BundleTicks: laid · BundleChain: laid · BundleOrders: laid · BundleKeys: laid · BundleRead: laid · BundleKnown: laid · BundleSorts: laid · BundleSorted: laid.
  DERIVED. THE GIVEN ROWS OF THIS SEAT. 9 by the template 'for every input the law returns true; each argument reads behind the call as it read before'; 0 by the template 'total and deterministic' (their statements: YtdbmiijnedkipaaDoorTotals.lean).
  GIVEN WITH THE SEED: the statements are not yours to turn. If you find one false, say at which input.
  Laid BY PROGRAM, IN A SANDBOX (cutbox-rows.mjs): the forced cells as the released guide's own fill.sh prints them over the translation 2935f3ddd9acc868… (all of the seat's roots in one cut). By AI agents, Wed Nov 11 2026. No macro, syntax, notation, axiom, sorry.
-/
import Derived.Test.YtdbmiijnedkipaaDoorChecked
import GoSem.Claim
import GoSem.ClaimJoined
import GoSem.ClaimMapViews
import Derived.JoinedTies
import Derived.KernelRfl
namespace Go.Proofs.YtdbmiijnedkipaaDoor
/- THE CELL 'sum', in the pinned program and in every row, IS THE sha256 OF THE DUMP (.gsa) THAT YtdbmiijnedkipaaDoorProg.lean LOADS. Nothing in Lean hashes anything: it is a label: what it is worth is what the hold of that sum in a sandbox is worth. -/
noncomputable def Tryd.pinned : Pinned := { name := "ytdbmiijnedkipaadoor", sum := "2935f3ddd9acc8682ffff8b4dc6216db4595acf963ee8f387db60dc97bac672a", checked := Tryd.checked }
namespace Rows
def none {H : Type} : Left H := { results := [], args := [] }

/- WHAT THE LISTED PACKAGE-LEVEL VARIABLES READ AS WHEN THE CALL BEGINS. Each datum BY PROGRAM (the guide's laid-datum.mjs) off the statement by which the dump's own 'gosem.cut.vars' lays the variable. In a bare row this is a premise. The card (YtdbmiijnedkipaaDoorCards.lean) ties it to the program's text. -/
def laid_math_bits_deBruijn32tab {H : Type} : DataW H := .agg [.lit (.int .u8 0), .lit (.int .u8 1), .lit (.int .u8 28), .lit (.int .u8 2), .lit (.int .u8 29), .lit (.int .u8 14), .lit (.int .u8 24), .lit (.int .u8 3), .lit (.int .u8 30), .lit (.int .u8 22), .lit (.int .u8 20), .lit (.int .u8 15), .lit (.int .u8 25), .lit (.int .u8 17), .lit (.int .u8 4), .lit (.int .u8 8), .lit (.int .u8 31), .lit (.int .u8 27), .lit (.int .u8 13), .lit (.int .u8 23), .lit (.int .u8 21), .lit (.int .u8 19), .lit (.int .u8 16), .lit (.int .u8 7), .lit (.int .u8 26), .lit (.int .u8 12), .lit (.int .u8 18), .lit (.int .u8 6), .lit (.int .u8 11), .lit (.int .u8 5), .lit (.int .u8 10), .lit (.int .u8 9)]
def laid_math_bits_deBruijn64tab {H : Type} : DataW H := .agg [.lit (.int .u8 0), .lit (.int .u8 1), .lit (.int .u8 56), .lit (.int .u8 2), .lit (.int .u8 57), .lit (.int .u8 49), .lit (.int .u8 28), .lit (.int .u8 3), .lit (.int .u8 61), .lit (.int .u8 58), .lit (.int .u8 42), .lit (.int .u8 50), .lit (.int .u8 38), .lit (.int .u8 29), .lit (.int .u8 17), .lit (.int .u8 4), .lit (.int .u8 62), .lit (.int .u8 47), .lit (.int .u8 59), .lit (.int .u8 36), .lit (.int .u8 45), .lit (.int .u8 43), .lit (.int .u8 51), .lit (.int .u8 22), .lit (.int .u8 53), .lit (.int .u8 39), .lit (.int .u8 33), .lit (.int .u8 30), .lit (.int .u8 24), .lit (.int .u8 18), .lit (.int .u8 12), .lit (.int .u8 5), .lit (.int .u8 63), .lit (.int .u8 55), .lit (.int .u8 48), .lit (.int .u8 27), .lit (.int .u8 60), .lit (.int .u8 41), .lit (.int .u8 37), .lit (.int .u8 16), .lit (.int .u8 46), .lit (.int .u8 35), .lit (.int .u8 44), .lit (.int .u8 21), .lit (.int .u8 52), .lit (.int .u8 32), .lit (.int .u8 23), .lit (.int .u8 11), .lit (.int .u8 54), .lit (.int .u8 26), .lit (.int .u8 40), .lit (.int .u8 15), .lit (.int .u8 34), .lit (.int .u8 20), .lit (.int .u8 31), .lit (.int .u8 10), .lit (.int .u8 25), .lit (.int .u8 14), .lit (.int .u8 19), .lit (.int .u8 9), .lit (.int .u8 13), .lit (.int .u8 8), .lit (.int .u8 7), .lit (.int .u8 6)]
def laid_internal_strconv_uint64pow10 {H : Type} : DataW H := .agg [.lit (.int .u64 1), .lit (.int .u64 10), .lit (.int .u64 100), .lit (.int .u64 1000), .lit (.int .u64 10000), .lit (.int .u64 100000), .lit (.int .u64 1000000), .lit (.int .u64 10000000), .lit (.int .u64 100000000), .lit (.int .u64 1000000000), .lit (.int .u64 10000000000), .lit (.int .u64 100000000000), .lit (.int .u64 1000000000000), .lit (.int .u64 10000000000000), .lit (.int .u64 100000000000000), .lit (.int .u64 1000000000000000), .lit (.int .u64 10000000000000000), .lit (.int .u64 100000000000000000), .lit (.int .u64 1000000000000000000), .lit (.int .u64 10000000000000000000)]

/-- 'packhorselaw06.BundleChecks': WHATEVER THE INPUT: true; the input reads as it did. -/
def bundleChecksSpec : ChangeSpec := { name := "bundleChecks", fn := fun _ => fun
  | [d1, d2] => { results := [.lit (.bool true)], args := [d1, d2] }
  | _ => none }
def bundleChecksRow : OpenClaim := { program := "ytdbmiijnedkipaadoor", sum := "2935f3ddd9acc8682ffff8b4dc6216db4595acf963ee8f387db60dc97bac672a", func := "packhorse/packhorselaw06.BundleChecks", spec := "bundleChecks", named := ["internal/strconv.uint64pow10", "math/bits.deBruijn32tab", "math/bits.deBruijn64tab"], apart := false, laid := [("math/bits.deBruijn32tab", laid_math_bits_deBruijn32tab), ("math/bits.deBruijn64tab", laid_math_bits_deBruijn64tab), ("internal/strconv.uint64pow10", laid_internal_strconv_uint64pow10)] }
def BundleChecksSaid : Prop := bundleChecksRow.holds Tryd.pinned (OpenSpec.ofChange bundleChecksSpec)

/-- ITS FALSE NEIGHBOUR: 'it returns false'. Refute it at one input. -/
def bundleChecksWrong : ChangeSpec := { name := "bundleChecks", fn := fun _ => fun
  | [d1, d2] => { results := [.lit (.bool false)], args := [d1, d2] }
  | _ => none }
def BundleChecksWrongFalsely : Prop := bundleChecksRow.holds Tryd.pinned (OpenSpec.ofChange bundleChecksWrong)

/-- 'packhorselaw06.BundleTicks': WHATEVER THE INPUT: true; the input reads as it did. -/
def bundleTicksSpec : ChangeSpec := { name := "bundleTicks", fn := fun _ => fun
  | [d1, d2] => { results := [.lit (.bool true)], args := [d1, d2] }
  | _ => none }
def bundleTicksRow : OpenClaim := { program := "ytdbmiijnedkipaadoor", sum := "2935f3ddd9acc8682ffff8b4dc6216db4595acf963ee8f387db60dc97bac672a", func := "packhorse/packhorselaw06.BundleTicks", spec := "bundleTicks", named := ["internal/strconv.uint64pow10", "math/bits.deBruijn32tab", "math/bits.deBruijn64tab"], apart := false, laid := [("math/bits.deBruijn32tab", laid_math_bits_deBruijn32tab), ("math/bits.deBruijn64tab", laid_math_bits_deBruijn64tab), ("internal/strconv.uint64pow10", laid_internal_strconv_uint64pow10)] }
def BundleTicksSaid : Prop := bundleTicksRow.holds Tryd.pinned (OpenSpec.ofChange bundleTicksSpec)

/-- ITS FALSE NEIGHBOUR: 'it returns false'. Refute it at one input. -/
def bundleTicksWrong : ChangeSpec := { name := "bundleTicks", fn := fun _ => fun
  | [d1, d2] => { results := [.lit (.bool false)], args := [d1, d2] }
  | _ => none }
def BundleTicksWrongFalsely : Prop := bundleTicksRow.holds Tryd.pinned (OpenSpec.ofChange bundleTicksWrong)

/-- 'packhorselaw06.BundleChain': WHATEVER THE INPUT: true; the input reads as it did. -/
def bundleChainSpec : ChangeSpec := { name := "bundleChain", fn := fun _ => fun
  | [d1, d2, d3] => { results := [.lit (.bool true)], args := [d1, d2, d3] }
  | _ => none }
def bundleChainRow : OpenClaim := { program := "ytdbmiijnedkipaadoor", sum := "2935f3ddd9acc8682ffff8b4dc6216db4595acf963ee8f387db60dc97bac672a", func := "packhorse/packhorselaw06.BundleChain", spec := "bundleChain", inPlace := ["math/bits.Add64"], named := ["internal/strconv.uint64pow10", "math/bits.deBruijn32tab", "math/bits.deBruijn64tab"], apart := false, laid := [("math/bits.deBruijn32tab", laid_math_bits_deBruijn32tab), ("math/bits.deBruijn64tab", laid_math_bits_deBruijn64tab), ("internal/strconv.uint64pow10", laid_internal_strconv_uint64pow10)] }
def BundleChainSaid : Prop := bundleChainRow.holds Tryd.pinned (OpenSpec.ofChange bundleChainSpec)

/-- ITS FALSE NEIGHBOUR: 'it returns false'. Refute it at one input. -/
def bundleChainWrong : ChangeSpec := { name := "bundleChain", fn := fun _ => fun
  | [d1, d2, d3] => { results := [.lit (.bool false)], args := [d1, d2, d3] }
  | _ => none }
def BundleChainWrongFalsely : Prop := bundleChainRow.holds Tryd.pinned (OpenSpec.ofChange bundleChainWrong)

/-- 'packhorselaw06.BundleOrders': WHATEVER THE INPUT: true; the input reads as it did. -/
def bundleOrdersSpec : ChangeSpec := { name := "bundleOrders", fn := fun _ => fun
  | [d1, d2] => { results := [.lit (.bool true)], args := [d1, d2] }
  | _ => none }
def bundleOrdersRow : OpenClaim := { program := "ytdbmiijnedkipaadoor", sum := "2935f3ddd9acc8682ffff8b4dc6216db4595acf963ee8f387db60dc97bac672a", func := "packhorse/packhorselaw06.BundleOrders", spec := "bundleOrders", inPlace := ["math/bits.Add64"], named := ["internal/strconv.uint64pow10", "math/bits.deBruijn32tab", "math/bits.deBruijn64tab"], apart := false, laid := [("math/bits.deBruijn32tab", laid_math_bits_deBruijn32tab), ("math/bits.deBruijn64tab", laid_math_bits_deBruijn64tab), ("internal/strconv.uint64pow10", laid_internal_strconv_uint64pow10)] }
def BundleOrdersSaid : Prop := bundleOrdersRow.holds Tryd.pinned (OpenSpec.ofChange bundleOrdersSpec)

/-- ITS FALSE NEIGHBOUR: 'it returns false'. Refute it at one input. -/
def bundleOrdersWrong : ChangeSpec := { name := "bundleOrders", fn := fun _ => fun
  | [d1, d2] => { results := [.lit (.bool false)], args := [d1, d2] }
  | _ => none }
def BundleOrdersWrongFalsely : Prop := bundleOrdersRow.holds Tryd.pinned (OpenSpec.ofChange bundleOrdersWrong)

/-- 'packhorselaw06.BundleKeys': WHATEVER THE INPUT: true; the input reads as it did. -/
def bundleKeysSpec : ChangeSpec := { name := "bundleKeys", fn := fun _ => fun
  | [d1, d2] => { results := [.lit (.bool true)], args := [d1, d2] }
  | _ => none }
def bundleKeysRow : OpenClaim := { program := "ytdbmiijnedkipaadoor", sum := "2935f3ddd9acc8682ffff8b4dc6216db4595acf963ee8f387db60dc97bac672a", func := "packhorse/packhorselaw06.BundleKeys", spec := "bundleKeys", recurses := true, named := ["internal/strconv.uint64pow10", "math/bits.deBruijn32tab", "math/bits.deBruijn64tab"], apart := false, laid := [("math/bits.deBruijn32tab", laid_math_bits_deBruijn32tab), ("math/bits.deBruijn64tab", laid_math_bits_deBruijn64tab), ("internal/strconv.uint64pow10", laid_internal_strconv_uint64pow10)] }
def BundleKeysSaid : Prop := bundleKeysRow.holds Tryd.pinned (OpenSpec.ofChange bundleKeysSpec)

/-- ITS FALSE NEIGHBOUR: 'it returns false'. Refute it at one input. -/
def bundleKeysWrong : ChangeSpec := { name := "bundleKeys", fn := fun _ => fun
  | [d1, d2] => { results := [.lit (.bool false)], args := [d1, d2] }
  | _ => none }
def BundleKeysWrongFalsely : Prop := bundleKeysRow.holds Tryd.pinned (OpenSpec.ofChange bundleKeysWrong)

/-- 'packhorselaw06.BundleRead': WHATEVER THE INPUT: true; the input reads as it did. -/
def bundleReadSpec : ChangeSpec := { name := "bundleRead", fn := fun _ => fun
  | [d1, d2, d3] => { results := [.lit (.bool true)], args := [d1, d2, d3] }
  | _ => none }
def bundleReadRow : OpenClaim := { program := "ytdbmiijnedkipaadoor", sum := "2935f3ddd9acc8682ffff8b4dc6216db4595acf963ee8f387db60dc97bac672a", func := "packhorse/packhorselaw06.BundleRead", spec := "bundleRead", named := ["internal/strconv.uint64pow10", "math/bits.deBruijn32tab", "math/bits.deBruijn64tab"], apart := false, laid := [("math/bits.deBruijn32tab", laid_math_bits_deBruijn32tab), ("math/bits.deBruijn64tab", laid_math_bits_deBruijn64tab), ("internal/strconv.uint64pow10", laid_internal_strconv_uint64pow10)] }
def BundleReadSaid : Prop := bundleReadRow.holds Tryd.pinned (OpenSpec.ofChange bundleReadSpec)

/-- ITS FALSE NEIGHBOUR: 'it returns false'. Refute it at one input. -/
def bundleReadWrong : ChangeSpec := { name := "bundleRead", fn := fun _ => fun
  | [d1, d2, d3] => { results := [.lit (.bool false)], args := [d1, d2, d3] }
  | _ => none }
def BundleReadWrongFalsely : Prop := bundleReadRow.holds Tryd.pinned (OpenSpec.ofChange bundleReadWrong)

/-- 'packhorselaw06.BundleKnown': WHATEVER THE INPUT: true; the input reads as it did. -/
def bundleKnownSpec : ChangeSpec := { name := "bundleKnown", fn := fun _ => fun
  | [] => { results := [.lit (.bool true)], args := [] }
  | _ => none }
def bundleKnownRow : OpenClaim := { program := "ytdbmiijnedkipaadoor", sum := "2935f3ddd9acc8682ffff8b4dc6216db4595acf963ee8f387db60dc97bac672a", func := "packhorse/packhorselaw06.BundleKnown", spec := "bundleKnown", inPlace := ["math/bits.Add64"], named := ["internal/strconv.uint64pow10", "math/bits.deBruijn32tab", "math/bits.deBruijn64tab"], apart := false, laid := [("math/bits.deBruijn32tab", laid_math_bits_deBruijn32tab), ("math/bits.deBruijn64tab", laid_math_bits_deBruijn64tab), ("internal/strconv.uint64pow10", laid_internal_strconv_uint64pow10)] }
def BundleKnownSaid : Prop := bundleKnownRow.holds Tryd.pinned (OpenSpec.ofChange bundleKnownSpec)

/-- ITS FALSE NEIGHBOUR: 'it returns false'. Refute it at one input. -/
def bundleKnownWrong : ChangeSpec := { name := "bundleKnown", fn := fun _ => fun
  | [] => { results := [.lit (.bool false)], args := [] }
  | _ => none }
def BundleKnownWrongFalsely : Prop := bundleKnownRow.holds Tryd.pinned (OpenSpec.ofChange bundleKnownWrong)

/-- 'packhorselaw06.BundleSorts': WHATEVER THE INPUT: true; the input reads as it did. -/
def bundleSortsSpec : ChangeSpec := { name := "bundleSorts", fn := fun _ => fun
  | [d] => { results := [.lit (.bool true)], args := [d] }
  | _ => none }
def bundleSortsRow : OpenClaim := { program := "ytdbmiijnedkipaadoor", sum := "2935f3ddd9acc8682ffff8b4dc6216db4595acf963ee8f387db60dc97bac672a", func := "packhorse/packhorselaw06.BundleSorts", spec := "bundleSorts", inPlace := ["math/bits.Add64"], unfollowed := true, recurses := true, named := ["internal/strconv.uint64pow10", "math/bits.deBruijn32tab", "math/bits.deBruijn64tab"], apart := false, laid := [("math/bits.deBruijn32tab", laid_math_bits_deBruijn32tab), ("math/bits.deBruijn64tab", laid_math_bits_deBruijn64tab), ("internal/strconv.uint64pow10", laid_internal_strconv_uint64pow10)] }
def BundleSortsSaid : Prop := bundleSortsRow.holds Tryd.pinned (OpenSpec.ofChange bundleSortsSpec)

/-- ITS FALSE NEIGHBOUR: 'it returns false'. Refute it at one input. -/
def bundleSortsWrong : ChangeSpec := { name := "bundleSorts", fn := fun _ => fun
  | [d] => { results := [.lit (.bool false)], args := [d] }
  | _ => none }
def BundleSortsWrongFalsely : Prop := bundleSortsRow.holds Tryd.pinned (OpenSpec.ofChange bundleSortsWrong)

/-- 'packhorselaw06.BundleSorted': WHATEVER THE INPUT: true; the input reads as it did. -/
def bundleSortedSpec : ChangeSpec := { name := "bundleSorted", fn := fun _ => fun
  | [d] => { results := [.lit (.bool true)], args := [d] }
  | _ => none }
def bundleSortedRow : OpenClaim := { program := "ytdbmiijnedkipaadoor", sum := "2935f3ddd9acc8682ffff8b4dc6216db4595acf963ee8f387db60dc97bac672a", func := "packhorse/packhorselaw06.BundleSorted", spec := "bundleSorted", inPlace := ["math/bits.Add64"], unfollowed := true, recurses := true, named := ["internal/strconv.uint64pow10", "math/bits.deBruijn32tab", "math/bits.deBruijn64tab"], apart := false, laid := [("math/bits.deBruijn32tab", laid_math_bits_deBruijn32tab), ("math/bits.deBruijn64tab", laid_math_bits_deBruijn64tab), ("internal/strconv.uint64pow10", laid_internal_strconv_uint64pow10)] }
def BundleSortedSaid : Prop := bundleSortedRow.holds Tryd.pinned (OpenSpec.ofChange bundleSortedSpec)

/-- ITS FALSE NEIGHBOUR: 'it returns false'. Refute it at one input. -/
def bundleSortedWrong : ChangeSpec := { name := "bundleSorted", fn := fun _ => fun
  | [d] => { results := [.lit (.bool false)], args := [d] }
  | _ => none }
def BundleSortedWrongFalsely : Prop := bundleSortedRow.holds Tryd.pinned (OpenSpec.ofChange bundleSortedWrong)

/- THE SECOND FORM. 'bulk': how many values and letters a reading holds, each counted each time it is reached (what is shared counts as often as it is met; a slice's spare places count too). A statement '..UptoSaid' is the law's where the arguments, and the package variables that the reading takes, are together of bulk at most 1048576: NARROWER than '..Said'. Prove '..Said' where nothing that the law and all that it calls make is longer than what came in: it says more and counts as full. Else prove '..UptoSaid'. A law counts once. -/
mutual
def uptoBulk {H : Type} : DataW H → Nat
  | .lit (.string bytes) => bytes.length + 1
  | .lit _ => 1
  | .nil => 1
  | .ptr d => uptoBulk d + 1
  | .slice elems spare => uptoBulkAll elems + uptoBulkAll spare + 1
  | .agg parts => uptoBulkAll parts + 1
  | .iface _ d => uptoBulk d + 1
  | .map entries => uptoBulkEntries entries + 1
  | .held _ => 1
def uptoBulkAll {H : Type} : List (DataW H) → Nat
  | [] => 0
  | d :: r => uptoBulk d + uptoBulkAll r
def uptoBulkEntries {H : Type} : List (Lit × DataW H) → Nat
  | [] => 0
  | x :: r => uptoBulkEntry x + uptoBulkEntries r
def uptoBulkEntry {H : Type} : Lit × DataW H → Nat
  | (.string bytes, d) => bytes.length + uptoBulk d + 1
  | (_, d) => uptoBulk d + 1
 end
def uptoSmall : (H : Type) → List (DataW H) → Bool := fun _ ds => decide (uptoBulkAll ds ≤ 1048576)
def OpenSpec.upto (s : _root_.Go.ChangeSpec) : _root_.Go.OpenSpec := { _root_.Go.OpenSpec.ofChange s with cond := some uptoSmall }

/-- 'packhorselaw06.BundleChecks', WHERE WHAT IT READS IS OF BULK AT MOST 1048576: true; the input reads as it did. -/
def bundleChecksUptoRow : OpenClaim := { program := "ytdbmiijnedkipaadoor", sum := "2935f3ddd9acc8682ffff8b4dc6216db4595acf963ee8f387db60dc97bac672a", func := "packhorse/packhorselaw06.BundleChecks", spec := "bundleChecks", named := ["internal/strconv.uint64pow10", "math/bits.deBruijn32tab", "math/bits.deBruijn64tab"], apart := false, laid := [("math/bits.deBruijn32tab", laid_math_bits_deBruijn32tab), ("math/bits.deBruijn64tab", laid_math_bits_deBruijn64tab), ("internal/strconv.uint64pow10", laid_internal_strconv_uint64pow10)], narrowed := true }
def BundleChecksUptoSaid : Prop := bundleChecksUptoRow.holds Tryd.pinned (OpenSpec.upto bundleChecksSpec)

/-- 'packhorselaw06.BundleTicks', WHERE WHAT IT READS IS OF BULK AT MOST 1048576: true; the input reads as it did. -/
def bundleTicksUptoRow : OpenClaim := { program := "ytdbmiijnedkipaadoor", sum := "2935f3ddd9acc8682ffff8b4dc6216db4595acf963ee8f387db60dc97bac672a", func := "packhorse/packhorselaw06.BundleTicks", spec := "bundleTicks", named := ["internal/strconv.uint64pow10", "math/bits.deBruijn32tab", "math/bits.deBruijn64tab"], apart := false, laid := [("math/bits.deBruijn32tab", laid_math_bits_deBruijn32tab), ("math/bits.deBruijn64tab", laid_math_bits_deBruijn64tab), ("internal/strconv.uint64pow10", laid_internal_strconv_uint64pow10)], narrowed := true }
def BundleTicksUptoSaid : Prop := bundleTicksUptoRow.holds Tryd.pinned (OpenSpec.upto bundleTicksSpec)

/-- 'packhorselaw06.BundleChain', WHERE WHAT IT READS IS OF BULK AT MOST 1048576: true; the input reads as it did. -/
def bundleChainUptoRow : OpenClaim := { program := "ytdbmiijnedkipaadoor", sum := "2935f3ddd9acc8682ffff8b4dc6216db4595acf963ee8f387db60dc97bac672a", func := "packhorse/packhorselaw06.BundleChain", spec := "bundleChain", inPlace := ["math/bits.Add64"], named := ["internal/strconv.uint64pow10", "math/bits.deBruijn32tab", "math/bits.deBruijn64tab"], apart := false, laid := [("math/bits.deBruijn32tab", laid_math_bits_deBruijn32tab), ("math/bits.deBruijn64tab", laid_math_bits_deBruijn64tab), ("internal/strconv.uint64pow10", laid_internal_strconv_uint64pow10)], narrowed := true }
def BundleChainUptoSaid : Prop := bundleChainUptoRow.holds Tryd.pinned (OpenSpec.upto bundleChainSpec)

/-- 'packhorselaw06.BundleOrders', WHERE WHAT IT READS IS OF BULK AT MOST 1048576: true; the input reads as it did. -/
def bundleOrdersUptoRow : OpenClaim := { program := "ytdbmiijnedkipaadoor", sum := "2935f3ddd9acc8682ffff8b4dc6216db4595acf963ee8f387db60dc97bac672a", func := "packhorse/packhorselaw06.BundleOrders", spec := "bundleOrders", inPlace := ["math/bits.Add64"], named := ["internal/strconv.uint64pow10", "math/bits.deBruijn32tab", "math/bits.deBruijn64tab"], apart := false, laid := [("math/bits.deBruijn32tab", laid_math_bits_deBruijn32tab), ("math/bits.deBruijn64tab", laid_math_bits_deBruijn64tab), ("internal/strconv.uint64pow10", laid_internal_strconv_uint64pow10)], narrowed := true }
def BundleOrdersUptoSaid : Prop := bundleOrdersUptoRow.holds Tryd.pinned (OpenSpec.upto bundleOrdersSpec)

/-- 'packhorselaw06.BundleKeys', WHERE WHAT IT READS IS OF BULK AT MOST 1048576: true; the input reads as it did. -/
def bundleKeysUptoRow : OpenClaim := { program := "ytdbmiijnedkipaadoor", sum := "2935f3ddd9acc8682ffff8b4dc6216db4595acf963ee8f387db60dc97bac672a", func := "packhorse/packhorselaw06.BundleKeys", spec := "bundleKeys", recurses := true, named := ["internal/strconv.uint64pow10", "math/bits.deBruijn32tab", "math/bits.deBruijn64tab"], apart := false, laid := [("math/bits.deBruijn32tab", laid_math_bits_deBruijn32tab), ("math/bits.deBruijn64tab", laid_math_bits_deBruijn64tab), ("internal/strconv.uint64pow10", laid_internal_strconv_uint64pow10)], narrowed := true }
def BundleKeysUptoSaid : Prop := bundleKeysUptoRow.holds Tryd.pinned (OpenSpec.upto bundleKeysSpec)

/-- 'packhorselaw06.BundleRead', WHERE WHAT IT READS IS OF BULK AT MOST 1048576: true; the input reads as it did. -/
def bundleReadUptoRow : OpenClaim := { program := "ytdbmiijnedkipaadoor", sum := "2935f3ddd9acc8682ffff8b4dc6216db4595acf963ee8f387db60dc97bac672a", func := "packhorse/packhorselaw06.BundleRead", spec := "bundleRead", named := ["internal/strconv.uint64pow10", "math/bits.deBruijn32tab", "math/bits.deBruijn64tab"], apart := false, laid := [("math/bits.deBruijn32tab", laid_math_bits_deBruijn32tab), ("math/bits.deBruijn64tab", laid_math_bits_deBruijn64tab), ("internal/strconv.uint64pow10", laid_internal_strconv_uint64pow10)], narrowed := true }
def BundleReadUptoSaid : Prop := bundleReadUptoRow.holds Tryd.pinned (OpenSpec.upto bundleReadSpec)

/-- 'packhorselaw06.BundleKnown', WHERE WHAT IT READS IS OF BULK AT MOST 1048576: true; the input reads as it did. -/
def bundleKnownUptoRow : OpenClaim := { program := "ytdbmiijnedkipaadoor", sum := "2935f3ddd9acc8682ffff8b4dc6216db4595acf963ee8f387db60dc97bac672a", func := "packhorse/packhorselaw06.BundleKnown", spec := "bundleKnown", inPlace := ["math/bits.Add64"], named := ["internal/strconv.uint64pow10", "math/bits.deBruijn32tab", "math/bits.deBruijn64tab"], apart := false, laid := [("math/bits.deBruijn32tab", laid_math_bits_deBruijn32tab), ("math/bits.deBruijn64tab", laid_math_bits_deBruijn64tab), ("internal/strconv.uint64pow10", laid_internal_strconv_uint64pow10)], narrowed := true }
def BundleKnownUptoSaid : Prop := bundleKnownUptoRow.holds Tryd.pinned (OpenSpec.upto bundleKnownSpec)

/-- 'packhorselaw06.BundleSorts', WHERE WHAT IT READS IS OF BULK AT MOST 1048576: true; the input reads as it did. -/
def bundleSortsUptoRow : OpenClaim := { program := "ytdbmiijnedkipaadoor", sum := "2935f3ddd9acc8682ffff8b4dc6216db4595acf963ee8f387db60dc97bac672a", func := "packhorse/packhorselaw06.BundleSorts", spec := "bundleSorts", inPlace := ["math/bits.Add64"], unfollowed := true, recurses := true, named := ["internal/strconv.uint64pow10", "math/bits.deBruijn32tab", "math/bits.deBruijn64tab"], apart := false, laid := [("math/bits.deBruijn32tab", laid_math_bits_deBruijn32tab), ("math/bits.deBruijn64tab", laid_math_bits_deBruijn64tab), ("internal/strconv.uint64pow10", laid_internal_strconv_uint64pow10)], narrowed := true }
def BundleSortsUptoSaid : Prop := bundleSortsUptoRow.holds Tryd.pinned (OpenSpec.upto bundleSortsSpec)

/-- 'packhorselaw06.BundleSorted', WHERE WHAT IT READS IS OF BULK AT MOST 1048576: true; the input reads as it did. -/
def bundleSortedUptoRow : OpenClaim := { program := "ytdbmiijnedkipaadoor", sum := "2935f3ddd9acc8682ffff8b4dc6216db4595acf963ee8f387db60dc97bac672a", func := "packhorse/packhorselaw06.BundleSorted", spec := "bundleSorted", inPlace := ["math/bits.Add64"], unfollowed := true, recurses := true, named := ["internal/strconv.uint64pow10", "math/bits.deBruijn32tab", "math/bits.deBruijn64tab"], apart := false, laid := [("math/bits.deBruijn32tab", laid_math_bits_deBruijn32tab), ("math/bits.deBruijn64tab", laid_math_bits_deBruijn64tab), ("internal/strconv.uint64pow10", laid_internal_strconv_uint64pow10)], narrowed := true }
def BundleSortedUptoSaid : Prop := bundleSortedUptoRow.holds Tryd.pinned (OpenSpec.upto bundleSortedSpec)

end Rows
end Go.Proofs.YtdbmiijnedkipaaDoor
