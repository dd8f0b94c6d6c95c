/-
  No cell of these rows narrows 'for every input' (looked for: loops, veiled, ifaces, maps, wideKeys, modest, calm, conditions, laid).
  DERIVED. THE GIVEN ROWS OF THIS SEAT. 12 by the template 'for every input the law returns true; each argument reads behind the call as it read before'; 0 by the template 'total and deterministic' (their statements: YtbdaiflghgihcaaTotals.lean).
  GIVEN WITH THE SEED: the statements are not yours to turn. If you find one false, say at which input.
  Laid BY PROGRAM, IN A SANDBOX (cutbox-rows.mjs): the forced cells as the released guide's own fill.sh prints them over the translation 6c18556c73df27d0… (all of the seat's roots in one cut). By AI agents, Wed Nov 11 2026. No macro, syntax, notation, axiom, sorry.
-/
import Derived.Test.YtbdaiflghgihcaaChecked
import GoSem.Claim
import GoSem.ClaimJoined
import GoSem.ClaimMapViews
import Derived.JoinedTies
import Derived.KernelRfl
namespace Go.Proofs.Ytbdaiflghgihcaa
/- THE CELL 'sum', in the pinned program and in every row, IS THE sha256 OF THE DUMP (.gsa) THAT YtbdaiflghgihcaaProg.lean LOADS. Nothing in Lean hashes anything: it is a label: what it is worth is what the hold of that sum in a sandbox is worth. -/
noncomputable def Try.pinned : Pinned := { name := "ytbdaiflghgihcaa", sum := "6c18556c73df27d0c6978fd7aa85774b694009e5bee7f5fa95fbbce8bcc75245", checked := Try.checked }
namespace Rows
def none {H : Type} : Left H := { results := [], args := [] }

/-- 'packhorselaw01.NumBack': WHATEVER THE INPUT: true; the input reads as it did. -/
def numBackSpec : ChangeSpec := { name := "numBack", fn := fun _ => fun
  | [d1, d2, d3] => { results := [.lit (.bool true)], args := [d1, d2, d3] }
  | _ => none }
def numBackRow : OpenClaim := { program := "ytbdaiflghgihcaa", sum := "6c18556c73df27d0c6978fd7aa85774b694009e5bee7f5fa95fbbce8bcc75245", func := "packhorse/packhorselaw01.NumBack", spec := "numBack", unfollowed := true, recurses := true, apart := false }
def NumBackSaid : Prop := numBackRow.holds Try.pinned (OpenSpec.ofChange numBackSpec)

/-- ITS FALSE NEIGHBOUR: 'it returns false'. Refute it at one input. -/
def numBackWrong : ChangeSpec := { name := "numBack", fn := fun _ => fun
  | [d1, d2, d3] => { results := [.lit (.bool false)], args := [d1, d2, d3] }
  | _ => none }
def NumBackWrongFalsely : Prop := numBackRow.holds Try.pinned (OpenSpec.ofChange numBackWrong)

/-- 'packhorselaw01.NumOnly': WHATEVER THE INPUT: true; the input reads as it did. -/
def numOnlySpec : ChangeSpec := { name := "numOnly", fn := fun _ => fun
  | [d1, d2] => { results := [.lit (.bool true)], args := [d1, d2] }
  | _ => none }
def numOnlyRow : OpenClaim := { program := "ytbdaiflghgihcaa", sum := "6c18556c73df27d0c6978fd7aa85774b694009e5bee7f5fa95fbbce8bcc75245", func := "packhorse/packhorselaw01.NumOnly", spec := "numOnly", unfollowed := true, recurses := true, apart := false }
def NumOnlySaid : Prop := numOnlyRow.holds Try.pinned (OpenSpec.ofChange numOnlySpec)

/-- ITS FALSE NEIGHBOUR: 'it returns false'. Refute it at one input. -/
def numOnlyWrong : ChangeSpec := { name := "numOnly", fn := fun _ => fun
  | [d1, d2] => { results := [.lit (.bool false)], args := [d1, d2] }
  | _ => none }
def NumOnlyWrongFalsely : Prop := numOnlyRow.holds Try.pinned (OpenSpec.ofChange numOnlyWrong)

/-- 'packhorselaw01.NumOrder': WHATEVER THE INPUT: true; the input reads as it did. -/
def numOrderSpec : ChangeSpec := { name := "numOrder", fn := fun _ => fun
  | [d1, d2] => { results := [.lit (.bool true)], args := [d1, d2] }
  | _ => none }
def numOrderRow : OpenClaim := { program := "ytbdaiflghgihcaa", sum := "6c18556c73df27d0c6978fd7aa85774b694009e5bee7f5fa95fbbce8bcc75245", func := "packhorse/packhorselaw01.NumOrder", spec := "numOrder", unfollowed := true, recurses := true, apart := false }
def NumOrderSaid : Prop := numOrderRow.holds Try.pinned (OpenSpec.ofChange numOrderSpec)

/-- ITS FALSE NEIGHBOUR: 'it returns false'. Refute it at one input. -/
def numOrderWrong : ChangeSpec := { name := "numOrder", fn := fun _ => fun
  | [d1, d2] => { results := [.lit (.bool false)], args := [d1, d2] }
  | _ => none }
def NumOrderWrongFalsely : Prop := numOrderRow.holds Try.pinned (OpenSpec.ofChange numOrderWrong)

/-- 'packhorselaw01.NumForms': WHATEVER THE INPUT: true; the input reads as it did. -/
def numFormsSpec : ChangeSpec := { name := "numForms", fn := fun _ => fun
  | [d1, d2, d3, d4] => { results := [.lit (.bool true)], args := [d1, d2, d3, d4] }
  | _ => none }
def numFormsRow : OpenClaim := { program := "ytbdaiflghgihcaa", sum := "6c18556c73df27d0c6978fd7aa85774b694009e5bee7f5fa95fbbce8bcc75245", func := "packhorse/packhorselaw01.NumForms", spec := "numForms", unfollowed := true, recurses := true, apart := false }
def NumFormsSaid : Prop := numFormsRow.holds Try.pinned (OpenSpec.ofChange numFormsSpec)

/-- ITS FALSE NEIGHBOUR: 'it returns false'. Refute it at one input. -/
def numFormsWrong : ChangeSpec := { name := "numForms", fn := fun _ => fun
  | [d1, d2, d3, d4] => { results := [.lit (.bool false)], args := [d1, d2, d3, d4] }
  | _ => none }
def NumFormsWrongFalsely : Prop := numFormsRow.holds Try.pinned (OpenSpec.ofChange numFormsWrong)

/-- 'packhorselaw21.BucketFills': WHATEVER THE INPUT: true; the input reads as it did. -/
def bucketFillsSpec : ChangeSpec := { name := "bucketFills", fn := fun _ => fun
  | [d1, d2, d3] => { results := [.lit (.bool true)], args := [d1, d2, d3] }
  | _ => none }
def bucketFillsRow : OpenClaim := { program := "ytbdaiflghgihcaa", sum := "6c18556c73df27d0c6978fd7aa85774b694009e5bee7f5fa95fbbce8bcc75245", func := "packhorse/packhorselaw21.BucketFills", spec := "bucketFills", unfollowed := true, recurses := true, apart := false }
def BucketFillsSaid : Prop := bucketFillsRow.holds Try.pinned (OpenSpec.ofChange bucketFillsSpec)

/-- ITS FALSE NEIGHBOUR: 'it returns false'. Refute it at one input. -/
def bucketFillsWrong : ChangeSpec := { name := "bucketFills", fn := fun _ => fun
  | [d1, d2, d3] => { results := [.lit (.bool false)], args := [d1, d2, d3] }
  | _ => none }
def BucketFillsWrongFalsely : Prop := bucketFillsRow.holds Try.pinned (OpenSpec.ofChange bucketFillsWrong)

/-- 'packhorselaw21.BucketWaits': WHATEVER THE INPUT: true; the input reads as it did. -/
def bucketWaitsSpec : ChangeSpec := { name := "bucketWaits", fn := fun _ => fun
  | [d1, d2] => { results := [.lit (.bool true)], args := [d1, d2] }
  | _ => none }
def bucketWaitsRow : OpenClaim := { program := "ytbdaiflghgihcaa", sum := "6c18556c73df27d0c6978fd7aa85774b694009e5bee7f5fa95fbbce8bcc75245", func := "packhorse/packhorselaw21.BucketWaits", spec := "bucketWaits", unfollowed := true, recurses := true, apart := false }
def BucketWaitsSaid : Prop := bucketWaitsRow.holds Try.pinned (OpenSpec.ofChange bucketWaitsSpec)

/-- ITS FALSE NEIGHBOUR: 'it returns false'. Refute it at one input. -/
def bucketWaitsWrong : ChangeSpec := { name := "bucketWaits", fn := fun _ => fun
  | [d1, d2] => { results := [.lit (.bool false)], args := [d1, d2] }
  | _ => none }
def BucketWaitsWrongFalsely : Prop := bucketWaitsRow.holds Try.pinned (OpenSpec.ofChange bucketWaitsWrong)

/-- 'packhorselaw21.BucketKnown': WHATEVER THE INPUT: true; the input reads as it did. -/
def bucketKnownSpec : ChangeSpec := { name := "bucketKnown", fn := fun _ => fun
  | [] => { results := [.lit (.bool true)], args := [] }
  | _ => none }
def bucketKnownRow : OpenClaim := { program := "ytbdaiflghgihcaa", sum := "6c18556c73df27d0c6978fd7aa85774b694009e5bee7f5fa95fbbce8bcc75245", func := "packhorse/packhorselaw21.BucketKnown", spec := "bucketKnown", unfollowed := true, recurses := true, apart := false }
def BucketKnownSaid : Prop := bucketKnownRow.holds Try.pinned (OpenSpec.ofChange bucketKnownSpec)

/-- ITS FALSE NEIGHBOUR: 'it returns false'. Refute it at one input. -/
def bucketKnownWrong : ChangeSpec := { name := "bucketKnown", fn := fun _ => fun
  | [] => { results := [.lit (.bool false)], args := [] }
  | _ => none }
def BucketKnownWrongFalsely : Prop := bucketKnownRow.holds Try.pinned (OpenSpec.ofChange bucketKnownWrong)

/-- 'packhorselaw21.BucketHolds': WHATEVER THE INPUT: true; the input reads as it did. -/
def bucketHoldsSpec : ChangeSpec := { name := "bucketHolds", fn := fun _ => fun
  | [d1, d2] => { results := [.lit (.bool true)], args := [d1, d2] }
  | _ => none }
def bucketHoldsRow : OpenClaim := { program := "ytbdaiflghgihcaa", sum := "6c18556c73df27d0c6978fd7aa85774b694009e5bee7f5fa95fbbce8bcc75245", func := "packhorse/packhorselaw21.BucketHolds", spec := "bucketHolds", unfollowed := true, recurses := true, apart := false }
def BucketHoldsSaid : Prop := bucketHoldsRow.holds Try.pinned (OpenSpec.ofChange bucketHoldsSpec)

/-- ITS FALSE NEIGHBOUR: 'it returns false'. Refute it at one input. -/
def bucketHoldsWrong : ChangeSpec := { name := "bucketHolds", fn := fun _ => fun
  | [d1, d2] => { results := [.lit (.bool false)], args := [d1, d2] }
  | _ => none }
def BucketHoldsWrongFalsely : Prop := bucketHoldsRow.holds Try.pinned (OpenSpec.ofChange bucketHoldsWrong)

/-- 'packhorselaw01.NumKnown': WHATEVER THE INPUT: true; the input reads as it did. -/
def numKnownSpec : ChangeSpec := { name := "numKnown", fn := fun _ => fun
  | [] => { results := [.lit (.bool true)], args := [] }
  | _ => none }
def numKnownRow : OpenClaim := { program := "ytbdaiflghgihcaa", sum := "6c18556c73df27d0c6978fd7aa85774b694009e5bee7f5fa95fbbce8bcc75245", func := "packhorse/packhorselaw01.NumKnown", spec := "numKnown", unfollowed := true, recurses := true, apart := false }
def NumKnownSaid : Prop := numKnownRow.holds Try.pinned (OpenSpec.ofChange numKnownSpec)

/-- ITS FALSE NEIGHBOUR: 'it returns false'. Refute it at one input. -/
def numKnownWrong : ChangeSpec := { name := "numKnown", fn := fun _ => fun
  | [] => { results := [.lit (.bool false)], args := [] }
  | _ => none }
def NumKnownWrongFalsely : Prop := numKnownRow.holds Try.pinned (OpenSpec.ofChange numKnownWrong)

/-- 'packhorselaw01.NumLists': WHATEVER THE INPUT: true; the input reads as it did. -/
def numListsSpec : ChangeSpec := { name := "numLists", fn := fun _ => fun
  | [d1, d2, d3, d4, d5] => { results := [.lit (.bool true)], args := [d1, d2, d3, d4, d5] }
  | _ => none }
def numListsRow : OpenClaim := { program := "ytbdaiflghgihcaa", sum := "6c18556c73df27d0c6978fd7aa85774b694009e5bee7f5fa95fbbce8bcc75245", func := "packhorse/packhorselaw01.NumLists", spec := "numLists", unfollowed := true, recurses := true, apart := false }
def NumListsSaid : Prop := numListsRow.holds Try.pinned (OpenSpec.ofChange numListsSpec)

/-- ITS FALSE NEIGHBOUR: 'it returns false'. Refute it at one input. -/
def numListsWrong : ChangeSpec := { name := "numLists", fn := fun _ => fun
  | [d1, d2, d3, d4, d5] => { results := [.lit (.bool false)], args := [d1, d2, d3, d4, d5] }
  | _ => none }
def NumListsWrongFalsely : Prop := numListsRow.holds Try.pinned (OpenSpec.ofChange numListsWrong)

/-- 'packhorselaw01.NumSeries': WHATEVER THE INPUT: true; the input reads as it did. -/
def numSeriesSpec : ChangeSpec := { name := "numSeries", fn := fun _ => fun
  | [d1, d2, d3] => { results := [.lit (.bool true)], args := [d1, d2, d3] }
  | _ => none }
def numSeriesRow : OpenClaim := { program := "ytbdaiflghgihcaa", sum := "6c18556c73df27d0c6978fd7aa85774b694009e5bee7f5fa95fbbce8bcc75245", func := "packhorse/packhorselaw01.NumSeries", spec := "numSeries", unfollowed := true, recurses := true, apart := false }
def NumSeriesSaid : Prop := numSeriesRow.holds Try.pinned (OpenSpec.ofChange numSeriesSpec)

/-- ITS FALSE NEIGHBOUR: 'it returns false'. Refute it at one input. -/
def numSeriesWrong : ChangeSpec := { name := "numSeries", fn := fun _ => fun
  | [d1, d2, d3] => { results := [.lit (.bool false)], args := [d1, d2, d3] }
  | _ => none }
def NumSeriesWrongFalsely : Prop := numSeriesRow.holds Try.pinned (OpenSpec.ofChange numSeriesWrong)

/-- 'packhorselaw21.BucketSteps': WHATEVER THE INPUT: true; the input reads as it did. -/
def bucketStepsSpec : ChangeSpec := { name := "bucketSteps", fn := fun _ => fun
  | [d1, d2, d3] => { results := [.lit (.bool true)], args := [d1, d2, d3] }
  | _ => none }
def bucketStepsRow : OpenClaim := { program := "ytbdaiflghgihcaa", sum := "6c18556c73df27d0c6978fd7aa85774b694009e5bee7f5fa95fbbce8bcc75245", func := "packhorse/packhorselaw21.BucketSteps", spec := "bucketSteps", unfollowed := true, recurses := true, apart := false }
def BucketStepsSaid : Prop := bucketStepsRow.holds Try.pinned (OpenSpec.ofChange bucketStepsSpec)

/-- ITS FALSE NEIGHBOUR: 'it returns false'. Refute it at one input. -/
def bucketStepsWrong : ChangeSpec := { name := "bucketSteps", fn := fun _ => fun
  | [d1, d2, d3] => { results := [.lit (.bool false)], args := [d1, d2, d3] }
  | _ => none }
def BucketStepsWrongFalsely : Prop := bucketStepsRow.holds Try.pinned (OpenSpec.ofChange bucketStepsWrong)

/- THE SECOND FORM. 'bulk': how many values and letters a reading holds, each counted each time it is reached (what is shared counts as often as it is met; a slice's spare places count too). A statement '..UptoSaid' is the law's where the arguments, and the package variables that the reading takes, are together of bulk at most 1048576: NARROWER than '..Said'. Prove '..Said' where nothing that the law and all that it calls make is longer than what came in: it says more and counts as full. Else prove '..UptoSaid'. A law counts once. -/
mutual
def uptoBulk {H : Type} : DataW H → Nat
  | .lit (.string bytes) => bytes.length + 1
  | .lit _ => 1
  | .nil => 1
  | .ptr d => uptoBulk d + 1
  | .slice elems spare => uptoBulkAll elems + uptoBulkAll spare + 1
  | .agg parts => uptoBulkAll parts + 1
  | .iface _ d => uptoBulk d + 1
  | .map entries => uptoBulkEntries entries + 1
  | .held _ => 1
def uptoBulkAll {H : Type} : List (DataW H) → Nat
  | [] => 0
  | d :: r => uptoBulk d + uptoBulkAll r
def uptoBulkEntries {H : Type} : List (Lit × DataW H) → Nat
  | [] => 0
  | x :: r => uptoBulkEntry x + uptoBulkEntries r
def uptoBulkEntry {H : Type} : Lit × DataW H → Nat
  | (.string bytes, d) => bytes.length + uptoBulk d + 1
  | (_, d) => uptoBulk d + 1
 end
def uptoSmall : (H : Type) → List (DataW H) → Bool := fun _ ds => decide (uptoBulkAll ds ≤ 1048576)
def OpenSpec.upto (s : _root_.Go.ChangeSpec) : _root_.Go.OpenSpec := { _root_.Go.OpenSpec.ofChange s with cond := some uptoSmall }

/-- 'packhorselaw01.NumBack', WHERE WHAT IT READS IS OF BULK AT MOST 1048576: true; the input reads as it did. -/
def numBackUptoRow : OpenClaim := { program := "ytbdaiflghgihcaa", sum := "6c18556c73df27d0c6978fd7aa85774b694009e5bee7f5fa95fbbce8bcc75245", func := "packhorse/packhorselaw01.NumBack", spec := "numBack", unfollowed := true, recurses := true, apart := false, narrowed := true }
def NumBackUptoSaid : Prop := numBackUptoRow.holds Try.pinned (OpenSpec.upto numBackSpec)

/-- 'packhorselaw01.NumOnly', WHERE WHAT IT READS IS OF BULK AT MOST 1048576: true; the input reads as it did. -/
def numOnlyUptoRow : OpenClaim := { program := "ytbdaiflghgihcaa", sum := "6c18556c73df27d0c6978fd7aa85774b694009e5bee7f5fa95fbbce8bcc75245", func := "packhorse/packhorselaw01.NumOnly", spec := "numOnly", unfollowed := true, recurses := true, apart := false, narrowed := true }
def NumOnlyUptoSaid : Prop := numOnlyUptoRow.holds Try.pinned (OpenSpec.upto numOnlySpec)

/-- 'packhorselaw01.NumOrder', WHERE WHAT IT READS IS OF BULK AT MOST 1048576: true; the input reads as it did. -/
def numOrderUptoRow : OpenClaim := { program := "ytbdaiflghgihcaa", sum := "6c18556c73df27d0c6978fd7aa85774b694009e5bee7f5fa95fbbce8bcc75245", func := "packhorse/packhorselaw01.NumOrder", spec := "numOrder", unfollowed := true, recurses := true, apart := false, narrowed := true }
def NumOrderUptoSaid : Prop := numOrderUptoRow.holds Try.pinned (OpenSpec.upto numOrderSpec)

/-- 'packhorselaw01.NumForms', WHERE WHAT IT READS IS OF BULK AT MOST 1048576: true; the input reads as it did. -/
def numFormsUptoRow : OpenClaim := { program := "ytbdaiflghgihcaa", sum := "6c18556c73df27d0c6978fd7aa85774b694009e5bee7f5fa95fbbce8bcc75245", func := "packhorse/packhorselaw01.NumForms", spec := "numForms", unfollowed := true, recurses := true, apart := false, narrowed := true }
def NumFormsUptoSaid : Prop := numFormsUptoRow.holds Try.pinned (OpenSpec.upto numFormsSpec)

/-- 'packhorselaw21.BucketFills', WHERE WHAT IT READS IS OF BULK AT MOST 1048576: true; the input reads as it did. -/
def bucketFillsUptoRow : OpenClaim := { program := "ytbdaiflghgihcaa", sum := "6c18556c73df27d0c6978fd7aa85774b694009e5bee7f5fa95fbbce8bcc75245", func := "packhorse/packhorselaw21.BucketFills", spec := "bucketFills", unfollowed := true, recurses := true, apart := false, narrowed := true }
def BucketFillsUptoSaid : Prop := bucketFillsUptoRow.holds Try.pinned (OpenSpec.upto bucketFillsSpec)

/-- 'packhorselaw21.BucketWaits', WHERE WHAT IT READS IS OF BULK AT MOST 1048576: true; the input reads as it did. -/
def bucketWaitsUptoRow : OpenClaim := { program := "ytbdaiflghgihcaa", sum := "6c18556c73df27d0c6978fd7aa85774b694009e5bee7f5fa95fbbce8bcc75245", func := "packhorse/packhorselaw21.BucketWaits", spec := "bucketWaits", unfollowed := true, recurses := true, apart := false, narrowed := true }
def BucketWaitsUptoSaid : Prop := bucketWaitsUptoRow.holds Try.pinned (OpenSpec.upto bucketWaitsSpec)

/-- 'packhorselaw21.BucketKnown', WHERE WHAT IT READS IS OF BULK AT MOST 1048576: true; the input reads as it did. -/
def bucketKnownUptoRow : OpenClaim := { program := "ytbdaiflghgihcaa", sum := "6c18556c73df27d0c6978fd7aa85774b694009e5bee7f5fa95fbbce8bcc75245", func := "packhorse/packhorselaw21.BucketKnown", spec := "bucketKnown", unfollowed := true, recurses := true, apart := false, narrowed := true }
def BucketKnownUptoSaid : Prop := bucketKnownUptoRow.holds Try.pinned (OpenSpec.upto bucketKnownSpec)

/-- 'packhorselaw21.BucketHolds', WHERE WHAT IT READS IS OF BULK AT MOST 1048576: true; the input reads as it did. -/
def bucketHoldsUptoRow : OpenClaim := { program := "ytbdaiflghgihcaa", sum := "6c18556c73df27d0c6978fd7aa85774b694009e5bee7f5fa95fbbce8bcc75245", func := "packhorse/packhorselaw21.BucketHolds", spec := "bucketHolds", unfollowed := true, recurses := true, apart := false, narrowed := true }
def BucketHoldsUptoSaid : Prop := bucketHoldsUptoRow.holds Try.pinned (OpenSpec.upto bucketHoldsSpec)

/-- 'packhorselaw01.NumKnown', WHERE WHAT IT READS IS OF BULK AT MOST 1048576: true; the input reads as it did. -/
def numKnownUptoRow : OpenClaim := { program := "ytbdaiflghgihcaa", sum := "6c18556c73df27d0c6978fd7aa85774b694009e5bee7f5fa95fbbce8bcc75245", func := "packhorse/packhorselaw01.NumKnown", spec := "numKnown", unfollowed := true, recurses := true, apart := false, narrowed := true }
def NumKnownUptoSaid : Prop := numKnownUptoRow.holds Try.pinned (OpenSpec.upto numKnownSpec)

/-- 'packhorselaw01.NumLists', WHERE WHAT IT READS IS OF BULK AT MOST 1048576: true; the input reads as it did. -/
def numListsUptoRow : OpenClaim := { program := "ytbdaiflghgihcaa", sum := "6c18556c73df27d0c6978fd7aa85774b694009e5bee7f5fa95fbbce8bcc75245", func := "packhorse/packhorselaw01.NumLists", spec := "numLists", unfollowed := true, recurses := true, apart := false, narrowed := true }
def NumListsUptoSaid : Prop := numListsUptoRow.holds Try.pinned (OpenSpec.upto numListsSpec)

/-- 'packhorselaw01.NumSeries', WHERE WHAT IT READS IS OF BULK AT MOST 1048576: true; the input reads as it did. -/
def numSeriesUptoRow : OpenClaim := { program := "ytbdaiflghgihcaa", sum := "6c18556c73df27d0c6978fd7aa85774b694009e5bee7f5fa95fbbce8bcc75245", func := "packhorse/packhorselaw01.NumSeries", spec := "numSeries", unfollowed := true, recurses := true, apart := false, narrowed := true }
def NumSeriesUptoSaid : Prop := numSeriesUptoRow.holds Try.pinned (OpenSpec.upto numSeriesSpec)

/-- 'packhorselaw21.BucketSteps', WHERE WHAT IT READS IS OF BULK AT MOST 1048576: true; the input reads as it did. -/
def bucketStepsUptoRow : OpenClaim := { program := "ytbdaiflghgihcaa", sum := "6c18556c73df27d0c6978fd7aa85774b694009e5bee7f5fa95fbbce8bcc75245", func := "packhorse/packhorselaw21.BucketSteps", spec := "bucketSteps", unfollowed := true, recurses := true, apart := false, narrowed := true }
def BucketStepsUptoSaid : Prop := bucketStepsUptoRow.holds Try.pinned (OpenSpec.upto bucketStepsSpec)

end Rows
end Go.Proofs.Ytbdaiflghgihcaa
