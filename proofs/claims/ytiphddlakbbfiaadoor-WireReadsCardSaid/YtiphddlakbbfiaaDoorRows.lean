/-
  NARROWER THAN 'FOR EVERY INPUT', by the rows' own cells (each row's printed sentence says how): WireWrites: laid · WireReads: laid · WireKnown: laid · WireBack: laid · WireOnly: laid · WireSpoilt: laid · WireGrows: laid.
  DERIVED. THE GIVEN ROWS OF THIS SEAT. 7 by the template 'for every input the law returns true; each argument reads behind the call as it read before'; 0 by the template 'total and deterministic' (their statements: YtiphddlakbbfiaaDoorTotals.lean).
  GIVEN WITH THE SEED: the statements are not yours to turn. If you find one false, say at which input.
  Laid BY PROGRAM, IN A SANDBOX (cutbox-rows.mjs): the forced cells as the released guide's own fill.sh prints them over the translation bcd11c6bad87c394… (all of the seat's roots in one cut). By AI agents, Wed Nov 11 2026. No macro, syntax, notation, axiom, sorry.
-/
import Derived.Test.YtiphddlakbbfiaaDoorChecked
import GoSem.Claim
import GoSem.ClaimJoined
import GoSem.ClaimMapViews
import Derived.JoinedTies
import Derived.KernelRfl
namespace Go.Proofs.YtiphddlakbbfiaaDoor
/- THE CELL 'sum', in the pinned program and in every row, IS THE sha256 OF THE DUMP (.gsa) THAT YtiphddlakbbfiaaDoorProg.lean LOADS. Nothing in Lean hashes anything: it is a label: what it is worth is what the hold of that sum in a sandbox is worth. -/
noncomputable def Tryd.pinned : Pinned := { name := "ytiphddlakbbfiaadoor", sum := "bcd11c6bad87c394947e00f2bd741ed7af85ae466d84ce5243a99ce8e362691c", checked := Tryd.checked }
namespace Rows
def none {H : Type} : Left H := { results := [], args := [] }

/- WHAT THE LISTED PACKAGE-LEVEL VARIABLES READ AS WHEN THE CALL BEGINS. Each datum BY PROGRAM (the guide's laid-datum.mjs) off the statement by which the dump's own 'gosem.cut.vars' lays the variable. In a bare row this is a premise. The card (YtiphddlakbbfiaaDoorCards.lean) ties it to the program's text. -/
def laid_packhorse_sum_table {H : Type} : DataW H := .agg [.lit (.int .u32 0), .lit (.int .u32 274646895), .lit (.int .u32 549293790), .lit (.int .u32 820201905), .lit (.int .u32 1098587580), .lit (.int .u32 1361435347), .lit (.int .u32 1640403810), .lit (.int .u32 1905808397), .lit (.int .u32 2197175160), .lit (.int .u32 2460548119), .lit (.int .u32 2722870694), .lit (.int .u32 2987750089), .lit (.int .u32 3280807620), .lit (.int .u32 3553878443), .lit (.int .u32 3811616794), .lit (.int .u32 4084100981)]
def laid_packhorse_wire_heads {H : Type} : DataW H := .agg [.lit (.int .u8 176), .lit (.int .u8 177), .lit (.int .u8 178), .lit (.int .u8 180), .lit (.int .u8 181), .lit (.int .u8 182)]

/-- 'packhorselaw07.WireWrites': WHATEVER THE INPUT: true; the input reads as it did. -/
def wireWritesSpec : ChangeSpec := { name := "wireWrites", fn := fun _ => fun
  | [d1, d2] => { results := [.lit (.bool true)], args := [d1, d2] }
  | _ => none }
def wireWritesRow : OpenClaim := { program := "ytiphddlakbbfiaadoor", sum := "bcd11c6bad87c394947e00f2bd741ed7af85ae466d84ce5243a99ce8e362691c", func := "packhorse/packhorselaw07.WireWrites", spec := "wireWrites", unfollowed := true, recurses := true, named := ["packhorse/wire.heads", "packhorse/sum.table"], apart := false, laid := [("packhorse/sum.table", laid_packhorse_sum_table), ("packhorse/wire.heads", laid_packhorse_wire_heads)] }
def WireWritesSaid : Prop := wireWritesRow.holds Tryd.pinned (OpenSpec.ofChange wireWritesSpec)

/-- ITS FALSE NEIGHBOUR: 'it returns false'. Refute it at one input. -/
def wireWritesWrong : ChangeSpec := { name := "wireWrites", fn := fun _ => fun
  | [d1, d2] => { results := [.lit (.bool false)], args := [d1, d2] }
  | _ => none }
def WireWritesWrongFalsely : Prop := wireWritesRow.holds Tryd.pinned (OpenSpec.ofChange wireWritesWrong)

/-- 'packhorselaw07.WireReads': WHATEVER THE INPUT: true; the input reads as it did. -/
def wireReadsSpec : ChangeSpec := { name := "wireReads", fn := fun _ => fun
  | [d] => { results := [.lit (.bool true)], args := [d] }
  | _ => none }
def wireReadsRow : OpenClaim := { program := "ytiphddlakbbfiaadoor", sum := "bcd11c6bad87c394947e00f2bd741ed7af85ae466d84ce5243a99ce8e362691c", func := "packhorse/packhorselaw07.WireReads", spec := "wireReads", unfollowed := true, recurses := true, named := ["packhorse/wire.heads", "packhorse/sum.table"], apart := false, laid := [("packhorse/sum.table", laid_packhorse_sum_table), ("packhorse/wire.heads", laid_packhorse_wire_heads)] }
def WireReadsSaid : Prop := wireReadsRow.holds Tryd.pinned (OpenSpec.ofChange wireReadsSpec)

/-- ITS FALSE NEIGHBOUR: 'it returns false'. Refute it at one input. -/
def wireReadsWrong : ChangeSpec := { name := "wireReads", fn := fun _ => fun
  | [d] => { results := [.lit (.bool false)], args := [d] }
  | _ => none }
def WireReadsWrongFalsely : Prop := wireReadsRow.holds Tryd.pinned (OpenSpec.ofChange wireReadsWrong)

/-- 'packhorselaw07.WireKnown': WHATEVER THE INPUT: true; the input reads as it did. -/
def wireKnownSpec : ChangeSpec := { name := "wireKnown", fn := fun _ => fun
  | [] => { results := [.lit (.bool true)], args := [] }
  | _ => none }
def wireKnownRow : OpenClaim := { program := "ytiphddlakbbfiaadoor", sum := "bcd11c6bad87c394947e00f2bd741ed7af85ae466d84ce5243a99ce8e362691c", func := "packhorse/packhorselaw07.WireKnown", spec := "wireKnown", unfollowed := true, recurses := true, named := ["packhorse/wire.heads", "packhorse/sum.table"], apart := false, laid := [("packhorse/sum.table", laid_packhorse_sum_table), ("packhorse/wire.heads", laid_packhorse_wire_heads)] }
def WireKnownSaid : Prop := wireKnownRow.holds Tryd.pinned (OpenSpec.ofChange wireKnownSpec)

/-- ITS FALSE NEIGHBOUR: 'it returns false'. Refute it at one input. -/
def wireKnownWrong : ChangeSpec := { name := "wireKnown", fn := fun _ => fun
  | [] => { results := [.lit (.bool false)], args := [] }
  | _ => none }
def WireKnownWrongFalsely : Prop := wireKnownRow.holds Tryd.pinned (OpenSpec.ofChange wireKnownWrong)

/-- 'packhorselaw07.WireBack': WHATEVER THE INPUT: true; the input reads as it did. -/
def wireBackSpec : ChangeSpec := { name := "wireBack", fn := fun _ => fun
  | [d] => { results := [.lit (.bool true)], args := [d] }
  | _ => none }
def wireBackRow : OpenClaim := { program := "ytiphddlakbbfiaadoor", sum := "bcd11c6bad87c394947e00f2bd741ed7af85ae466d84ce5243a99ce8e362691c", func := "packhorse/packhorselaw07.WireBack", spec := "wireBack", unfollowed := true, recurses := true, named := ["packhorse/wire.heads", "packhorse/sum.table"], apart := false, laid := [("packhorse/sum.table", laid_packhorse_sum_table), ("packhorse/wire.heads", laid_packhorse_wire_heads)] }
def WireBackSaid : Prop := wireBackRow.holds Tryd.pinned (OpenSpec.ofChange wireBackSpec)

/-- ITS FALSE NEIGHBOUR: 'it returns false'. Refute it at one input. -/
def wireBackWrong : ChangeSpec := { name := "wireBack", fn := fun _ => fun
  | [d] => { results := [.lit (.bool false)], args := [d] }
  | _ => none }
def WireBackWrongFalsely : Prop := wireBackRow.holds Tryd.pinned (OpenSpec.ofChange wireBackWrong)

/-- 'packhorselaw07.WireOnly': WHATEVER THE INPUT: true; the input reads as it did. -/
def wireOnlySpec : ChangeSpec := { name := "wireOnly", fn := fun _ => fun
  | [d] => { results := [.lit (.bool true)], args := [d] }
  | _ => none }
def wireOnlyRow : OpenClaim := { program := "ytiphddlakbbfiaadoor", sum := "bcd11c6bad87c394947e00f2bd741ed7af85ae466d84ce5243a99ce8e362691c", func := "packhorse/packhorselaw07.WireOnly", spec := "wireOnly", unfollowed := true, recurses := true, named := ["packhorse/wire.heads", "packhorse/sum.table"], apart := false, laid := [("packhorse/sum.table", laid_packhorse_sum_table), ("packhorse/wire.heads", laid_packhorse_wire_heads)] }
def WireOnlySaid : Prop := wireOnlyRow.holds Tryd.pinned (OpenSpec.ofChange wireOnlySpec)

/-- ITS FALSE NEIGHBOUR: 'it returns false'. Refute it at one input. -/
def wireOnlyWrong : ChangeSpec := { name := "wireOnly", fn := fun _ => fun
  | [d] => { results := [.lit (.bool false)], args := [d] }
  | _ => none }
def WireOnlyWrongFalsely : Prop := wireOnlyRow.holds Tryd.pinned (OpenSpec.ofChange wireOnlyWrong)

/-- 'packhorselaw07.WireSpoilt': WHATEVER THE INPUT: true; the input reads as it did. -/
def wireSpoiltSpec : ChangeSpec := { name := "wireSpoilt", fn := fun _ => fun
  | [d1, d2, d3] => { results := [.lit (.bool true)], args := [d1, d2, d3] }
  | _ => none }
def wireSpoiltRow : OpenClaim := { program := "ytiphddlakbbfiaadoor", sum := "bcd11c6bad87c394947e00f2bd741ed7af85ae466d84ce5243a99ce8e362691c", func := "packhorse/packhorselaw07.WireSpoilt", spec := "wireSpoilt", unfollowed := true, recurses := true, named := ["packhorse/wire.heads", "packhorse/sum.table"], apart := false, laid := [("packhorse/sum.table", laid_packhorse_sum_table), ("packhorse/wire.heads", laid_packhorse_wire_heads)] }
def WireSpoiltSaid : Prop := wireSpoiltRow.holds Tryd.pinned (OpenSpec.ofChange wireSpoiltSpec)

/-- ITS FALSE NEIGHBOUR: 'it returns false'. Refute it at one input. -/
def wireSpoiltWrong : ChangeSpec := { name := "wireSpoilt", fn := fun _ => fun
  | [d1, d2, d3] => { results := [.lit (.bool false)], args := [d1, d2, d3] }
  | _ => none }
def WireSpoiltWrongFalsely : Prop := wireSpoiltRow.holds Tryd.pinned (OpenSpec.ofChange wireSpoiltWrong)

/-- 'packhorselaw07.WireGrows': WHATEVER THE INPUT: true; the input reads as it did. -/
def wireGrowsSpec : ChangeSpec := { name := "wireGrows", fn := fun _ => fun
  | [d1, d2] => { results := [.lit (.bool true)], args := [d1, d2] }
  | _ => none }
def wireGrowsRow : OpenClaim := { program := "ytiphddlakbbfiaadoor", sum := "bcd11c6bad87c394947e00f2bd741ed7af85ae466d84ce5243a99ce8e362691c", func := "packhorse/packhorselaw07.WireGrows", spec := "wireGrows", unfollowed := true, recurses := true, named := ["packhorse/wire.heads", "packhorse/sum.table"], apart := false, laid := [("packhorse/sum.table", laid_packhorse_sum_table), ("packhorse/wire.heads", laid_packhorse_wire_heads)] }
def WireGrowsSaid : Prop := wireGrowsRow.holds Tryd.pinned (OpenSpec.ofChange wireGrowsSpec)

/-- ITS FALSE NEIGHBOUR: 'it returns false'. Refute it at one input. -/
def wireGrowsWrong : ChangeSpec := { name := "wireGrows", fn := fun _ => fun
  | [d1, d2] => { results := [.lit (.bool false)], args := [d1, d2] }
  | _ => none }
def WireGrowsWrongFalsely : Prop := wireGrowsRow.holds Tryd.pinned (OpenSpec.ofChange wireGrowsWrong)

/- THE SECOND FORM. 'bulk': how many values and letters a reading holds, each counted each time it is reached (what is shared counts as often as it is met; a slice's spare places count too). A statement '..UptoSaid' is the law's where the arguments, and the package variables that the reading takes, are together of bulk at most 1048576: NARROWER than '..Said'. Prove '..Said' where nothing that the law and all that it calls make is longer than what came in: it says more and counts as full. Else prove '..UptoSaid'. A law counts once. -/
mutual
def uptoBulk {H : Type} : DataW H → Nat
  | .lit (.string bytes) => bytes.length + 1
  | .lit _ => 1
  | .nil => 1
  | .ptr d => uptoBulk d + 1
  | .slice elems spare => uptoBulkAll elems + uptoBulkAll spare + 1
  | .agg parts => uptoBulkAll parts + 1
  | .iface _ d => uptoBulk d + 1
  | .map entries => uptoBulkEntries entries + 1
  | .held _ => 1
def uptoBulkAll {H : Type} : List (DataW H) → Nat
  | [] => 0
  | d :: r => uptoBulk d + uptoBulkAll r
def uptoBulkEntries {H : Type} : List (Lit × DataW H) → Nat
  | [] => 0
  | x :: r => uptoBulkEntry x + uptoBulkEntries r
def uptoBulkEntry {H : Type} : Lit × DataW H → Nat
  | (.string bytes, d) => bytes.length + uptoBulk d + 1
  | (_, d) => uptoBulk d + 1
 end
def uptoSmall : (H : Type) → List (DataW H) → Bool := fun _ ds => decide (uptoBulkAll ds ≤ 1048576)
def OpenSpec.upto (s : _root_.Go.ChangeSpec) : _root_.Go.OpenSpec := { _root_.Go.OpenSpec.ofChange s with cond := some uptoSmall }

/-- 'packhorselaw07.WireWrites', WHERE WHAT IT READS IS OF BULK AT MOST 1048576: true; the input reads as it did. -/
def wireWritesUptoRow : OpenClaim := { program := "ytiphddlakbbfiaadoor", sum := "bcd11c6bad87c394947e00f2bd741ed7af85ae466d84ce5243a99ce8e362691c", func := "packhorse/packhorselaw07.WireWrites", spec := "wireWrites", unfollowed := true, recurses := true, named := ["packhorse/wire.heads", "packhorse/sum.table"], apart := false, laid := [("packhorse/sum.table", laid_packhorse_sum_table), ("packhorse/wire.heads", laid_packhorse_wire_heads)], narrowed := true }
def WireWritesUptoSaid : Prop := wireWritesUptoRow.holds Tryd.pinned (OpenSpec.upto wireWritesSpec)

/-- 'packhorselaw07.WireReads', WHERE WHAT IT READS IS OF BULK AT MOST 1048576: true; the input reads as it did. -/
def wireReadsUptoRow : OpenClaim := { program := "ytiphddlakbbfiaadoor", sum := "bcd11c6bad87c394947e00f2bd741ed7af85ae466d84ce5243a99ce8e362691c", func := "packhorse/packhorselaw07.WireReads", spec := "wireReads", unfollowed := true, recurses := true, named := ["packhorse/wire.heads", "packhorse/sum.table"], apart := false, laid := [("packhorse/sum.table", laid_packhorse_sum_table), ("packhorse/wire.heads", laid_packhorse_wire_heads)], narrowed := true }
def WireReadsUptoSaid : Prop := wireReadsUptoRow.holds Tryd.pinned (OpenSpec.upto wireReadsSpec)

/-- 'packhorselaw07.WireKnown', WHERE WHAT IT READS IS OF BULK AT MOST 1048576: true; the input reads as it did. -/
def wireKnownUptoRow : OpenClaim := { program := "ytiphddlakbbfiaadoor", sum := "bcd11c6bad87c394947e00f2bd741ed7af85ae466d84ce5243a99ce8e362691c", func := "packhorse/packhorselaw07.WireKnown", spec := "wireKnown", unfollowed := true, recurses := true, named := ["packhorse/wire.heads", "packhorse/sum.table"], apart := false, laid := [("packhorse/sum.table", laid_packhorse_sum_table), ("packhorse/wire.heads", laid_packhorse_wire_heads)], narrowed := true }
def WireKnownUptoSaid : Prop := wireKnownUptoRow.holds Tryd.pinned (OpenSpec.upto wireKnownSpec)

/-- 'packhorselaw07.WireBack', WHERE WHAT IT READS IS OF BULK AT MOST 1048576: true; the input reads as it did. -/
def wireBackUptoRow : OpenClaim := { program := "ytiphddlakbbfiaadoor", sum := "bcd11c6bad87c394947e00f2bd741ed7af85ae466d84ce5243a99ce8e362691c", func := "packhorse/packhorselaw07.WireBack", spec := "wireBack", unfollowed := true, recurses := true, named := ["packhorse/wire.heads", "packhorse/sum.table"], apart := false, laid := [("packhorse/sum.table", laid_packhorse_sum_table), ("packhorse/wire.heads", laid_packhorse_wire_heads)], narrowed := true }
def WireBackUptoSaid : Prop := wireBackUptoRow.holds Tryd.pinned (OpenSpec.upto wireBackSpec)

/-- 'packhorselaw07.WireOnly', WHERE WHAT IT READS IS OF BULK AT MOST 1048576: true; the input reads as it did. -/
def wireOnlyUptoRow : OpenClaim := { program := "ytiphddlakbbfiaadoor", sum := "bcd11c6bad87c394947e00f2bd741ed7af85ae466d84ce5243a99ce8e362691c", func := "packhorse/packhorselaw07.WireOnly", spec := "wireOnly", unfollowed := true, recurses := true, named := ["packhorse/wire.heads", "packhorse/sum.table"], apart := false, laid := [("packhorse/sum.table", laid_packhorse_sum_table), ("packhorse/wire.heads", laid_packhorse_wire_heads)], narrowed := true }
def WireOnlyUptoSaid : Prop := wireOnlyUptoRow.holds Tryd.pinned (OpenSpec.upto wireOnlySpec)

/-- 'packhorselaw07.WireSpoilt', WHERE WHAT IT READS IS OF BULK AT MOST 1048576: true; the input reads as it did. -/
def wireSpoiltUptoRow : OpenClaim := { program := "ytiphddlakbbfiaadoor", sum := "bcd11c6bad87c394947e00f2bd741ed7af85ae466d84ce5243a99ce8e362691c", func := "packhorse/packhorselaw07.WireSpoilt", spec := "wireSpoilt", unfollowed := true, recurses := true, named := ["packhorse/wire.heads", "packhorse/sum.table"], apart := false, laid := [("packhorse/sum.table", laid_packhorse_sum_table), ("packhorse/wire.heads", laid_packhorse_wire_heads)], narrowed := true }
def WireSpoiltUptoSaid : Prop := wireSpoiltUptoRow.holds Tryd.pinned (OpenSpec.upto wireSpoiltSpec)

/-- 'packhorselaw07.WireGrows', WHERE WHAT IT READS IS OF BULK AT MOST 1048576: true; the input reads as it did. -/
def wireGrowsUptoRow : OpenClaim := { program := "ytiphddlakbbfiaadoor", sum := "bcd11c6bad87c394947e00f2bd741ed7af85ae466d84ce5243a99ce8e362691c", func := "packhorse/packhorselaw07.WireGrows", spec := "wireGrows", unfollowed := true, recurses := true, named := ["packhorse/wire.heads", "packhorse/sum.table"], apart := false, laid := [("packhorse/sum.table", laid_packhorse_sum_table), ("packhorse/wire.heads", laid_packhorse_wire_heads)], narrowed := true }
def WireGrowsUptoSaid : Prop := wireGrowsUptoRow.holds Tryd.pinned (OpenSpec.upto wireGrowsSpec)

end Rows
end Go.Proofs.YtiphddlakbbfiaaDoor
