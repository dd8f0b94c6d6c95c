/-
  The Go function FrameBytes returns true for every input and leaves its arguments as they were.
  Conditions: none beyond those of the given row.
-/
import Derived.Test.YtaiofjffoboicaaGreatDoorRows
import Derived.Test.YtaiofjffoboicaaGreatDoorCards
import Derived.Test.YtaiofjffoboicaaGreatDoorTie
import Derived.SevenTiedAt
import Derived.LaidMore
import Derived.Stop.Joined
import Derived.Stop.LaidErr
import Derived.MakeChecks
import Derived.Lib.LaidTab
import Derived.Test.YtaiofjffoboicaaGreatDoorCX1
import Derived.WalkKit
import Derived.ProofKit
import Derived.OpenShut
import Derived.ShutString
import Derived.ChangeOld
import Derived.Below
import Derived.Test.YtaiofjffoboicaaGreatDoorCFwBytes
namespace Go.Proofs.YtaiofjffoboicaaGreatDoor.lawFrameBytes
open Go.ChangeShapes Go.WideShapes Go.ChangeAt Go.RowKit
open Go.ChangeMaps (open_string shut_string)
set_option linter.unusedVariables false

theorem own : ownKnob Tryz.prog.godebug = none := by kernel_rfl
theorem laidOut : laidOutB Tryz.prog = true := by kernel_rfl

set_option maxRecDepth 100000 in
/-- The table strings.asciiSpace, out of the row's condition. -/
theorem tab_met3 {W : World} (h : laidMetH Tryz.prog Rows.frameBytesRow.laid W) : Lib.TabIs Tryz.prog W blanksNm .u8 Lib.asciiSpaceTab := by
  rw [MakeChecks.laidMetH_plain _ _ _ (by kernel_rfl)] at h
  have h2 := h.tail.tail.tail.tail.tail.tail
  exact Lib.tabIs_of_head (g := 0) (t := 90) (e := 5) (n := 256) (by kernel_rfl) (by kernel_rfl) Tryz.underlying90 Tryz.underlying5 (by kernel_rfl) (by kernel_rfl) h2

set_option maxRecDepth 100000 in
/-- The table internal/strconv.uint64pow10, out of the row's condition. -/
theorem tab_met2 {W : World} (h : laidMetH Tryz.prog Rows.frameBytesRow.laid W) : Lib.TabIs Tryz.prog W tabNm .u64 Lib.pow10Tab := by
  rw [MakeChecks.laidMetH_plain _ _ _ (by kernel_rfl)] at h
  have h2 := h.tail.tail
  exact Lib.tabIs_of_head (g := 3) (t := 146) (e := 22) (n := 20) (by kernel_rfl) (by kernel_rfl) Tryz.underlying146 Tryz.underlying22 (by kernel_rfl) (by kernel_rfl) h2

set_option maxRecDepth 100000 in
/-- The table packhorse/wire.heads, out of the row's condition. -/
theorem tab_met1 {W : World} (h : laidMetH Tryz.prog Rows.frameBytesRow.laid W) : Lib.TabIs Tryz.prog W headsNm .u8 headsTab := by
  rw [MakeChecks.laidMetH_plain _ _ _ (by kernel_rfl)] at h
  have h2 := h.tail.tail.tail.tail
  exact Lib.tabIs_of_head (g := 2) (t := 141) (e := 5) (n := 6) (by kernel_rfl) (by kernel_rfl) Tryz.underlying141 Tryz.underlying5 (by kernel_rfl) (by kernel_rfl) h2

set_option maxRecDepth 100000 in
/-- The table packhorse/sum.table, out of the row's condition. -/
theorem tab_met0 {W : World} (h : laidMetH Tryz.prog Rows.frameBytesRow.laid W) : Lib.TabIs Tryz.prog W sumNm .u32 sumTab := by
  rw [MakeChecks.laidMetH_plain _ _ _ (by kernel_rfl)] at h
  have h2 := h.tail.tail.tail
  exact Lib.tabIs_of_head (g := 5) (t := 167) (e := 114) (n := 16) (by kernel_rfl) (by kernel_rfl) Tryz.underlying167 Tryz.underlying114 (by kernel_rfl) (by kernel_rfl) h2

/-- The heap that the initialisers leave meets the condition. -/
theorem door_met (os : Os) (args : Array Value) : laidMetH Tryz.prog Rows.frameBytesRow.laid ((World.doorLaid Tryz.prog 58 os).forCall (fun _ _ => 0) ⟨#[], args, []⟩).memory :=
  laidMetH_of_parts3 (fuel := 8) (laidMet_of_run' 8 (by kernel_rfl) (by kernel_rfl)) (by kernel_rfl) (by kernel_rfl)

set_option maxRecDepth 100000 in
theorem lifted (os : Os) (started : os.Started) (H : Type) (enc : TypeId × Value → H) :
    ReturnsInHanded {} Tryz.checked os 3 .any (fun w args => (Rows.frameBytesSpec.pre enc Tryz.prog Tryz.f3 [] false w args ∧ laidMetH Tryz.prog Rows.frameBytesRow.laid w) ∧ sizedMet enc Tryz.prog Tryz.f3 (OpenSpec.ofChange Rows.frameBytesSpec) false w args)
      (Rows.frameBytesSpec.post enc Tryz.prog Tryz.f3 false true false false) := by
  refine returnsInHanded_of_change_and (C := Tryz.checked) (X := fun w _ => laidMetH Tryz.prog Rows.frameBytesRow.laid w) (fun _ _ _ hh h => h.of_heap hh) own started (by kernel_rfl) Tryz.func3
    (ChangeSpec.witness_shaped (enc := enc) (C := Tryz.checked) (os := os) (X := fun w _ => laidMetH Tryz.prog Rows.frameBytesRow.laid w) false (World.doorLaid Tryz.prog 58 os) #[.agg #[.int .i64 0, .int .i64 0, .int .i64 0, .int .u64 0, .int .u64 0, .int .u64 0, .int .u64 0, .int .i64 0, .int .u64 0, .int .i64 0, .int .i64 0, .int .u64 0, .int .i64 0, .int .i64 0, .int .i64 0, .int .i64 0, .int .i64 0, .int .i64 0, .string ByteArray.empty]] 8 rfl (World.shaped_of_RefB (by kernel_rfl) (by kernel_rfl)) (by kernel_rfl) (by kernel_rfl) (by kernel_rfl) (door_met os _)) ?_
  intro W base args ds gs before hval0 hW _ _ hL _
  have htab0 := tab_met0 hL
  have htab1 := tab_met1 hL
  have htab2 := tab_met2 hL
  have htab3 := tab_met3 hL
  have hval : ∀ (j : Nat) t v, Tryz.f3.params[j]? = some t → args[j]? = some v → Value.okWide Tryz.prog W .any base t v := hval0
  have hW' := hW
  obtain ⟨p, q, hA0, hV, rfl, hfz, hnd⟩ := hW
  have hA : DataW.TrodAll enc Tryz.prog W 0 (fun _ => true) true Tryz.f3.params.toList args.toList ds p := hA0
  rw [Tryz.params3] at hA hval
  obtain ⟨v0, vs0, d0, ds0, p0, q0, hargs, rfl, rfl, h0, r0⟩ := trodAll_cons hA
  obtain ⟨rfl, rfl, rfl⟩ := trodAll_nil r0
  obtain rfl : args = #[v0] := by cases args; simp_all
  obtain ⟨rfl, rfl⟩ := trodVars_none hV
  have k0 := h0
  have lt0 : ∀ x ∈ p0, x.block < W.heap.size := by obtain ⟨m, hm⟩ := k0; exact DataW.trod_lt m _ _ _ hm
  obtain ⟨cs0, rfl, fl0⟩ := open_flat (ks := [some (some .i64), some (some .i64), some (some .i64), some (some .u64), some (some .u64), some (some .u64), some (some .u64), some (some .i64), some (some .u64), some (some .i64), some (some .i64), some (some .u64), some (some .i64), some (some .i64), some (some .i64), some (some .i64), some (some .i64), some (some .i64), some none]) 12 Tryz.underlying28 (by kernel_rfl) (hval 0 28 v0 rfl rfl) h0
  obtain ⟨c0_0, cs0_0, rfl, q0_0, r0_0⟩ := CellsAre.cons fl0
  obtain ⟨c0_1, cs0_1, rfl, q0_1, r0_1⟩ := CellsAre.cons r0_0
  obtain ⟨c0_2, cs0_2, rfl, q0_2, r0_2⟩ := CellsAre.cons r0_1
  obtain ⟨c0_3, cs0_3, rfl, q0_3, r0_3⟩ := CellsAre.cons r0_2
  obtain ⟨c0_4, cs0_4, rfl, q0_4, r0_4⟩ := CellsAre.cons r0_3
  obtain ⟨c0_5, cs0_5, rfl, q0_5, r0_5⟩ := CellsAre.cons r0_4
  obtain ⟨c0_6, cs0_6, rfl, q0_6, r0_6⟩ := CellsAre.cons r0_5
  obtain ⟨c0_7, cs0_7, rfl, q0_7, r0_7⟩ := CellsAre.cons r0_6
  obtain ⟨c0_8, cs0_8, rfl, q0_8, r0_8⟩ := CellsAre.cons r0_7
  obtain ⟨c0_9, cs0_9, rfl, q0_9, r0_9⟩ := CellsAre.cons r0_8
  obtain ⟨c0_10, cs0_10, rfl, q0_10, r0_10⟩ := CellsAre.cons r0_9
  obtain ⟨c0_11, cs0_11, rfl, q0_11, r0_11⟩ := CellsAre.cons r0_10
  obtain ⟨c0_12, cs0_12, rfl, q0_12, r0_12⟩ := CellsAre.cons r0_11
  obtain ⟨c0_13, cs0_13, rfl, q0_13, r0_13⟩ := CellsAre.cons r0_12
  obtain ⟨c0_14, cs0_14, rfl, q0_14, r0_14⟩ := CellsAre.cons r0_13
  obtain ⟨c0_15, cs0_15, rfl, q0_15, r0_15⟩ := CellsAre.cons r0_14
  obtain ⟨c0_16, cs0_16, rfl, q0_16, r0_16⟩ := CellsAre.cons r0_15
  obtain ⟨c0_17, cs0_17, rfl, q0_17, r0_17⟩ := CellsAre.cons r0_16
  obtain ⟨c0_18, cs0_18, rfl, q0_18, r0_18⟩ := CellsAre.cons r0_17
  obtain rfl := CellsAre.nil r0_18
  obtain ⟨a0_0, rfl, w0_0⟩ := q0_0
  obtain ⟨a0_1, rfl, w0_1⟩ := q0_1
  obtain ⟨a0_2, rfl, w0_2⟩ := q0_2
  obtain ⟨a0_3, rfl, w0_3⟩ := q0_3
  obtain ⟨a0_4, rfl, w0_4⟩ := q0_4
  obtain ⟨a0_5, rfl, w0_5⟩ := q0_5
  obtain ⟨a0_6, rfl, w0_6⟩ := q0_6
  obtain ⟨a0_7, rfl, w0_7⟩ := q0_7
  obtain ⟨a0_8, rfl, w0_8⟩ := q0_8
  obtain ⟨a0_9, rfl, w0_9⟩ := q0_9
  obtain ⟨a0_10, rfl, w0_10⟩ := q0_10
  obtain ⟨a0_11, rfl, w0_11⟩ := q0_11
  obtain ⟨a0_12, rfl, w0_12⟩ := q0_12
  obtain ⟨a0_13, rfl, w0_13⟩ := q0_13
  obtain ⟨a0_14, rfl, w0_14⟩ := q0_14
  obtain ⟨a0_15, rfl, w0_15⟩ := q0_15
  obtain ⟨a0_16, rfl, w0_16⟩ := q0_16
  obtain ⟨a0_17, rfl, w0_17⟩ := q0_17
  obtain ⟨a0_18, rfl, w0_18⟩ := q0_18
  clear hA0 hval0
  refine (frameBytes_walk a0_0 a0_1 a0_2 a0_3 a0_4 a0_5 a0_6 a0_7 a0_8 a0_9 a0_10 a0_11 a0_12 a0_13 a0_14 a0_15 a0_16 a0_17 a0_18 w0_3 w0_4 w0_5 w0_6 w0_8 w0_11 w0_18 W htab0 htab1 htab2 htab3).mono fun e W' ⟨he, bel⟩ => ?_
  subst he
  exact ⟨_, rfl, _, _, _, [], _, [], hW', trodAll_mk1 (shut_bool Tryz.underlying4 _), (trodAll_cons_mk (Below.trod laidOut (by kernel_rfl) (of_decide_eq_true (by kernel_rfl)) k0 bel lt0) trodAll_mk0), rfl, bel.frame _, fun h => by cases h⟩

theorem over : Rows.frameBytesRow.holds Tryz.pinned (OpenSpec.ofChange Rows.frameBytesSpec) :=
  OpenClaim.holds_of_wide 3 Tryz.f3 rfl rfl rfl rfl rfl rfl rfl ⟨rfl, rfl, rfl, rfl, rfl⟩ rfl rfl rfl rfl rfl (by kernel_rfl) Tryz.func3 (by kernel_rfl)
    (of_decide_eq_true (by kernel_rfl)) (by unfold Func.isWrapper; first | (rw [if_pos (by decide +kernel)]; kernel_rfl) | (rw [if_neg (by decide +kernel)]; exact ⟨rfl, rfl⟩))
    (fun os started H enc _ => lifted os started H enc)

theorem carded : Rows.FrameBytesCardSaid :=
  Claim7.holds_tied_plain_at .later [] Rows.frameBytesCard.laidKinds true Rows.frameBytesCard.stood.harness Rows.frameBytesCard.stood.looks
    over (fun _ h => by cases h) (by kernel_rfl) (fun _ h => by cases h) frameBytes_row_tie rfl ⟨rfl, rfl⟩ (by kernel_rfl) rfl
    (fun f fn hf hfn => by
      obtain rfl : f = 3 := Option.some.inj ((show Tryz.prog.funcNamed Rows.frameBytesRow.func = some 3 by kernel_rfl).symm.trans hf) |>.symm
      obtain rfl : fn = Tryz.f3 := (Option.some.inj (Tryz.func3.symm.trans hfn)).symm
      exact ⟨by kernel_rfl, fun j t ht => by
        rw [Tryz.params3] at ht
        have hm : t ∈ [28] := by simpa using Array.mem_of_getElem? ht
        have hall : ([28].all fun u => !Tryz.prog.wantsStandIn u) = true := by kernel_rfl
        exact (show Tryz.prog.wantsStandIn t = false by simpa using List.all_eq_true.1 hall t hm)⟩)
    (by kernel_rfl)
theorem proved : Rows.FrameBytesCardSaid := carded
#print axioms proved
end Go.Proofs.YtaiofjffoboicaaGreatDoor.lawFrameBytes
