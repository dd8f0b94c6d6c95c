/-
  The Go function WireWrites returns true for every input and leaves its arguments as they were.
  Conditions: none beyond those of the given row.
-/
import Derived.Test.YtiphddlakbbfiaaDoorRows
import Derived.Test.YtiphddlakbbfiaaDoorCards
import Derived.Test.YtiphddlakbbfiaaDoorTie
import Derived.SevenTiedAt
import Derived.LaidMore
import Derived.Stop.Joined
import Derived.Stop.LaidErr
import Derived.MakeChecks
import Derived.Lib.LaidTab
import Derived.Test.YtiphddlakbbfiaaDoorOpen
import Derived.WalkKit
import Derived.ProofKit
import Derived.OpenShut
import Derived.ShutString
import Derived.ChangeOld
import Derived.Below
import Derived.Test.YtiphddlakbbfiaaDoorWiLaw1
namespace Go.Proofs.YtiphddlakbbfiaaDoor.lawWireWrites
open Go.ChangeShapes Go.WideShapes Go.ChangeAt Go.RowKit
open Go.ChangeMaps (open_string shut_string)
set_option linter.unusedVariables false

theorem own : ownKnob Tryd.prog.godebug = none := by kernel_rfl
theorem laidOut : laidOutB Tryd.prog = true := by kernel_rfl

/-- The table packhorse/wire.heads, out of the row's condition. -/
theorem tab_met1 {W : World} (h : laidMetH Tryd.prog Rows.wireWritesRow.laid W) : Lib.TabIs Tryd.prog W headsNm .u8 headsTab := by
  rw [MakeChecks.laidMetH_plain _ _ _ (by kernel_rfl)] at h
  have h2 := h.tail
  exact Lib.tabIs_of_head (g := 0) (t := 82) (e := 5) (n := 6) (by kernel_rfl) (by kernel_rfl) Tryd.underlying82 Tryd.underlying5 (by kernel_rfl) (by kernel_rfl) h2

/-- The table packhorse/sum.table, out of the row's condition. -/
theorem tab_met0 {W : World} (h : laidMetH Tryd.prog Rows.wireWritesRow.laid W) : Lib.TabIs Tryd.prog W sumNm .u32 sumTab := by
  rw [MakeChecks.laidMetH_plain _ _ _ (by kernel_rfl)] at h
  have h2 := h
  exact Lib.tabIs_of_head (g := 1) (t := 104) (e := 56) (n := 16) (by kernel_rfl) (by kernel_rfl) Tryd.underlying104 Tryd.underlying56 (by kernel_rfl) (by kernel_rfl) h2

/-- The heap that the initialisers leave meets the condition. -/
theorem door_met (os : Os) (args : Array Value) : laidMetH Tryd.prog Rows.wireWritesRow.laid ((World.doorLaid Tryd.prog 19 os).forCall (fun _ _ => 0) ⟨#[], args, []⟩).memory :=
  laidMetH_of_parts3 (fuel := 8) (laidMet_of_run' 8 (by kernel_rfl) (by kernel_rfl)) (by kernel_rfl) (by kernel_rfl)

set_option maxRecDepth 100000 in
theorem lifted (os : Os) (started : os.Started) (H : Type) (enc : TypeId × Value → H) :
    ReturnsInHanded {} Tryd.checked os 3 .any (fun w args => (Rows.wireWritesSpec.pre enc Tryd.prog Tryd.f3 [] false w args ∧ laidMetH Tryd.prog Rows.wireWritesRow.laid w) ∧ sizedMet enc Tryd.prog Tryd.f3 (OpenSpec.ofChange Rows.wireWritesSpec) false w args)
      (Rows.wireWritesSpec.post enc Tryd.prog Tryd.f3 false true false false) := by
  refine returnsInHanded_of_change_and (C := Tryd.checked) (X := fun w _ => laidMetH Tryd.prog Rows.wireWritesRow.laid w) (fun _ _ _ hh h => h.of_heap hh) own started (by kernel_rfl) Tryd.func3
    (ChangeSpec.witness_shaped (enc := enc) (C := Tryd.checked) (os := os) (X := fun w _ => laidMetH Tryd.prog Rows.wireWritesRow.laid w) false (World.doorLaid Tryd.prog 19 os) #[.agg #[.int .i64 0, .int .u64 0, .int .i64 0, .int .i64 0, .int .i64 0, .int .i64 0, .int .i64 0, .int .i64 0, .string ByteArray.empty], .int .i64 0] 8 rfl (World.shaped_of_RefB (by kernel_rfl) (by kernel_rfl)) (by kernel_rfl) (by kernel_rfl) (by kernel_rfl) (door_met os _)) ?_
  intro W base args ds gs before hval0 hW _ _ hL _
  have htab0 := tab_met0 hL
  have htab1 := tab_met1 hL
  have hval : ∀ (j : Nat) t v, Tryd.f3.params[j]? = some t → args[j]? = some v → Value.okWide Tryd.prog W .any base t v := hval0
  have hW' := hW
  obtain ⟨p, q, hA0, hV, rfl, hfz, hnd⟩ := hW
  have hA : DataW.TrodAll enc Tryd.prog W 0 (fun _ => true) true Tryd.f3.params.toList args.toList ds p := hA0
  rw [Tryd.params3] at hA hval
  obtain ⟨v0, vs0, d0, ds0, p0, q0, hargs, rfl, rfl, h0, r0⟩ := trodAll_cons hA
  obtain ⟨v1, vs1, d1, ds1, p1, q1, rfl, rfl, rfl, h1, r1⟩ := trodAll_cons r0
  obtain ⟨rfl, rfl, rfl⟩ := trodAll_nil r1
  obtain rfl : args = #[v0, v1] := by cases args; simp_all
  obtain ⟨rfl, rfl⟩ := trodVars_none hV
  have k0 := h0
  have lt0 : ∀ x ∈ p0, x.block < W.heap.size := by obtain ⟨m, hm⟩ := k0; exact DataW.trod_lt m _ _ _ hm
  have k1 := h1
  have lt1 : ∀ x ∈ p1, x.block < W.heap.size := by obtain ⟨m, hm⟩ := k1; exact DataW.trod_lt m _ _ _ hm
  obtain ⟨cs0, rfl, fl0⟩ := open_flat (ks := [some (some .i64), some (some .u64), some (some .i64), some (some .i64), some (some .i64), some (some .i64), some (some .i64), some (some .i64), some none]) 12 Tryd.underlying26 (by kernel_rfl) (hval 0 26 v0 rfl rfl) h0
  obtain ⟨c0_0, cs0_0, rfl, q0_0, r0_0⟩ := CellsAre.cons fl0
  obtain ⟨c0_1, cs0_1, rfl, q0_1, r0_1⟩ := CellsAre.cons r0_0
  obtain ⟨c0_2, cs0_2, rfl, q0_2, r0_2⟩ := CellsAre.cons r0_1
  obtain ⟨c0_3, cs0_3, rfl, q0_3, r0_3⟩ := CellsAre.cons r0_2
  obtain ⟨c0_4, cs0_4, rfl, q0_4, r0_4⟩ := CellsAre.cons r0_3
  obtain ⟨c0_5, cs0_5, rfl, q0_5, r0_5⟩ := CellsAre.cons r0_4
  obtain ⟨c0_6, cs0_6, rfl, q0_6, r0_6⟩ := CellsAre.cons r0_5
  obtain ⟨c0_7, cs0_7, rfl, q0_7, r0_7⟩ := CellsAre.cons r0_6
  obtain ⟨c0_8, cs0_8, rfl, q0_8, r0_8⟩ := CellsAre.cons r0_7
  obtain rfl := CellsAre.nil r0_8
  obtain ⟨a0_0, rfl, w0_0⟩ := q0_0
  obtain ⟨a0_1, rfl, w0_1⟩ := q0_1
  obtain ⟨a0_2, rfl, w0_2⟩ := q0_2
  obtain ⟨a0_3, rfl, w0_3⟩ := q0_3
  obtain ⟨a0_4, rfl, w0_4⟩ := q0_4
  obtain ⟨a0_5, rfl, w0_5⟩ := q0_5
  obtain ⟨a0_6, rfl, w0_6⟩ := q0_6
  obtain ⟨a0_7, rfl, w0_7⟩ := q0_7
  obtain ⟨a0_8, rfl, w0_8⟩ := q0_8
  obtain ⟨a1, rfl, rfl, rfl, w1⟩ := open_int Tryd.underlying3 (hval 1 3 v1 rfl rfl) h1
  clear hA0 hval0
  refine (wireWrites_walk a0_0 a0_1 a0_2 a0_3 a0_4 a0_5 a0_6 a0_7 a0_8 a1 w0_1 w0_8 W htab0 htab1).mono fun e W' ⟨he, bel⟩ => ?_
  subst he
  exact ⟨_, rfl, _, _, _, [], _, [], hW', trodAll_mk1 (shut_bool Tryd.underlying4 _), (trodAll_cons_mk (Below.trod laidOut (by kernel_rfl) (of_decide_eq_true (by kernel_rfl)) k0 bel lt0) (trodAll_cons_mk (Below.trod laidOut (by kernel_rfl) (of_decide_eq_true (by kernel_rfl)) k1 bel lt1) trodAll_mk0)), rfl, bel.frame _, fun h => by cases h⟩

theorem over : Rows.wireWritesRow.holds Tryd.pinned (OpenSpec.ofChange Rows.wireWritesSpec) :=
  OpenClaim.holds_of_wide 3 Tryd.f3 rfl rfl rfl rfl rfl rfl rfl ⟨rfl, rfl, rfl, rfl, rfl⟩ rfl rfl rfl rfl rfl (by kernel_rfl) Tryd.func3 (by kernel_rfl)
    (of_decide_eq_true (by kernel_rfl)) (by unfold Func.isWrapper; first | (rw [if_pos (by decide +kernel)]; kernel_rfl) | (rw [if_neg (by decide +kernel)]; exact ⟨rfl, rfl⟩))
    (fun os started H enc _ => lifted os started H enc)

theorem carded : Rows.WireWritesCardSaid :=
  Claim7.holds_tied_plain_at .later [] Rows.wireWritesCard.laidKinds true Rows.wireWritesCard.stood.harness Rows.wireWritesCard.stood.looks
    over (fun _ h => by cases h) (by kernel_rfl) (fun _ h => by cases h) wireWrites_row_tie rfl ⟨rfl, rfl⟩ (by kernel_rfl) rfl
    (fun f fn hf hfn => by
      obtain rfl : f = 3 := Option.some.inj ((show Tryd.prog.funcNamed Rows.wireWritesRow.func = some 3 by kernel_rfl).symm.trans hf) |>.symm
      obtain rfl : fn = Tryd.f3 := (Option.some.inj (Tryd.func3.symm.trans hfn)).symm
      exact ⟨by kernel_rfl, fun j t ht => by
        rw [Tryd.params3] at ht
        have hm : t ∈ [26, 3] := by simpa using Array.mem_of_getElem? ht
        have hall : ([26, 3].all fun u => !Tryd.prog.wantsStandIn u) = true := by kernel_rfl
        exact (show Tryd.prog.wantsStandIn t = false by simpa using List.all_eq_true.1 hall t hm)⟩)
    (by kernel_rfl)
theorem proved : Rows.WireWritesCardSaid := carded
#print axioms proved
end Go.Proofs.YtiphddlakbbfiaaDoor.lawWireWrites
