/-
  The Go function FrameAnswers returns true for every input and leaves its arguments as they were.
  Conditions: none beyond those of the given row.
-/
import Derived.Test.YtaiofjffoboicaaDoorRows
import Derived.Test.YtaiofjffoboicaaDoorCards
import Derived.Test.YtaiofjffoboicaaDoorTie
import Derived.SevenTiedAt
import Derived.LaidMore
import Derived.Stop.Joined
import Derived.Stop.LaidErr
import Derived.MakeChecks
import Derived.Lib.LaidTab
import Derived.Test.YtaiofjffoboicaaDoorMA
import Derived.WalkKit
import Derived.ProofKit
import Derived.OpenShut
import Derived.ShutString
import Derived.ChangeOld
import Derived.Below
import Derived.Test.YtaiofjffoboicaaDoorMFwAns
namespace Go.Proofs.YtaiofjffoboicaaDoor.lawFrameAnswers
open Go.ChangeShapes Go.WideShapes Go.ChangeAt Go.RowKit
open Go.ChangeMaps (open_string shut_string)
set_option linter.unusedVariables false

theorem own : ownKnob Tryd.prog.godebug = none := by kernel_rfl
theorem laidOut : laidOutB Tryd.prog = true := by kernel_rfl

/-- The table packhorse/wire.heads, out of the row's condition. -/
theorem tab_met1 {W : World} (h : laidMetH Tryd.prog Rows.frameAnswersRow.laid W) : Lib.TabIs Tryd.prog W headsNm .u8 headsTab := by
  rw [MakeChecks.laidMetH_plain _ _ _ (by kernel_rfl)] at h
  have h2 := h.tail
  exact Lib.tabIs_of_head (g := 2) (t := 162) (e := 5) (n := 6) (by kernel_rfl) (by kernel_rfl) Tryd.underlying162 Tryd.underlying5 (by kernel_rfl) (by kernel_rfl) h2

/-- The table packhorse/sum.table, out of the row's condition. -/
theorem tab_met0 {W : World} (h : laidMetH Tryd.prog Rows.frameAnswersRow.laid W) : Lib.TabIs Tryd.prog W sumNm .u32 sumTab := by
  rw [MakeChecks.laidMetH_plain _ _ _ (by kernel_rfl)] at h
  have h2 := h
  exact Lib.tabIs_of_head (g := 5) (t := 191) (e := 143) (n := 16) (by kernel_rfl) (by kernel_rfl) Tryd.underlying191 Tryd.underlying143 (by kernel_rfl) (by kernel_rfl) h2

/-- The heap that the initialisers leave meets the condition. -/
theorem door_met (os : Os) (args : Array Value) : laidMetH Tryd.prog Rows.frameAnswersRow.laid ((World.doorLaid Tryd.prog 58 os).forCall (fun _ _ => 0) ⟨#[], args, []⟩).memory :=
  laidMetH_of_parts3 (fuel := 8) (laidMet_of_run' 8 (by kernel_rfl) (by kernel_rfl)) (by kernel_rfl) (by kernel_rfl)

set_option maxRecDepth 100000 in
theorem lifted (os : Os) (started : os.Started) (H : Type) (enc : TypeId × Value → H) :
    ReturnsInHanded {} Tryd.checked os 7 .any (fun w args => (Rows.frameAnswersSpec.pre enc Tryd.prog Tryd.f7 [] false w args ∧ laidMetH Tryd.prog Rows.frameAnswersRow.laid w) ∧ sizedMet enc Tryd.prog Tryd.f7 (OpenSpec.ofChange Rows.frameAnswersSpec) false w args)
      (Rows.frameAnswersSpec.post enc Tryd.prog Tryd.f7 false true false false) := by
  refine returnsInHanded_of_change_and (C := Tryd.checked) (X := fun w _ => laidMetH Tryd.prog Rows.frameAnswersRow.laid w) (fun _ _ _ hh h => h.of_heap hh) own started (by kernel_rfl) Tryd.func7
    (ChangeSpec.witness_shaped (enc := enc) (C := Tryd.checked) (os := os) (X := fun w _ => laidMetH Tryd.prog Rows.frameAnswersRow.laid w) false (World.doorLaid Tryd.prog 58 os) #[.agg #[.int .i64 0, .int .i64 0, .int .i64 0, .int .u64 0, .int .u64 0, .int .u64 0, .int .u64 0, .int .i64 0, .int .u64 0, .int .i64 0, .int .i64 0, .int .u64 0, .int .i64 0, .int .i64 0, .int .i64 0, .int .i64 0, .int .i64 0, .int .i64 0, .string ByteArray.empty], .agg #[.int .i64 0, .int .i64 0, .int .i64 0, .int .u64 0, .int .u64 0, .int .u64 0, .int .u64 0, .int .i64 0, .int .u64 0, .int .i64 0, .int .i64 0, .int .u64 0, .int .i64 0, .int .i64 0, .int .i64 0, .int .i64 0, .int .i64 0, .int .i64 0, .string ByteArray.empty]] 8 rfl (World.shaped_of_RefB (by kernel_rfl) (by kernel_rfl)) (by kernel_rfl) (by kernel_rfl) (by kernel_rfl) (door_met os _)) ?_
  intro W base args ds gs before hval0 hW _ _ hL _
  have htab0 := tab_met0 hL
  have htab1 := tab_met1 hL
  have hval : ∀ (j : Nat) t v, Tryd.f7.params[j]? = some t → args[j]? = some v → Value.okWide Tryd.prog W .any base t v := hval0
  have hW' := hW
  obtain ⟨p, q, hA0, hV, rfl, hfz, hnd⟩ := hW
  have hA : DataW.TrodAll enc Tryd.prog W 0 (fun _ => true) true Tryd.f7.params.toList args.toList ds p := hA0
  rw [Tryd.params7] at hA hval
  obtain ⟨v0, vs0, d0, ds0, p0, q0, hargs, rfl, rfl, h0, r0⟩ := trodAll_cons hA
  obtain ⟨v1, vs1, d1, ds1, p1, q1, rfl, rfl, rfl, h1, r1⟩ := trodAll_cons r0
  obtain ⟨rfl, rfl, rfl⟩ := trodAll_nil r1
  obtain rfl : args = #[v0, v1] := by cases args; simp_all
  obtain ⟨rfl, rfl⟩ := trodVars_none hV
  have k0 := h0
  have lt0 : ∀ x ∈ p0, x.block < W.heap.size := by obtain ⟨m, hm⟩ := k0; exact DataW.trod_lt m _ _ _ hm
  have k1 := h1
  have lt1 : ∀ x ∈ p1, x.block < W.heap.size := by obtain ⟨m, hm⟩ := k1; exact DataW.trod_lt m _ _ _ hm
  obtain ⟨cs0, rfl, fl0⟩ := open_flat (ks := [some (some .i64), some (some .i64), some (some .i64), some (some .u64), some (some .u64), some (some .u64), some (some .u64), some (some .i64), some (some .u64), some (some .i64), some (some .i64), some (some .u64), some (some .i64), some (some .i64), some (some .i64), some (some .i64), some (some .i64), some (some .i64), some none]) 12 Tryd.underlying29 (by kernel_rfl) (hval 0 29 v0 rfl rfl) h0
  obtain ⟨c0_0, cs0_0, rfl, q0_0, r0_0⟩ := CellsAre.cons fl0
  obtain ⟨c0_1, cs0_1, rfl, q0_1, r0_1⟩ := CellsAre.cons r0_0
  obtain ⟨c0_2, cs0_2, rfl, q0_2, r0_2⟩ := CellsAre.cons r0_1
  obtain ⟨c0_3, cs0_3, rfl, q0_3, r0_3⟩ := CellsAre.cons r0_2
  obtain ⟨c0_4, cs0_4, rfl, q0_4, r0_4⟩ := CellsAre.cons r0_3
  obtain ⟨c0_5, cs0_5, rfl, q0_5, r0_5⟩ := CellsAre.cons r0_4
  obtain ⟨c0_6, cs0_6, rfl, q0_6, r0_6⟩ := CellsAre.cons r0_5
  obtain ⟨c0_7, cs0_7, rfl, q0_7, r0_7⟩ := CellsAre.cons r0_6
  obtain ⟨c0_8, cs0_8, rfl, q0_8, r0_8⟩ := CellsAre.cons r0_7
  obtain ⟨c0_9, cs0_9, rfl, q0_9, r0_9⟩ := CellsAre.cons r0_8
  obtain ⟨c0_10, cs0_10, rfl, q0_10, r0_10⟩ := CellsAre.cons r0_9
  obtain ⟨c0_11, cs0_11, rfl, q0_11, r0_11⟩ := CellsAre.cons r0_10
  obtain ⟨c0_12, cs0_12, rfl, q0_12, r0_12⟩ := CellsAre.cons r0_11
  obtain ⟨c0_13, cs0_13, rfl, q0_13, r0_13⟩ := CellsAre.cons r0_12
  obtain ⟨c0_14, cs0_14, rfl, q0_14, r0_14⟩ := CellsAre.cons r0_13
  obtain ⟨c0_15, cs0_15, rfl, q0_15, r0_15⟩ := CellsAre.cons r0_14
  obtain ⟨c0_16, cs0_16, rfl, q0_16, r0_16⟩ := CellsAre.cons r0_15
  obtain ⟨c0_17, cs0_17, rfl, q0_17, r0_17⟩ := CellsAre.cons r0_16
  obtain ⟨c0_18, cs0_18, rfl, q0_18, r0_18⟩ := CellsAre.cons r0_17
  obtain rfl := CellsAre.nil r0_18
  obtain ⟨a0_0, rfl, w0_0⟩ := q0_0
  obtain ⟨a0_1, rfl, w0_1⟩ := q0_1
  obtain ⟨a0_2, rfl, w0_2⟩ := q0_2
  obtain ⟨a0_3, rfl, w0_3⟩ := q0_3
  obtain ⟨a0_4, rfl, w0_4⟩ := q0_4
  obtain ⟨a0_5, rfl, w0_5⟩ := q0_5
  obtain ⟨a0_6, rfl, w0_6⟩ := q0_6
  obtain ⟨a0_7, rfl, w0_7⟩ := q0_7
  obtain ⟨a0_8, rfl, w0_8⟩ := q0_8
  obtain ⟨a0_9, rfl, w0_9⟩ := q0_9
  obtain ⟨a0_10, rfl, w0_10⟩ := q0_10
  obtain ⟨a0_11, rfl, w0_11⟩ := q0_11
  obtain ⟨a0_12, rfl, w0_12⟩ := q0_12
  obtain ⟨a0_13, rfl, w0_13⟩ := q0_13
  obtain ⟨a0_14, rfl, w0_14⟩ := q0_14
  obtain ⟨a0_15, rfl, w0_15⟩ := q0_15
  obtain ⟨a0_16, rfl, w0_16⟩ := q0_16
  obtain ⟨a0_17, rfl, w0_17⟩ := q0_17
  obtain ⟨a0_18, rfl, w0_18⟩ := q0_18
  obtain ⟨cs1, rfl, fl1⟩ := open_flat (ks := [some (some .i64), some (some .i64), some (some .i64), some (some .u64), some (some .u64), some (some .u64), some (some .u64), some (some .i64), some (some .u64), some (some .i64), some (some .i64), some (some .u64), some (some .i64), some (some .i64), some (some .i64), some (some .i64), some (some .i64), some (some .i64), some none]) 12 Tryd.underlying29 (by kernel_rfl) (hval 1 29 v1 rfl rfl) h1
  obtain ⟨c1_0, cs1_0, rfl, q1_0, r1_0⟩ := CellsAre.cons fl1
  obtain ⟨c1_1, cs1_1, rfl, q1_1, r1_1⟩ := CellsAre.cons r1_0
  obtain ⟨c1_2, cs1_2, rfl, q1_2, r1_2⟩ := CellsAre.cons r1_1
  obtain ⟨c1_3, cs1_3, rfl, q1_3, r1_3⟩ := CellsAre.cons r1_2
  obtain ⟨c1_4, cs1_4, rfl, q1_4, r1_4⟩ := CellsAre.cons r1_3
  obtain ⟨c1_5, cs1_5, rfl, q1_5, r1_5⟩ := CellsAre.cons r1_4
  obtain ⟨c1_6, cs1_6, rfl, q1_6, r1_6⟩ := CellsAre.cons r1_5
  obtain ⟨c1_7, cs1_7, rfl, q1_7, r1_7⟩ := CellsAre.cons r1_6
  obtain ⟨c1_8, cs1_8, rfl, q1_8, r1_8⟩ := CellsAre.cons r1_7
  obtain ⟨c1_9, cs1_9, rfl, q1_9, r1_9⟩ := CellsAre.cons r1_8
  obtain ⟨c1_10, cs1_10, rfl, q1_10, r1_10⟩ := CellsAre.cons r1_9
  obtain ⟨c1_11, cs1_11, rfl, q1_11, r1_11⟩ := CellsAre.cons r1_10
  obtain ⟨c1_12, cs1_12, rfl, q1_12, r1_12⟩ := CellsAre.cons r1_11
  obtain ⟨c1_13, cs1_13, rfl, q1_13, r1_13⟩ := CellsAre.cons r1_12
  obtain ⟨c1_14, cs1_14, rfl, q1_14, r1_14⟩ := CellsAre.cons r1_13
  obtain ⟨c1_15, cs1_15, rfl, q1_15, r1_15⟩ := CellsAre.cons r1_14
  obtain ⟨c1_16, cs1_16, rfl, q1_16, r1_16⟩ := CellsAre.cons r1_15
  obtain ⟨c1_17, cs1_17, rfl, q1_17, r1_17⟩ := CellsAre.cons r1_16
  obtain ⟨c1_18, cs1_18, rfl, q1_18, r1_18⟩ := CellsAre.cons r1_17
  obtain rfl := CellsAre.nil r1_18
  obtain ⟨a1_0, rfl, w1_0⟩ := q1_0
  obtain ⟨a1_1, rfl, w1_1⟩ := q1_1
  obtain ⟨a1_2, rfl, w1_2⟩ := q1_2
  obtain ⟨a1_3, rfl, w1_3⟩ := q1_3
  obtain ⟨a1_4, rfl, w1_4⟩ := q1_4
  obtain ⟨a1_5, rfl, w1_5⟩ := q1_5
  obtain ⟨a1_6, rfl, w1_6⟩ := q1_6
  obtain ⟨a1_7, rfl, w1_7⟩ := q1_7
  obtain ⟨a1_8, rfl, w1_8⟩ := q1_8
  obtain ⟨a1_9, rfl, w1_9⟩ := q1_9
  obtain ⟨a1_10, rfl, w1_10⟩ := q1_10
  obtain ⟨a1_11, rfl, w1_11⟩ := q1_11
  obtain ⟨a1_12, rfl, w1_12⟩ := q1_12
  obtain ⟨a1_13, rfl, w1_13⟩ := q1_13
  obtain ⟨a1_14, rfl, w1_14⟩ := q1_14
  obtain ⟨a1_15, rfl, w1_15⟩ := q1_15
  obtain ⟨a1_16, rfl, w1_16⟩ := q1_16
  obtain ⟨a1_17, rfl, w1_17⟩ := q1_17
  obtain ⟨a1_18, rfl, w1_18⟩ := q1_18
  clear hA0 hval0
  refine (frameAnswers_walk a0_0 a0_1 a0_2 a0_3 a0_4 a0_5 a0_6 a0_7 a0_8 a0_9 a0_10 a0_11 a0_12 a0_13 a0_14 a0_15 a0_16 a0_17 a0_18 a1_0 a1_1 a1_2 a1_3 a1_4 a1_5 a1_6 a1_7 a1_8 a1_9 a1_10 a1_11 a1_12 a1_13 a1_14 a1_15 a1_16 a1_17 a1_18 w0_6 w0_18 w1_6 w1_18 W htab0 htab1).mono fun e W' ⟨he, bel⟩ => ?_
  subst he
  exact ⟨_, rfl, _, _, _, [], _, [], hW', trodAll_mk1 (shut_bool Tryd.underlying4 _), (trodAll_cons_mk (Below.trod laidOut (by kernel_rfl) (of_decide_eq_true (by kernel_rfl)) k0 bel lt0) (trodAll_cons_mk (Below.trod laidOut (by kernel_rfl) (of_decide_eq_true (by kernel_rfl)) k1 bel lt1) trodAll_mk0)), rfl, bel.frame _, fun h => by cases h⟩

theorem over : Rows.frameAnswersRow.holds Tryd.pinned (OpenSpec.ofChange Rows.frameAnswersSpec) :=
  OpenClaim.holds_of_wide 7 Tryd.f7 rfl rfl rfl rfl rfl rfl rfl ⟨rfl, rfl, rfl, rfl, rfl⟩ rfl rfl rfl rfl rfl (by kernel_rfl) Tryd.func7 (by kernel_rfl)
    (of_decide_eq_true (by kernel_rfl)) (by unfold Func.isWrapper; first | (rw [if_pos (by decide +kernel)]; kernel_rfl) | (rw [if_neg (by decide +kernel)]; exact ⟨rfl, rfl⟩))
    (fun os started H enc _ => lifted os started H enc)

theorem carded : Rows.FrameAnswersCardSaid :=
  Claim7.holds_tied_plain_at .later [] Rows.frameAnswersCard.laidKinds true Rows.frameAnswersCard.stood.harness Rows.frameAnswersCard.stood.looks
    over (fun _ h => by cases h) (by kernel_rfl) (fun _ h => by cases h) frameAnswers_row_tie rfl ⟨rfl, rfl⟩ (by kernel_rfl) rfl
    (fun f fn hf hfn => by
      obtain rfl : f = 7 := Option.some.inj ((show Tryd.prog.funcNamed Rows.frameAnswersRow.func = some 7 by kernel_rfl).symm.trans hf) |>.symm
      obtain rfl : fn = Tryd.f7 := (Option.some.inj (Tryd.func7.symm.trans hfn)).symm
      exact ⟨by kernel_rfl, fun j t ht => by
        rw [Tryd.params7] at ht
        have hm : t ∈ [29, 29] := by simpa using Array.mem_of_getElem? ht
        have hall : ([29, 29].all fun u => !Tryd.prog.wantsStandIn u) = true := by kernel_rfl
        exact (show Tryd.prog.wantsStandIn t = false by simpa using List.all_eq_true.1 hall t hm)⟩)
    (by kernel_rfl)
theorem proved : Rows.FrameAnswersCardSaid := carded
#print axioms proved
end Go.Proofs.YtaiofjffoboicaaDoor.lawFrameAnswers
