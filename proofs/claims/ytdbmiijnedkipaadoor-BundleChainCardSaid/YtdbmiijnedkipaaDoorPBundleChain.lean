/-
  The Go function BundleChain returns true for every input and leaves its arguments as they were.
  Conditions: none beyond those of the given row.
-/
import Derived.Test.YtdbmiijnedkipaaDoorRows
import Derived.Test.YtdbmiijnedkipaaDoorCards
import Derived.Test.YtdbmiijnedkipaaDoorTie
import Derived.SevenTiedAt
import Derived.LaidMore
import Derived.Stop.Joined
import Derived.Test.YtdbmiijnedkipaaDoorOpen
import Derived.WalkKit
import Derived.ProofKit
import Derived.OpenShut
import Derived.ShutString
import Derived.ChangeOld
import Derived.Below
import Derived.Test.YtdbmiijnedkipaaDoorBuLaw4
namespace Go.Proofs.YtdbmiijnedkipaaDoor.lawBundleChain
open Go.ChangeShapes Go.WideShapes Go.ChangeAt Go.RowKit
open Go.ChangeMaps (open_string shut_string)
set_option linter.unusedVariables false

theorem own : ownKnob Tryd.prog.godebug = none := by kernel_rfl
theorem laidOut : laidOutB Tryd.prog = true := by kernel_rfl

/-- The heap that the initialisers leave meets the condition. -/
theorem door_met (os : Os) (args : Array Value) : laidMetH Tryd.prog Rows.bundleChainRow.laid ((World.doorLaid Tryd.prog 24 os).forCall (fun _ _ => 0) ⟨#[], args, []⟩).memory :=
  laidMetH_of_parts3 (fuel := 8) (laidMet_of_run' 8 (by kernel_rfl) (by kernel_rfl)) (by kernel_rfl) (by kernel_rfl)

set_option maxRecDepth 100000 in
theorem lifted (os : Os) (started : os.Started) (H : Type) (enc : TypeId × Value → H) :
    ReturnsInHanded {} Tryd.checked os 5 .any (fun w args => (Rows.bundleChainSpec.pre enc Tryd.prog Tryd.f5 [] false w args ∧ laidMetH Tryd.prog Rows.bundleChainRow.laid w) ∧ sizedMet enc Tryd.prog Tryd.f5 (OpenSpec.ofChange Rows.bundleChainSpec) false w args)
      (Rows.bundleChainSpec.post enc Tryd.prog Tryd.f5 false true false false) := by
  refine returnsInHanded_of_change_and (C := Tryd.checked) (X := fun w _ => laidMetH Tryd.prog Rows.bundleChainRow.laid w) (fun _ _ _ hh h => h.of_heap hh) own started (by kernel_rfl) Tryd.func5
    (ChangeSpec.witness_shaped (enc := enc) (C := Tryd.checked) (os := os) (X := fun w _ => laidMetH Tryd.prog Rows.bundleChainRow.laid w) false (World.doorLaid Tryd.prog 24 os) #[.agg #[.int .i64 0, .int .u64 0, .int .i64 0, .int .i64 0, .int .i64 0, .int .i64 0, .int .i64 0, .int .i64 0, .string ByteArray.empty], .agg #[.int .i64 0, .int .u64 0, .int .i64 0, .int .i64 0, .int .i64 0, .int .i64 0, .int .i64 0, .int .i64 0, .string ByteArray.empty], .agg #[.int .i64 0, .int .u64 0, .int .i64 0, .int .i64 0, .int .i64 0, .int .i64 0, .int .i64 0, .int .i64 0, .string ByteArray.empty]] 8 rfl (World.shaped_of_RefB (by kernel_rfl) (by kernel_rfl)) (by kernel_rfl) (by kernel_rfl) (by kernel_rfl) (door_met os _)) ?_
  intro W base args ds gs before hval0 hW _ _ hL _
  have hval : ∀ (j : Nat) t v, Tryd.f5.params[j]? = some t → args[j]? = some v → Value.okWide Tryd.prog W .any base t v := hval0
  have hW' := hW
  obtain ⟨p, q, hA0, hV, rfl, hfz, hnd⟩ := hW
  have hA : DataW.TrodAll enc Tryd.prog W 0 (fun _ => true) true Tryd.f5.params.toList args.toList ds p := hA0
  rw [Tryd.params5] at hA hval
  obtain ⟨v0, vs0, d0, ds0, p0, q0, hargs, rfl, rfl, h0, r0⟩ := trodAll_cons hA
  obtain ⟨v1, vs1, d1, ds1, p1, q1, rfl, rfl, rfl, h1, r1⟩ := trodAll_cons r0
  obtain ⟨v2, vs2, d2, ds2, p2, q2, rfl, rfl, rfl, h2, r2⟩ := trodAll_cons r1
  obtain ⟨rfl, rfl, rfl⟩ := trodAll_nil r2
  obtain rfl : args = #[v0, v1, v2] := by cases args; simp_all
  obtain ⟨rfl, rfl⟩ := trodVars_none hV
  have k0 := h0
  have lt0 : ∀ x ∈ p0, x.block < W.heap.size := by obtain ⟨m, hm⟩ := k0; exact DataW.trod_lt m _ _ _ hm
  have k1 := h1
  have lt1 : ∀ x ∈ p1, x.block < W.heap.size := by obtain ⟨m, hm⟩ := k1; exact DataW.trod_lt m _ _ _ hm
  have k2 := h2
  have lt2 : ∀ x ∈ p2, x.block < W.heap.size := by obtain ⟨m, hm⟩ := k2; exact DataW.trod_lt m _ _ _ hm
  obtain ⟨cs0, rfl, fl0⟩ := open_flat (ks := [some (some .i64), some (some .u64), some (some .i64), some (some .i64), some (some .i64), some (some .i64), some (some .i64), some (some .i64), some none]) 12 Tryd.underlying26 (by kernel_rfl) (hval 0 26 v0 rfl rfl) h0
  obtain ⟨c0_0, cs0_0, rfl, q0_0, r0_0⟩ := CellsAre.cons fl0
  obtain ⟨c0_1, cs0_1, rfl, q0_1, r0_1⟩ := CellsAre.cons r0_0
  obtain ⟨c0_2, cs0_2, rfl, q0_2, r0_2⟩ := CellsAre.cons r0_1
  obtain ⟨c0_3, cs0_3, rfl, q0_3, r0_3⟩ := CellsAre.cons r0_2
  obtain ⟨c0_4, cs0_4, rfl, q0_4, r0_4⟩ := CellsAre.cons r0_3
  obtain ⟨c0_5, cs0_5, rfl, q0_5, r0_5⟩ := CellsAre.cons r0_4
  obtain ⟨c0_6, cs0_6, rfl, q0_6, r0_6⟩ := CellsAre.cons r0_5
  obtain ⟨c0_7, cs0_7, rfl, q0_7, r0_7⟩ := CellsAre.cons r0_6
  obtain ⟨c0_8, cs0_8, rfl, q0_8, r0_8⟩ := CellsAre.cons r0_7
  obtain rfl := CellsAre.nil r0_8
  obtain ⟨a0_0, rfl, w0_0⟩ := q0_0
  obtain ⟨a0_1, rfl, w0_1⟩ := q0_1
  obtain ⟨a0_2, rfl, w0_2⟩ := q0_2
  obtain ⟨a0_3, rfl, w0_3⟩ := q0_3
  obtain ⟨a0_4, rfl, w0_4⟩ := q0_4
  obtain ⟨a0_5, rfl, w0_5⟩ := q0_5
  obtain ⟨a0_6, rfl, w0_6⟩ := q0_6
  obtain ⟨a0_7, rfl, w0_7⟩ := q0_7
  obtain ⟨a0_8, rfl, w0_8⟩ := q0_8
  obtain ⟨cs1, rfl, fl1⟩ := open_flat (ks := [some (some .i64), some (some .u64), some (some .i64), some (some .i64), some (some .i64), some (some .i64), some (some .i64), some (some .i64), some none]) 12 Tryd.underlying26 (by kernel_rfl) (hval 1 26 v1 rfl rfl) h1
  obtain ⟨c1_0, cs1_0, rfl, q1_0, r1_0⟩ := CellsAre.cons fl1
  obtain ⟨c1_1, cs1_1, rfl, q1_1, r1_1⟩ := CellsAre.cons r1_0
  obtain ⟨c1_2, cs1_2, rfl, q1_2, r1_2⟩ := CellsAre.cons r1_1
  obtain ⟨c1_3, cs1_3, rfl, q1_3, r1_3⟩ := CellsAre.cons r1_2
  obtain ⟨c1_4, cs1_4, rfl, q1_4, r1_4⟩ := CellsAre.cons r1_3
  obtain ⟨c1_5, cs1_5, rfl, q1_5, r1_5⟩ := CellsAre.cons r1_4
  obtain ⟨c1_6, cs1_6, rfl, q1_6, r1_6⟩ := CellsAre.cons r1_5
  obtain ⟨c1_7, cs1_7, rfl, q1_7, r1_7⟩ := CellsAre.cons r1_6
  obtain ⟨c1_8, cs1_8, rfl, q1_8, r1_8⟩ := CellsAre.cons r1_7
  obtain rfl := CellsAre.nil r1_8
  obtain ⟨a1_0, rfl, w1_0⟩ := q1_0
  obtain ⟨a1_1, rfl, w1_1⟩ := q1_1
  obtain ⟨a1_2, rfl, w1_2⟩ := q1_2
  obtain ⟨a1_3, rfl, w1_3⟩ := q1_3
  obtain ⟨a1_4, rfl, w1_4⟩ := q1_4
  obtain ⟨a1_5, rfl, w1_5⟩ := q1_5
  obtain ⟨a1_6, rfl, w1_6⟩ := q1_6
  obtain ⟨a1_7, rfl, w1_7⟩ := q1_7
  obtain ⟨a1_8, rfl, w1_8⟩ := q1_8
  obtain ⟨cs2, rfl, fl2⟩ := open_flat (ks := [some (some .i64), some (some .u64), some (some .i64), some (some .i64), some (some .i64), some (some .i64), some (some .i64), some (some .i64), some none]) 12 Tryd.underlying26 (by kernel_rfl) (hval 2 26 v2 rfl rfl) h2
  obtain ⟨c2_0, cs2_0, rfl, q2_0, r2_0⟩ := CellsAre.cons fl2
  obtain ⟨c2_1, cs2_1, rfl, q2_1, r2_1⟩ := CellsAre.cons r2_0
  obtain ⟨c2_2, cs2_2, rfl, q2_2, r2_2⟩ := CellsAre.cons r2_1
  obtain ⟨c2_3, cs2_3, rfl, q2_3, r2_3⟩ := CellsAre.cons r2_2
  obtain ⟨c2_4, cs2_4, rfl, q2_4, r2_4⟩ := CellsAre.cons r2_3
  obtain ⟨c2_5, cs2_5, rfl, q2_5, r2_5⟩ := CellsAre.cons r2_4
  obtain ⟨c2_6, cs2_6, rfl, q2_6, r2_6⟩ := CellsAre.cons r2_5
  obtain ⟨c2_7, cs2_7, rfl, q2_7, r2_7⟩ := CellsAre.cons r2_6
  obtain ⟨c2_8, cs2_8, rfl, q2_8, r2_8⟩ := CellsAre.cons r2_7
  obtain rfl := CellsAre.nil r2_8
  obtain ⟨a2_0, rfl, w2_0⟩ := q2_0
  obtain ⟨a2_1, rfl, w2_1⟩ := q2_1
  obtain ⟨a2_2, rfl, w2_2⟩ := q2_2
  obtain ⟨a2_3, rfl, w2_3⟩ := q2_3
  obtain ⟨a2_4, rfl, w2_4⟩ := q2_4
  obtain ⟨a2_5, rfl, w2_5⟩ := q2_5
  obtain ⟨a2_6, rfl, w2_6⟩ := q2_6
  obtain ⟨a2_7, rfl, w2_7⟩ := q2_7
  obtain ⟨a2_8, rfl, w2_8⟩ := q2_8
  clear hA0 hval0
  refine (bundleChain_walk a0_0 a0_1 a0_2 a0_3 a0_4 a0_5 a0_6 a0_7 a0_8 a1_0 a1_1 a1_2 a1_3 a1_4 a1_5 a1_6 a1_7 a1_8 a2_0 a2_1 a2_2 a2_3 a2_4 a2_5 a2_6 a2_7 a2_8 w0_5 w0_6 w0_8 w1_5 w1_6 w1_8 w2_5 w2_6 w2_8 W).mono fun e W' ⟨he, bel⟩ => ?_
  subst he
  exact ⟨_, rfl, _, _, _, [], _, [], hW', trodAll_mk1 (shut_bool Tryd.underlying4 _), (trodAll_cons_mk (Below.trod laidOut (by kernel_rfl) (of_decide_eq_true (by kernel_rfl)) k0 bel lt0) (trodAll_cons_mk (Below.trod laidOut (by kernel_rfl) (of_decide_eq_true (by kernel_rfl)) k1 bel lt1) (trodAll_cons_mk (Below.trod laidOut (by kernel_rfl) (of_decide_eq_true (by kernel_rfl)) k2 bel lt2) trodAll_mk0))), rfl, bel.frame _, fun h => by cases h⟩

theorem over : Rows.bundleChainRow.holds Tryd.pinned (OpenSpec.ofChange Rows.bundleChainSpec) :=
  OpenClaim.holds_of_wide 5 Tryd.f5 rfl rfl rfl rfl rfl rfl rfl ⟨rfl, rfl, rfl, rfl, rfl⟩ rfl rfl rfl rfl rfl (by kernel_rfl) Tryd.func5 (by kernel_rfl)
    (of_decide_eq_true (by kernel_rfl)) (by unfold Func.isWrapper; first | (rw [if_pos (by decide +kernel)]; kernel_rfl) | (rw [if_neg (by decide +kernel)]; exact ⟨rfl, rfl⟩))
    (fun os started H enc _ => lifted os started H enc)

theorem carded : Rows.BundleChainCardSaid :=
  Claim7.holds_tied_plain_at .later [] Rows.bundleChainCard.laidKinds true Rows.bundleChainCard.stood.harness Rows.bundleChainCard.stood.looks
    over (fun _ h => by cases h) (by kernel_rfl) (fun _ h => by cases h) bundleChain_row_tie rfl ⟨rfl, rfl⟩ (by kernel_rfl) rfl
    (fun f fn hf hfn => by
      obtain rfl : f = 5 := Option.some.inj ((show Tryd.prog.funcNamed Rows.bundleChainRow.func = some 5 by kernel_rfl).symm.trans hf) |>.symm
      obtain rfl : fn = Tryd.f5 := (Option.some.inj (Tryd.func5.symm.trans hfn)).symm
      exact ⟨by kernel_rfl, fun j t ht => by
        rw [Tryd.params5] at ht
        have hm : t ∈ [26, 26, 26] := by simpa using Array.mem_of_getElem? ht
        have hall : ([26, 26, 26].all fun u => !Tryd.prog.wantsStandIn u) = true := by kernel_rfl
        exact (show Tryd.prog.wantsStandIn t = false by simpa using List.all_eq_true.1 hall t hm)⟩)
    (by kernel_rfl)
theorem proved : Rows.BundleChainCardSaid := carded
#print axioms proved
end Go.Proofs.YtdbmiijnedkipaaDoor.lawBundleChain
