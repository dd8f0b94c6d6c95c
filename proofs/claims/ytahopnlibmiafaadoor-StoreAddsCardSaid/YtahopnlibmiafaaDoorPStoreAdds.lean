/-
  The Go function StoreAdds returns true for every input and leaves its arguments as they were.
  Conditions: none beyond those of the given row.
-/
import Derived.Test.YtahopnlibmiafaaDoorRows
import Derived.Test.YtahopnlibmiafaaDoorCards
import Derived.Test.YtahopnlibmiafaaDoorTie
import Derived.SevenTiedAt
import Derived.LaidMore
import Derived.Stop.Joined
import Derived.Stop.LaidErr
import Derived.MakeChecks
import Derived.Lib.LaidTab
import Derived.Test.YtahopnlibmiafaaDoorMA
import Derived.WalkKit
import Derived.ProofKit
import Derived.OpenShut
import Derived.ShutString
import Derived.ChangeOld
import Derived.Below
import Derived.Test.YtahopnlibmiafaaDoorMStLawA
namespace Go.Proofs.YtahopnlibmiafaaDoor.lawStoreAdds
open Go.ChangeShapes Go.WideShapes Go.ChangeAt Go.RowKit
open Go.ChangeMaps (open_string shut_string)
set_option linter.unusedVariables false

theorem own : ownKnob Tryd.prog.godebug = none := by kernel_rfl
theorem laidOut : laidOutB Tryd.prog = true := by kernel_rfl

set_option maxRecDepth 100000 in
/-- The table packhorse/wire.heads, out of the row's condition. -/
theorem tab_met0 {W : World} (h : laidMetH Tryd.prog Rows.storeAddsRow.laid W) : Lib.TabIs Tryd.prog W headsNm .u8 headsTab := by
  rw [MakeChecks.laidMetH_plain _ _ _ (by kernel_rfl)] at h
  have h2 := h
  exact Lib.tabIs_of_head (g := 0) (t := 141) (e := 5) (n := 6) (by kernel_rfl) (by kernel_rfl) Tryd.underlying141 Tryd.underlying5 (by kernel_rfl) (by kernel_rfl) h2

/-- The heap that the initialisers leave meets the condition. -/
theorem door_met (os : Os) (args : Array Value) : laidMetH Tryd.prog Rows.storeAddsRow.laid ((World.doorLaid Tryd.prog 29 os).forCall (fun _ _ => 0) ⟨#[], args, []⟩).memory :=
  laidMetH_of_parts3 (fuel := 8) (laidMet_of_run' 8 (by kernel_rfl) (by kernel_rfl)) (by kernel_rfl) (by kernel_rfl)

set_option maxRecDepth 100000 in
theorem lifted (os : Os) (started : os.Started) (H : Type) (enc : TypeId × Value → H) :
    ReturnsInHanded {} Tryd.checked os 6 .any (fun w args => (Rows.storeAddsSpec.pre enc Tryd.prog Tryd.f6 [] false w args ∧ laidMetH Tryd.prog Rows.storeAddsRow.laid w) ∧ sizedMet enc Tryd.prog Tryd.f6 (OpenSpec.ofChange Rows.storeAddsSpec) false w args)
      (Rows.storeAddsSpec.post enc Tryd.prog Tryd.f6 false true false false) := by
  refine returnsInHanded_of_change_and (C := Tryd.checked) (X := fun w _ => laidMetH Tryd.prog Rows.storeAddsRow.laid w) (fun _ _ _ hh h => h.of_heap hh) own started (by kernel_rfl) Tryd.func6
    (ChangeSpec.witness_shaped (enc := enc) (C := Tryd.checked) (os := os) (X := fun w _ => laidMetH Tryd.prog Rows.storeAddsRow.laid w) false (World.doorLaid Tryd.prog 29 os) #[.slice none 0 0, .agg #[.int .i64 0, .int .u64 0, .int .i64 0, .int .i64 0, .int .i64 0, .int .i64 0, .int .i64 0, .int .i64 0, .string ByteArray.empty], .agg #[.int .i64 0, .int .u64 0, .int .i64 0]] 8 rfl (World.shaped_of_RefB (by kernel_rfl) (by kernel_rfl)) (by kernel_rfl) (by kernel_rfl) (by kernel_rfl) (door_met os _)) ?_
  intro W base args ds gs before hval0 hW _ _ hL _
  have htab0 := tab_met0 hL
  have hval : ∀ (j : Nat) t v, Tryd.f6.params[j]? = some t → args[j]? = some v → Value.okWide Tryd.prog W .any base t v := hval0
  have hW' := hW
  obtain ⟨p, q, hA0, hV, rfl, hfz, hnd⟩ := hW
  have hA : DataW.TrodAll enc Tryd.prog W 0 (fun _ => true) true Tryd.f6.params.toList args.toList ds p := hA0
  rw [Tryd.params6] at hA hval
  obtain ⟨v0, vs0, d0, ds0, p0, q0, hargs, rfl, rfl, h0, r0⟩ := trodAll_cons hA
  obtain ⟨v1, vs1, d1, ds1, p1, q1, rfl, rfl, rfl, h1, r1⟩ := trodAll_cons r0
  obtain ⟨v2, vs2, d2, ds2, p2, q2, rfl, rfl, rfl, h2, r2⟩ := trodAll_cons r1
  obtain ⟨rfl, rfl, rfl⟩ := trodAll_nil r2
  obtain rfl : args = #[v0, v1, v2] := by cases args; simp_all
  obtain ⟨rfl, rfl⟩ := trodVars_none hV
  have k0 := h0
  have lt0 : ∀ x ∈ p0, x.block < W.heap.size := by obtain ⟨m, hm⟩ := k0; exact DataW.trod_lt m _ _ _ hm
  have k1 := h1
  have lt1 : ∀ x ∈ p1, x.block < W.heap.size := by obtain ⟨m, hm⟩ := k1; exact DataW.trod_lt m _ _ _ hm
  have k2 := h2
  have lt2 : ∀ x ∈ p2, x.block < W.heap.size := by obtain ⟨m, hm⟩ := k2; exact DataW.trod_lt m _ _ _ hm
  obtain ⟨a0, cap0, l0, rfl, hS0, hG0⟩ := open_structs (en := itm) (k := 13) (ks := itmK) (Good := GdI) 12 Tryd.underlying39 (by kernel_rfl) (by kernel_rfl) (by decide) itm_len itm_mk (hval 0 39 v0 rfl rfl) h0
  obtain ⟨cs1, rfl, fl1⟩ := open_flat (ks := [some (some .i64), some (some .u64), some (some .i64), some (some .i64), some (some .i64), some (some .i64), some (some .i64), some (some .i64), some none]) 12 Tryd.underlying28 (by kernel_rfl) (hval 1 28 v1 rfl rfl) h1
  obtain ⟨c1_0, cs1_0, rfl, q1_0, r1_0⟩ := CellsAre.cons fl1
  obtain ⟨c1_1, cs1_1, rfl, q1_1, r1_1⟩ := CellsAre.cons r1_0
  obtain ⟨c1_2, cs1_2, rfl, q1_2, r1_2⟩ := CellsAre.cons r1_1
  obtain ⟨c1_3, cs1_3, rfl, q1_3, r1_3⟩ := CellsAre.cons r1_2
  obtain ⟨c1_4, cs1_4, rfl, q1_4, r1_4⟩ := CellsAre.cons r1_3
  obtain ⟨c1_5, cs1_5, rfl, q1_5, r1_5⟩ := CellsAre.cons r1_4
  obtain ⟨c1_6, cs1_6, rfl, q1_6, r1_6⟩ := CellsAre.cons r1_5
  obtain ⟨c1_7, cs1_7, rfl, q1_7, r1_7⟩ := CellsAre.cons r1_6
  obtain ⟨c1_8, cs1_8, rfl, q1_8, r1_8⟩ := CellsAre.cons r1_7
  obtain rfl := CellsAre.nil r1_8
  obtain ⟨a1_0, rfl, w1_0⟩ := q1_0
  obtain ⟨a1_1, rfl, w1_1⟩ := q1_1
  obtain ⟨a1_2, rfl, w1_2⟩ := q1_2
  obtain ⟨a1_3, rfl, w1_3⟩ := q1_3
  obtain ⟨a1_4, rfl, w1_4⟩ := q1_4
  obtain ⟨a1_5, rfl, w1_5⟩ := q1_5
  obtain ⟨a1_6, rfl, w1_6⟩ := q1_6
  obtain ⟨a1_7, rfl, w1_7⟩ := q1_7
  obtain ⟨a1_8, rfl, w1_8⟩ := q1_8
  obtain ⟨cs2, rfl, fl2⟩ := open_flat (ks := [some (some .i64), some (some .u64), some (some .i64)]) 12 Tryd.underlying26 (by kernel_rfl) (hval 2 26 v2 rfl rfl) h2
  obtain ⟨c2_0, cs2_0, rfl, q2_0, r2_0⟩ := CellsAre.cons fl2
  obtain ⟨c2_1, cs2_1, rfl, q2_1, r2_1⟩ := CellsAre.cons r2_0
  obtain ⟨c2_2, cs2_2, rfl, q2_2, r2_2⟩ := CellsAre.cons r2_1
  obtain rfl := CellsAre.nil r2_2
  obtain ⟨a2_0, rfl, w2_0⟩ := q2_0
  obtain ⟨a2_1, rfl, w2_1⟩ := q2_1
  obtain ⟨a2_2, rfl, w2_2⟩ := q2_2
  clear hA0 hval0
  refine (storeAdds_at a0 cap0 l0 a1_0 a1_1 a1_2 a1_3 a1_4 a1_5 a1_6 a1_7 a1_8 a2_0 a2_1 a2_2 W hS0 hG0 w1_8 htab0).mono fun e W' ⟨he, bel⟩ => ?_
  subst he
  exact ⟨_, rfl, _, _, _, [], _, [], hW', trodAll_mk1 (shut_bool Tryd.underlying4 _), (trodAll_cons_mk (Below.trod laidOut (by kernel_rfl) (of_decide_eq_true (by kernel_rfl)) k0 bel lt0) (trodAll_cons_mk (Below.trod laidOut (by kernel_rfl) (of_decide_eq_true (by kernel_rfl)) k1 bel lt1) (trodAll_cons_mk (Below.trod laidOut (by kernel_rfl) (of_decide_eq_true (by kernel_rfl)) k2 bel lt2) trodAll_mk0))), rfl, bel.frame _, fun h => by cases h⟩

theorem over : Rows.storeAddsRow.holds Tryd.pinned (OpenSpec.ofChange Rows.storeAddsSpec) :=
  OpenClaim.holds_of_wide 6 Tryd.f6 rfl rfl rfl rfl rfl rfl rfl ⟨rfl, rfl, rfl, rfl, rfl⟩ rfl rfl rfl rfl rfl (by kernel_rfl) Tryd.func6 (by kernel_rfl)
    (of_decide_eq_true (by kernel_rfl)) (by unfold Func.isWrapper; first | (rw [if_pos (by decide +kernel)]; kernel_rfl) | (rw [if_neg (by decide +kernel)]; exact ⟨rfl, rfl⟩))
    (fun os started H enc _ => lifted os started H enc)

theorem carded : Rows.StoreAddsCardSaid :=
  Claim7.holds_tied_plain_at .later [] Rows.storeAddsCard.laidKinds true Rows.storeAddsCard.stood.harness Rows.storeAddsCard.stood.looks
    over (fun _ h => by cases h) (by kernel_rfl) (fun _ h => by cases h) storeAdds_row_tie rfl ⟨rfl, rfl⟩ (by kernel_rfl) rfl
    (fun f fn hf hfn => by
      obtain rfl : f = 6 := Option.some.inj ((show Tryd.prog.funcNamed Rows.storeAddsRow.func = some 6 by kernel_rfl).symm.trans hf) |>.symm
      obtain rfl : fn = Tryd.f6 := (Option.some.inj (Tryd.func6.symm.trans hfn)).symm
      exact ⟨by kernel_rfl, fun j t ht => by
        rw [Tryd.params6] at ht
        have hm : t ∈ [39, 28, 26] := by simpa using Array.mem_of_getElem? ht
        have hall : ([39, 28, 26].all fun u => !Tryd.prog.wantsStandIn u) = true := by kernel_rfl
        exact (show Tryd.prog.wantsStandIn t = false by simpa using List.all_eq_true.1 hall t hm)⟩)
    (by kernel_rfl)
theorem proved : Rows.StoreAddsCardSaid := carded
#print axioms proved
end Go.Proofs.YtahopnlibmiafaaDoor.lawStoreAdds
