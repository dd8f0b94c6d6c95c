/- Parts of a proof, printed by a program of mine out of my texts: more of SoMath, SoEq, SoOwn, SoSame, SoMap, RpLat, RpOwn, RpAsc, RpSame, RpHlp, RpRCo, RpAsp, RpTxF, RpLsP. -/
import Derived.Deep.Cut
import Derived.Deep.CutRange
import Derived.Deep.RegionHeld
import Derived.Laws.AppendOwnNone
import Derived.Maps.OwnOps
import Derived.OrdersHeld
import Derived.OwnWalk
import Derived.RowKit
import Derived.Test.YthfmkkkdjgkaoaaGreatDoorMAC
import Derived.Test.YthfmkkkdjgkaoaaGreatDoorMH
import Derived.Test.YthfmkkkdjgkaoaaGreatDoorMK
import Derived.Test.YthfmkkkdjgkaoaaGreatDoorMM
import Derived.Test.YthfmkkkdjgkaoaaGreatDoorMP
import Derived.Test.YthfmkkkdjgkaoaaGreatDoorMR
import Derived.Test.YthfmkkkdjgkaoaaGreatDoorMU
import Derived.Test.YthfmkkkdjgkaoaaGreatDoorMZ
import Derived.Test.YthfmkkkdjgkaoaaGreatDoorMX10
set_option linter.unusedSimpArgs false
set_option linter.unusedVariables false
namespace Go.Proofs.YthfmkkkdjgkaoaaGreatDoor
open Go.RowKit
set_option maxRecDepth 100000 in
set_option maxHeartbeats 3200000 in
theorem ptext_any (ab al : Option Addr) (cb cl : Nat) (b : List Bn) (l : List Oc) (hd : ∀ x ∈ b, x.da.size ≤ maxLen ∧ 0 ≤ x.sq) (w : World) (hT : FTab w) (hH : HTab w) (hP : Lib.TabBelow Tryz.prog w.heap.size w powNm .u64 Lib.pow10Tab) (hb : SRow bn 9 w ab cb b) (hl : SRow oc 7 w al cl l) :
    Calls Tryz.prog 16 #[.slice ab b.length cb, .slice al l.length cl] w fun e w' => e = .returned (.tuple #[.string ⟨(txtR b l).toArray⟩, .int .i64 (runC b l).1]) ∧ Below w.heap.size w w' := by
  unfold txtR
  by_cases h0 : (runC b l).1 = 0
  · rw [if_pos h0]
    have h := ptext_ok ab al cb cl b l (runC_zero h0) h0 hd w hT hH hP hb hl
    rw [h0]
    exact h
  · rw [if_neg h0]
    have GO := Lib.hid (open_any ab al cb cl b l (fun x hx => (hd x hx).1) w hT hb hl)
    obtain ⟨c, hc⟩ : ∃ c, (runC b l).1 = c := ⟨_, rfl⟩
    rw [hc] at h0 GO ⊢
    have q0 : (c != 0) = true := by simpa using h0
    clear hc h0 hT hH hP hb hl hd
    go_enter Tryz.func16, Tryz.ntmps16
    go_wp2_with (go_at_call 30; (with_reducible refine (GO.out).mono ?_); rintro e w2 ⟨rfl, h2⟩)
    go_ret2
    exact ⟨rfl, by (repeat (first | (with_reducible assumption) | (with_reducible exact Below.refl _ _) | (with_reducible refine beld_drew ?_) | ((with_reducible refine bset' ?_ ?_); (first | (focus (dsimp only; assumption)) | (focus (simp; done)) | (focus (dsimp only; omega)))) | (with_reducible refine belt_alloc ?_) | ((with_reducible refine zeroed_below' ?_ ?_); (first | (focus (simp; done)) | (focus (dsimp only; omega)))) | (with_reducible refine bt ?_ (by assumption))))⟩
end Go.Proofs.YthfmkkkdjgkaoaaGreatDoor
