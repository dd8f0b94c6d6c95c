/- The walks of num.groups, num.Put and num.Size. -/
import Derived.Test.YtiphddlakbbfiaaDoorRange
import Derived.Test.YtiphddlakbbfiaaDoorNumRef
namespace Go.Proofs.YtiphddlakbbfiaaDoor
set_option linter.unusedVariables false
open Go.RowKit
attribute [local go_sem] Oper.semAt_some

/-- The number behind k groups. -/
def lead (n k : Nat) : Nat := n / 128 ^ k

theorem lead_succ (n k : Nat) : lead n (k + 1) = lead n k / 128 := by unfold lead; rw [Nat.pow_succ, Nat.div_div_eq_div_mul]
theorem lead_zero (n : Nat) : lead n 0 = n := by simp [lead]
/-- How many groups are still to come behind group k. -/
theorem lead_le (n k : Nat) : lead n k ≤ n := Nat.div_le_self _ _

theorem hi_len_lead (n k : Nat) (hn : n < 18446744073709551616) (hk : k + (hi 10 (lead n k / 128)).length + 1 = (putN n).length) (h : 128 ≤ lead n k) :
    k + 1 + (hi 10 (lead n (k + 1) / 128)).length + 1 = (putN n).length := by
  have := lead_le n k
  rw [hi_step 10 (lead n k / 128) (by omega) (by omega)] at hk
  rw [lead_succ]; simp at hk; omega

def encs (n k : Nat) : Array Value := #[.int .i64 k, .int .u8 ((lead n k : Int) % 128)]

set_option maxRecDepth 100000 in
set_option maxHeartbeats 1000000 in
theorem groups1_in (F : Fence) (n : Nat) (hf : F.fn 69) (hro : F.round = none) (hn : 1 ≤ n) (Bn x : Nat) (hx : (x : Int) ≤ 18446744073709551615) (l : Nat) (J : Nat → World → Prop) (W : World)
    (hJ : ∀ k W v, J k W → J k (W.setCell ⟨Bn, 0, none⟩ v))
    (hY : ∀ k W1, J k W1 → k < (putN x).length → YieldAt F (n - 1) Tryd.prog l (encs x k) W1 fun e W' => e = .returned (.bool true) ∧ J (k + 1) W' ∧ W'.heap[Bn]? = W1.heap[Bn]?)
    (h0 : J 0 W) (hB : Boxed W Bn 22 (.int .u64 x)) :
    CallsIn F n Tryd.prog 69 (#[.func (.yield l) #[] #[]] ++ #[.pointer (some ⟨Bn, 0, none⟩)]) W fun e W' => (∃ v, e = .returned v) ∧ J (putN x).length W' := by
  have hlen := putN_length x
  refine callsIn_of_wp Tryd.func69 rfl hf ?_ hro
  simp only [Tryd.ntmps69, List.size_toArray, List.length_cons, List.length_nil, Nat.reduceAdd, Nat.reduceSub, Array.replicate_succ, Array.replicate_zero, List.push_toArray, List.append_toArray, List.nil_append, List.cons_append]
  gi_wp2
  gi_loopw [3] (fun i wr => ∃ k : Nat, i = .int .i64 k ∧ k + (hi 10 (lead x k / 128)).length + 1 = (putN x).length ∧ J k wr ∧ Boxed wr Bn 22 (.int .u64 (lead x k)))
    (fun i _ => 11 - (intOf i).toNat)
  case atStart => exact ⟨0, rfl, by rw [lead_zero]; have := size_start x; omega, h0, by rw [lead_zero]; exact hB⟩
  case round =>
    obtain ⟨k, rfl, hk, hJk, hb⟩ := hrel
    have hkl : k < (putN x).length := by omega
    have hll := lead_le x k
    obtain ⟨fn, tmps, assign, body, hy, hR⟩ := hY k wr hJk hkl
    unfold encs at hy
    have hc := hb.cell
    have hfr := hb.frozen
    have Hk := Lib.hid hk; clear hk
    gi_wp2
    refine hR.mono ?_
    rintro e W3 ⟨rfl, hJ3, hB3⟩
    have hb3 : Boxed W3 Bn 22 (.int .u64 (lead x k)) := hB3.trans hb
    clear hc hfr
    have hc := hb3.cell
    have hfr := hb3.frozen
    by_cases h128 : 128 ≤ lead x k
    · gi_wp2
      go_roundw
      case rel =>
        refine ⟨k + 1, by go_num, hi_len_lead x k (by omega) Hk.out h128, hJ _ _ _ hJ3, ?_⟩
        have := hb3.set (.int .u64 (lead x (k + 1)))
        rw [lead_succ] at this ⊢
        simpa using this
      case measure => simp [intOf]; omega
    · gi_wp2
      go_end0
      refine ⟨⟨_, rfl⟩, ?_⟩
      have : k + 1 = (putN x).length := by have := Hk.out; rw [show lead x k / 128 = 0 by omega, hi_zero] at this; simpa using this
      rw [← this]; exact hJ3

theorem groups_in (F : Fence) (n : Nat) (hf : F.fn 59) (hro : F.round = none) (x : Nat) (w : World) :
    CallsIn F n Tryd.prog 59 #[.int .u64 x] w fun e w' => e = .returned (.func (.func 69) #[] #[.pointer (some ⟨w.heap.size, 0, none⟩)]) ∧ w' = w.alloc (.cells #[.int .u64 x] 22) := by
  refine callsIn_of_wp Tryd.func59 rfl hf ?_ hro
  simp only [Tryd.ntmps59, List.size_toArray, List.length_cons, List.length_nil, Nat.reduceAdd, Nat.reduceSub, Array.replicate_succ, Array.replicate_zero, List.push_toArray, List.append_toArray, List.nil_append, List.cons_append]
  gi_wp2
  go_ret
  exact ⟨rfl, rfl⟩

set_option maxRecDepth 100000 in
set_option maxHeartbeats 1000000 in
theorem numSize_in (F : Fence) (n : Nat) (hf : F.fn 36) (hg : F.fn 59) (hg1 : F.fn 69) (hro : F.round = none) (hn : 3 ≤ n) (x : Nat) (hx : (x : Int) ≤ 18446744073709551615) (w : World) :
    CallsIn F n Tryd.prog 36 #[.int .u64 x] w fun e w' => e = .returned (.int .i64 ((putN x).length : Nat)) ∧ Below w.heap.size w w' := by
  have h1 : 1 ≤ n := by omega
  have hlen := putN_length x
  refine callsIn_of_wp_marks Tryd.func36 rfl hf ?_ hro
  simp only [Tryd.ntmps36, List.size_toArray, List.length_cons, List.length_nil, Nat.reduceAdd, Nat.reduceSub, Array.replicate_succ, Array.replicate_zero, List.push_toArray, List.append_toArray, List.nil_append, List.cons_append]
  gi_wp2_with (gi_at_call 59; refine (groups_in F (n - 1) hg hro _ _).mono ?_; rintro e w' ⟨rfl, rfl⟩)
  have hsz : ((w.alloc (Obj.cells #[Value.int IntKind.i64 0] 3)).alloc (Obj.cells #[Value.int IntKind.u64 ↑x] 22)).heap.size = w.heap.size + 2 := by simp
  have hb0 : Boxed (w.alloc (Obj.cells #[Value.int IntKind.i64 0] 3)) w.heap.size 3 (.int .i64 0) := Boxed.new _ _ _
  have hb1 : Boxed ((w.alloc (Obj.cells #[Value.int IntKind.i64 0] 3)).alloc (Obj.cells #[Value.int IntKind.u64 ↑x] 22)) (w.heap.size + 1) 22 (.int .u64 x) := by
    have := Boxed.new (w.alloc (Obj.cells #[Value.int IntKind.i64 0] 3)) 22 (.int .u64 x); rwa [World.size_alloc] at this
  refine rangeFunc_rounds hro h1 (gf := 69) (lb := #[.pointer (some ⟨w.heap.size + 1, 0, none⟩)]) rfl hg1 (enters_of Tryd.func69 (by kernel_rfl) rfl)
    (encs x) (fun _ => rfl) (putN x).length (w.heap.size + 1) (by simp)
    (fun k W => Boxed W w.heap.size 3 (.int .i64 k) ∧ Below w.heap.size w W)
    (fun k A B hs hk => ⟨hk.boxed hs.1 (by simp; omega) (by omega), hk.below hs.2 (by simp; omega) (by omega)⟩)
    ⟨hb0.alloc _, ((Below.refl _ _).alloc (Nat.le_refl _) _).alloc (by simp) _⟩
    (fun l J W hJ hY h0 hB => groups1_in F (n - 1) hg1 hro (by omega) (w.heap.size + 1) x hx l J W hJ hY h0 (hB.trans hb1))
    (fun k => { tmps := #[.int .u64 x, undef, .int .i64 0, .pointer (some ⟨w.heap.size, 0, none⟩), .int .i64 k, .int .u64 x, .func (.func 69) #[] #[.pointer (some ⟨w.heap.size + 1, 0, none⟩)], .int .i64 k, .int .u8 ((lead x k : Int) % 128), undef, undef, undef], defers := [] }) ?assign ?body ?done
  case assign =>
    intro l k W K hK
    dsimp only [encs]
    gi_wp2
    exact hK
  case body =>
    rintro l k W ⟨hb, hB⟩ hlt
    have hc := hb.cell
    have hfr := hb.frozen
    gi_wp2
    refine ⟨KeepsOthers.setCell _ _ _, Below.heap_setCell _ _ _ _ (by show _ ≠ w.heap.size; omega), ?_, hB.setCell (p := ⟨w.heap.size, 0, none⟩) (Nat.le_refl _) _⟩
    have := hb.set (.int .i64 ((k + 1 : Nat) : Int))
    simpa using this
  case done =>
    rintro D W hD ⟨hb, hB⟩ hK
    have hc := hb.cell
    have hfr := hb.frozen
    gi_wp2
    refine ⟨by simp, .inl ⟨_, _, rfl, run_takeDeferred hK, ?_⟩⟩
    exact ⟨_, results_tmp rfl _ _ _, rfl, hB.trans (belowK_b (w := w) (Nat.le_refl _) W D _ _ (by simp at hD; omega) hK rfl rfl)⟩

theorem numSize_any (x : Nat) (hx : (x : Int) ≤ 18446744073709551615) (w : World) :
    Calls Tryd.prog 36 #[.int .u64 x] w fun e w' => e = .returned (.int .i64 ((putN x).length : Nat)) ∧ Below w.heap.size w w' :=
  (callsIn_wide (n := 3)).1 (numSize_in Fence.wide 3 trivial trivial trivial rfl (by omega) x hx w)
end Go.Proofs.YtiphddlakbbfiaaDoor
