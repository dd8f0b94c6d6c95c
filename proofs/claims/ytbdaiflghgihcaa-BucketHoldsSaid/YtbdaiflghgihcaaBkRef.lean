/- The walks of the reference of the token bucket. -/
import Derived.Test.YtbdaiflghgihcaaBkCheck
namespace Go.Proofs.Ytbdaiflghgihcaa
set_option linter.unusedVariables false
open Go.RowKit

/-- What a call that gives a bucket and an error gives. -/
def gotB (r : (Int × Int × Int × Int × Int) × Int) : Value := .tuple #[bkv r.1.1 r.1.2.1 r.1.2.2.1 r.1.2.2.2.1 r.1.2.2.2.2, .int .i64 r.2]
def noB : Int × Int × Int × Int × Int := (0, 0, 0, 0, 0)
def makeB (rn rd bu now : Int) : (Int × Int × Int × Int × Int) × Int := if okB rn rd bu 0 now then ((rn, rd, bu, bu * rd, now), 0) else (noB, 2)
def fillB (rn rd bu lv t now : Int) : (Int × Int × Int × Int × Int) × Int :=
  if ¬ okB rn rd bu lv t then (noB, 2) else if now < 0 ∨ 1099511627776 < now then (noB, 2) else if now < t then (noB, 19)
  else ((rn, rd, bu, min (bu * rd) (lv + rn * (now - t)), now), 0)
def wholeB (rn rd bu lv t : Int) : Int × Int := if ¬ okB rn rd bu lv t then (0, 2) else (lv / rd, 0)
/-- The error of a bucket and a number of bytes. -/
def asksB (rn rd bu lv t n : Int) : Int := if ¬ okB rn rd bu lv t then 2 else if n < 0 ∨ 1099511627776 < n then 2 else if bu < n then 5 else 0
def takeB (rn rd bu lv t n : Int) : (Int × Int × Int × Int × Int) × Int :=
  if asksB rn rd bu lv t n ≠ 0 then (noB, asksB rn rd bu lv t n) else if lv < n * rd then (noB, 17) else ((rn, rd, bu, lv - n * rd, t), 0)
def waitB (rn rd bu lv t n : Int) : Int × Int :=
  if asksB rn rd bu lv t n ≠ 0 then (0, asksB rn rd bu lv t n) else if n * rd - lv ≤ 0 then (0, 0) else if rn = 0 then (0, 17) else ((n * rd - lv + rn - 1) / rn, 0)
def mostB (rn rd bu lv t k : Int) : Int × Int := if ¬ okB rn rd bu lv t then (0, 2) else if k < 0 ∨ 1099511627776 < k then (0, 2) else ((lv + rn * k) / rd, 0)
def got2 (r : Int × Int) : Value := .tuple #[.int .i64 r.1, .int .i64 r.2]

theorem refCheck_int (rn rd bu lv t : Int) : ∃ c : Int, (∀ w, Calls Try.prog 48 #[bkv rn rd bu lv t] w fun e w' => e = .returned (.int .i64 c) ∧ Below w.heap.size w w') ∧ ((c = 0 ∧ okB rn rd bu lv t) ∨ (c = 2 ∧ ¬ okB rn rd bu lv t)) := by
  refine ⟨checkB rn rd bu lv t, fun w => refCheck_any rn rd bu lv t w, ?_⟩
  unfold checkB
  by_cases h : okB rn rd bu lv t
  · exact .inl ⟨if_pos h, h⟩
  · exact .inr ⟨if_neg h, h⟩
theorem check_int (rn rd bu lv t : Int) : ∃ c : Int, (∀ w, Calls Try.prog 47 #[bkv rn rd bu lv t] w fun e w' => e = .returned (.int .i64 c) ∧ Below w.heap.size w w') ∧ ((c = 0 ∧ okB rn rd bu lv t) ∨ (c = 2 ∧ ¬ okB rn rd bu lv t)) := by
  refine ⟨checkB rn rd bu lv t, fun w => check_any rn rd bu lv t w, ?_⟩
  unfold checkB
  by_cases h : okB rn rd bu lv t
  · exact .inl ⟨if_pos h, h⟩
  · exact .inr ⟨if_neg h, h⟩

set_option maxRecDepth 100000 in
set_option maxHeartbeats 800000 in
theorem refMake_any (rn rd bu now : Int) (w : World) :
    Calls Try.prog 46 #[.int .i64 rn, .int .i64 rd, .int .i64 bu, .int .i64 now] w fun e w' => e = .returned (gotB (makeB rn rd bu now)) ∧ Below w.heap.size w w' := by
  obtain ⟨c, hc, hcc⟩ := refCheck_int rn rd bu 0 now
  have Hc := Lib.hid hc; clear hc
  rcases hcc with ⟨rfl, h⟩ | ⟨rfl, h⟩
  · have hr : makeB rn rd bu now = ((rn, rd, bu, bu * rd, now), 0) := if_pos h
    rw [hr]; clear hr
    obtain ⟨h1, h2, h3, h4, h5, h6, h7, h8, h9, h10⟩ := h
    have hf := full_bd h3 h4 h5 h6
    have e1 : IntKind.i64.wrap (bu * rd) = bu * rd := IntWalk.i64_in _ (by omega)
    go_enter Try.func46, Try.ntmps46
    go_wp2_with (go_at_call 48; (with_reducible refine (Hc.out _).mono ?_); rintro e wb ⟨rfl, hb⟩; obtain ⟨hcb, hfb⟩ := bcell hb)
    have kb : blk wb w.heap.size = some #[.int .i64 0, .int .i64 0, .int .i64 0, .int .i64 0, .int .i64 0] := blk_below hb (blk_alloc (blk_alloc_new _ _ _ rfl) _)
    refine ret_blk (b := w.heap.size) (c := #[.int .i64 rn, .int .i64 rd, .int .i64 bu, .int .i64 (bu * rd), .int .i64 now]) (v := gotB ((rn, rd, bu, bu * rd, now), 0)) ?_ (fun W' hc => by simp [results, Try.results46, go_sem, hc, gotB]) rfl ⟨rfl, by (repeat (refine Below.setCell ?_ (by simp) _)); exact bta (bta hb)⟩
    exact blk_set (blk_set (blk_set (blk_set (blk_set (blk_other kb (by simp))))))
  · have hr : makeB rn rd bu now = (noB, 2) := if_neg h
    rw [hr]; clear hr h
    go_enter Try.func46, Try.ntmps46
    go_wp2_with (go_at_call 48; (with_reducible refine (Hc.out _).mono ?_); rintro e wb ⟨rfl, hb⟩; obtain ⟨hcb, hfb⟩ := bcell hb)
    have kb : blk wb w.heap.size = some #[.int .i64 0, .int .i64 0, .int .i64 0, .int .i64 0, .int .i64 0] := blk_below hb (blk_alloc (blk_alloc_new _ _ _ rfl) _)
    refine ret_blk (b := w.heap.size) (c := #[.int .i64 0, .int .i64 0, .int .i64 0, .int .i64 0, .int .i64 0]) (v := gotB (noB, 2)) ?_ (fun W' hc => by simp [results, Try.results46, go_sem, hc, gotB, noB]) rfl ⟨rfl, by (repeat (refine Below.setCell ?_ (by simp) _)); exact bta (bta hb)⟩
    exact blk_set (blk_set (blk_set (blk_set (blk_set kb))))

set_option maxRecDepth 100000 in
set_option maxHeartbeats 800000 in
theorem refWhole_any (rn rd bu lv t : Int) (w : World) :
    Calls Try.prog 51 #[bkv rn rd bu lv t] w fun e w' => e = .returned (got2 (wholeB rn rd bu lv t)) ∧ Below w.heap.size w w' := by
  obtain ⟨c, hc, hcc⟩ := refCheck_int rn rd bu lv t
  have Hc := Lib.hid hc; clear hc
  rcases hcc with ⟨rfl, h⟩ | ⟨rfl, h⟩
  · have hr : wholeB rn rd bu lv t = (lv / rd, 0) := if_neg (not_not_intro h)
    rw [hr]; clear hr
    obtain ⟨h1, h2, h3, h4, h5, h6, h7, h8, h9, h10⟩ := h
    have hf := full_bd h3 h4 h5 h6
    go_enter Try.func51, Try.ntmps51
    go_wp2_with (go_at_call 48; (with_reducible refine (Hc.out _).mono ?_); rintro e wb ⟨rfl, hb⟩; obtain ⟨hcb, hfb⟩ := bcell hb)
    go_ret2
    exact ⟨rfl, bta hb⟩
  · have hr : wholeB rn rd bu lv t = (0, 2) := if_pos h
    rw [hr]; clear hr h
    go_enter Try.func51, Try.ntmps51
    go_wp2_with (go_at_call 48; (with_reducible refine (Hc.out _).mono ?_); rintro e wb ⟨rfl, hb⟩; obtain ⟨hcb, hfb⟩ := bcell hb)
    go_ret2
    exact ⟨rfl, bta hb⟩

set_option maxRecDepth 100000 in
set_option maxHeartbeats 800000 in
theorem refAsks_any (rn rd bu lv t n : Int) (w : World) :
    Calls Try.prog 64 #[bkv rn rd bu lv t, .int .i64 n] w fun e w' => e = .returned (.int .i64 (asksB rn rd bu lv t n)) ∧ Below w.heap.size w w' := by
  obtain ⟨c, hc, hcc⟩ := refCheck_int rn rd bu lv t
  have Hc := Lib.hid hc; clear hc
  rcases hcc with ⟨rfl, h⟩ | ⟨rfl, h⟩
  · have hr : asksB rn rd bu lv t n = if n < 0 ∨ 1099511627776 < n then 2 else if bu < n then 5 else 0 := if_neg (not_not_intro h)
    rw [hr]; clear hr
    obtain ⟨h1, h2, h3, h4, h5, h6, h7, h8, h9, h10⟩ := h
    have hf := full_bd h3 h4 h5 h6
    by_cases c1 : n < 0
    · rw [if_pos (.inl c1)]
      go_enter Try.func64, Try.ntmps64
      go_wp2_with (go_at_call 48; (with_reducible refine (Hc.out _).mono ?_); rintro e wb ⟨rfl, hb⟩; obtain ⟨hcb, hfb⟩ := bcell hb)
      go_ret
      exact ⟨rfl, bta hb⟩
    · by_cases c2 : 1099511627776 < n
      · rw [if_pos (.inr c2)]
        go_enter Try.func64, Try.ntmps64
        go_wp2_with (go_at_call 48; (with_reducible refine (Hc.out _).mono ?_); rintro e wb ⟨rfl, hb⟩; obtain ⟨hcb, hfb⟩ := bcell hb)
        go_ret
        exact ⟨rfl, bta hb⟩
      · rw [if_neg (by omega)]
        by_cases c3 : bu < n
        · rw [if_pos c3]
          go_enter Try.func64, Try.ntmps64
          go_wp2_with (go_at_call 48; (with_reducible refine (Hc.out _).mono ?_); rintro e wb ⟨rfl, hb⟩; obtain ⟨hcb, hfb⟩ := bcell hb)
          go_ret
          exact ⟨rfl, bta hb⟩
        · rw [if_neg c3]
          go_enter Try.func64, Try.ntmps64
          go_wp2_with (go_at_call 48; (with_reducible refine (Hc.out _).mono ?_); rintro e wb ⟨rfl, hb⟩; obtain ⟨hcb, hfb⟩ := bcell hb)
          go_ret
          exact ⟨rfl, bta hb⟩
  · have hr : asksB rn rd bu lv t n = 2 := if_pos h
    rw [hr]; clear hr h
    go_enter Try.func64, Try.ntmps64
    go_wp2_with (go_at_call 48; (with_reducible refine (Hc.out _).mono ?_); rintro e wb ⟨rfl, hb⟩; obtain ⟨hcb, hfb⟩ := bcell hb)
    go_ret
    exact ⟨rfl, bta hb⟩
end Go.Proofs.Ytbdaiflghgihcaa
