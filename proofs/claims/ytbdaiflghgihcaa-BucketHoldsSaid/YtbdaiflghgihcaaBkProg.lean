/- The walks of the token bucket: the deferred closures, and what stands behind a function's door. Written by gen_bkprog.py. -/
import Derived.Test.YtbdaiflghgihcaaBkRef2
namespace Go.Proofs.Ytbdaiflghgihcaa
set_option linter.unusedVariables false
open Go.RowKit

/-- The five cells of block b, set to 0. -/
def zeroed (w : World) (b : Nat) : World := ((((w.setCell ⟨b, 0, none⟩ (.int .i64 0)).setCell ⟨b, 1, none⟩ (.int .i64 0)).setCell ⟨b, 2, none⟩ (.int .i64 0)).setCell ⟨b, 3, none⟩ (.int .i64 0)).setCell ⟨b, 4, none⟩ (.int .i64 0)
theorem zeroed_blk {w : World} {b : Nat} {c : Array Value} (h : blk w b = some c) (hc : c.size = 5) : blk (zeroed w b) b = some #[.int .i64 0, .int .i64 0, .int .i64 0, .int .i64 0, .int .i64 0] := by
  obtain ⟨l⟩ := c
  match l, hc with
  | [a0, a1, a2, a3, a4], _ => exact blk_set (blk_set (blk_set (blk_set (blk_set h))))
theorem zeroed_other {w : World} {b d : Nat} {c : Array Value} (h : blk w d = some c) (hd : d ≠ b) : blk (zeroed w b) d = some c := by
  unfold zeroed
  exact blk_other (blk_other (blk_other (blk_other (blk_other h hd) hd) hd) hd) hd
theorem zeroed_below {B : Nat} {w a : World} {b : Nat} (h : Below B w a) (hb : B ≤ b) : Below B w (zeroed a b) := by
  unfold zeroed
  exact ((((h.setCell (p := ⟨b, 0, none⟩) hb _).setCell (p := ⟨b, 1, none⟩) hb _).setCell (p := ⟨b, 2, none⟩) hb _).setCell (p := ⟨b, 3, none⟩) hb _).setCell (p := ⟨b, 4, none⟩) hb _

set_option maxRecDepth 100000 in
theorem givenFill_ok (bo be : Nat) (u : FrameMode) (w : World) (he : w.cell? ⟨be, 0, none⟩ = some (.int .i64 0)) :
    CallsD Try.prog 56 #[.pointer (some ⟨bo, 0, none⟩), .pointer (some ⟨be, 0, none⟩)] u w fun e u' w' => u' = u ∧ (e = .returned (.tuple #[]) ∧ w' = w) := by
  go_enter_d Try.func56, Try.ntmps56
  go_wp2
  go_end0
  go_wp2
  go_end0
  exact ⟨rfl, rfl⟩

set_option maxRecDepth 100000 in
theorem givenFill_err (bo be : Nat) (c : Int) (u : FrameMode) (w : World) (he : w.cell? ⟨be, 0, none⟩ = some (.int .i64 c)) (hc : (c != 0) = true) (v : Array Value) (hb : blk w bo = some v) (hv : v.size = 5) :
    CallsD Try.prog 56 #[.pointer (some ⟨bo, 0, none⟩), .pointer (some ⟨be, 0, none⟩)] u w fun e u' w' => u' = u ∧ (e = .returned (.tuple #[]) ∧ w' = zeroed w bo) := by
  have f0 := blk_frozen hb 0
  have f1 := blk_frozen hb 1
  have f2 := blk_frozen hb 2
  have f3 := blk_frozen hb 3
  have f4 := blk_frozen hb 4
  have c0 := blk_cell hb 0
  have c1 := blk_cell hb 1
  have c2 := blk_cell hb 2
  have c3 := blk_cell hb 3
  have c4 := blk_cell hb 4
  rw [Array.getElem?_eq_getElem (by omega)] at c0 c1 c2 c3 c4
  go_enter_d Try.func56, Try.ntmps56
  go_wp2
  go_end0
  go_wp2
  go_end0
  exact ⟨rfl, rfl⟩

theorem doorFill_ok {fn : Func} {R : Ending → World → Prop} {tmps : Array Value} {W : World} (bo be : Nat) {c : Array Value} {v : Value} (hbo : blk W bo = some c) (hbe : blk W be = some #[.int .i64 0])
    (hres : ∀ W' : World, (∀ i, W'.cell? ⟨bo, i, none⟩ = c[i]?) → (∀ i, W'.cell? ⟨be, i, none⟩ = (#[.int .i64 0] : Array Value)[i]?) → (results fn tmps).run Try.prog W' = .ok v W') (hR : R (.returned v) W) :
    bodyPostD Try.prog fn R .ret { tmps := tmps, defers := [{ target := Target.fn (Fn.func 56) #[.pointer (some ⟨bo, 0, none⟩), .pointer (some ⟨be, 0, none⟩)], args := #[] }] } W := by
  refine leaves_cons (f := 56) (args := #[.pointer (some ⟨bo, 0, none⟩), .pointer (some ⟨be, 0, none⟩)]) (by simp) (by simp [go_sem]) ?_
  refine (givenFill_ok bo be .returning W (blk_cell hbe 0)).mono ?_
  rintro e u' w'' ⟨rfl, rfl, rfl⟩
  exact ⟨v, hres _ (blk_cell hbo) (blk_cell hbe), hR⟩

theorem doorFill_err {fn : Func} {R : Ending → World → Prop} {tmps : Array Value} {W : World} (bo be : Nat) {x : Int} {c : Array Value} {v : Value} (hx : (x != 0) = true) (hne : be ≠ bo) (hbo : blk W bo = some c) (hc : c.size = 5) (hbe : blk W be = some #[.int .i64 x])
    (hres : ∀ W' : World, (∀ i, W'.cell? ⟨bo, i, none⟩ = (#[.int .i64 0, .int .i64 0, .int .i64 0, .int .i64 0, .int .i64 0] : Array Value)[i]?) → (∀ i, W'.cell? ⟨be, i, none⟩ = (#[.int .i64 x] : Array Value)[i]?) → (results fn tmps).run Try.prog W' = .ok v W') (hR : R (.returned v) (zeroed W bo)) :
    bodyPostD Try.prog fn R .ret { tmps := tmps, defers := [{ target := Target.fn (Fn.func 56) #[.pointer (some ⟨bo, 0, none⟩), .pointer (some ⟨be, 0, none⟩)], args := #[] }] } W := by
  refine leaves_cons (f := 56) (args := #[.pointer (some ⟨bo, 0, none⟩), .pointer (some ⟨be, 0, none⟩)]) (by simp) (by simp [go_sem]) ?_
  refine (givenFill_err bo be x .returning W (blk_cell hbe 0) hx c hbo hc).mono ?_
  rintro e u' w'' ⟨rfl, rfl, rfl⟩
  exact ⟨v, hres _ (blk_cell (zeroed_blk hbo hc)) (blk_cell (zeroed_other hbe hne)), hR⟩

set_option maxRecDepth 100000 in
theorem givenTake_ok (bo be : Nat) (u : FrameMode) (w : World) (he : w.cell? ⟨be, 0, none⟩ = some (.int .i64 0)) :
    CallsD Try.prog 60 #[.pointer (some ⟨bo, 0, none⟩), .pointer (some ⟨be, 0, none⟩)] u w fun e u' w' => u' = u ∧ (e = .returned (.tuple #[]) ∧ w' = w) := by
  go_enter_d Try.func60, Try.ntmps60
  go_wp2
  go_end0
  go_wp2
  go_end0
  exact ⟨rfl, rfl⟩

set_option maxRecDepth 100000 in
theorem givenTake_err (bo be : Nat) (c : Int) (u : FrameMode) (w : World) (he : w.cell? ⟨be, 0, none⟩ = some (.int .i64 c)) (hc : (c != 0) = true) (v : Array Value) (hb : blk w bo = some v) (hv : v.size = 5) :
    CallsD Try.prog 60 #[.pointer (some ⟨bo, 0, none⟩), .pointer (some ⟨be, 0, none⟩)] u w fun e u' w' => u' = u ∧ (e = .returned (.tuple #[]) ∧ w' = zeroed w bo) := by
  have f0 := blk_frozen hb 0
  have f1 := blk_frozen hb 1
  have f2 := blk_frozen hb 2
  have f3 := blk_frozen hb 3
  have f4 := blk_frozen hb 4
  have c0 := blk_cell hb 0
  have c1 := blk_cell hb 1
  have c2 := blk_cell hb 2
  have c3 := blk_cell hb 3
  have c4 := blk_cell hb 4
  rw [Array.getElem?_eq_getElem (by omega)] at c0 c1 c2 c3 c4
  go_enter_d Try.func60, Try.ntmps60
  go_wp2
  go_end0
  go_wp2
  go_end0
  exact ⟨rfl, rfl⟩

theorem doorTake_ok {fn : Func} {R : Ending → World → Prop} {tmps : Array Value} {W : World} (bo be : Nat) {c : Array Value} {v : Value} (hbo : blk W bo = some c) (hbe : blk W be = some #[.int .i64 0])
    (hres : ∀ W' : World, (∀ i, W'.cell? ⟨bo, i, none⟩ = c[i]?) → (∀ i, W'.cell? ⟨be, i, none⟩ = (#[.int .i64 0] : Array Value)[i]?) → (results fn tmps).run Try.prog W' = .ok v W') (hR : R (.returned v) W) :
    bodyPostD Try.prog fn R .ret { tmps := tmps, defers := [{ target := Target.fn (Fn.func 60) #[.pointer (some ⟨bo, 0, none⟩), .pointer (some ⟨be, 0, none⟩)], args := #[] }] } W := by
  refine leaves_cons (f := 60) (args := #[.pointer (some ⟨bo, 0, none⟩), .pointer (some ⟨be, 0, none⟩)]) (by simp) (by simp [go_sem]) ?_
  refine (givenTake_ok bo be .returning W (blk_cell hbe 0)).mono ?_
  rintro e u' w'' ⟨rfl, rfl, rfl⟩
  exact ⟨v, hres _ (blk_cell hbo) (blk_cell hbe), hR⟩

theorem doorTake_err {fn : Func} {R : Ending → World → Prop} {tmps : Array Value} {W : World} (bo be : Nat) {x : Int} {c : Array Value} {v : Value} (hx : (x != 0) = true) (hne : be ≠ bo) (hbo : blk W bo = some c) (hc : c.size = 5) (hbe : blk W be = some #[.int .i64 x])
    (hres : ∀ W' : World, (∀ i, W'.cell? ⟨bo, i, none⟩ = (#[.int .i64 0, .int .i64 0, .int .i64 0, .int .i64 0, .int .i64 0] : Array Value)[i]?) → (∀ i, W'.cell? ⟨be, i, none⟩ = (#[.int .i64 x] : Array Value)[i]?) → (results fn tmps).run Try.prog W' = .ok v W') (hR : R (.returned v) (zeroed W bo)) :
    bodyPostD Try.prog fn R .ret { tmps := tmps, defers := [{ target := Target.fn (Fn.func 60) #[.pointer (some ⟨bo, 0, none⟩), .pointer (some ⟨be, 0, none⟩)], args := #[] }] } W := by
  refine leaves_cons (f := 60) (args := #[.pointer (some ⟨bo, 0, none⟩), .pointer (some ⟨be, 0, none⟩)]) (by simp) (by simp [go_sem]) ?_
  refine (givenTake_err bo be x .returning W (blk_cell hbe 0) hx c hbo hc).mono ?_
  rintro e u' w'' ⟨rfl, rfl, rfl⟩
  exact ⟨v, hres _ (blk_cell (zeroed_blk hbo hc)) (blk_cell (zeroed_other hbe hne)), hR⟩

set_option maxRecDepth 100000 in
theorem givenMake_ok (bo be : Nat) (u : FrameMode) (w : World) (he : w.cell? ⟨be, 0, none⟩ = some (.int .i64 0)) :
    CallsD Try.prog 61 #[.pointer (some ⟨bo, 0, none⟩), .pointer (some ⟨be, 0, none⟩)] u w fun e u' w' => u' = u ∧ (e = .returned (.tuple #[]) ∧ w' = w) := by
  go_enter_d Try.func61, Try.ntmps61
  go_wp2
  go_end0
  go_wp2
  go_end0
  exact ⟨rfl, rfl⟩

set_option maxRecDepth 100000 in
theorem givenMake_err (bo be : Nat) (c : Int) (u : FrameMode) (w : World) (he : w.cell? ⟨be, 0, none⟩ = some (.int .i64 c)) (hc : (c != 0) = true) (v : Array Value) (hb : blk w bo = some v) (hv : v.size = 5) :
    CallsD Try.prog 61 #[.pointer (some ⟨bo, 0, none⟩), .pointer (some ⟨be, 0, none⟩)] u w fun e u' w' => u' = u ∧ (e = .returned (.tuple #[]) ∧ w' = zeroed w bo) := by
  have f0 := blk_frozen hb 0
  have f1 := blk_frozen hb 1
  have f2 := blk_frozen hb 2
  have f3 := blk_frozen hb 3
  have f4 := blk_frozen hb 4
  have c0 := blk_cell hb 0
  have c1 := blk_cell hb 1
  have c2 := blk_cell hb 2
  have c3 := blk_cell hb 3
  have c4 := blk_cell hb 4
  rw [Array.getElem?_eq_getElem (by omega)] at c0 c1 c2 c3 c4
  go_enter_d Try.func61, Try.ntmps61
  go_wp2
  go_end0
  go_wp2
  go_end0
  exact ⟨rfl, rfl⟩

theorem doorMake_ok {fn : Func} {R : Ending → World → Prop} {tmps : Array Value} {W : World} (bo be : Nat) {c : Array Value} {v : Value} (hbo : blk W bo = some c) (hbe : blk W be = some #[.int .i64 0])
    (hres : ∀ W' : World, (∀ i, W'.cell? ⟨bo, i, none⟩ = c[i]?) → (∀ i, W'.cell? ⟨be, i, none⟩ = (#[.int .i64 0] : Array Value)[i]?) → (results fn tmps).run Try.prog W' = .ok v W') (hR : R (.returned v) W) :
    bodyPostD Try.prog fn R .ret { tmps := tmps, defers := [{ target := Target.fn (Fn.func 61) #[.pointer (some ⟨bo, 0, none⟩), .pointer (some ⟨be, 0, none⟩)], args := #[] }] } W := by
  refine leaves_cons (f := 61) (args := #[.pointer (some ⟨bo, 0, none⟩), .pointer (some ⟨be, 0, none⟩)]) (by simp) (by simp [go_sem]) ?_
  refine (givenMake_ok bo be .returning W (blk_cell hbe 0)).mono ?_
  rintro e u' w'' ⟨rfl, rfl, rfl⟩
  exact ⟨v, hres _ (blk_cell hbo) (blk_cell hbe), hR⟩

theorem doorMake_err {fn : Func} {R : Ending → World → Prop} {tmps : Array Value} {W : World} (bo be : Nat) {x : Int} {c : Array Value} {v : Value} (hx : (x != 0) = true) (hne : be ≠ bo) (hbo : blk W bo = some c) (hc : c.size = 5) (hbe : blk W be = some #[.int .i64 x])
    (hres : ∀ W' : World, (∀ i, W'.cell? ⟨bo, i, none⟩ = (#[.int .i64 0, .int .i64 0, .int .i64 0, .int .i64 0, .int .i64 0] : Array Value)[i]?) → (∀ i, W'.cell? ⟨be, i, none⟩ = (#[.int .i64 x] : Array Value)[i]?) → (results fn tmps).run Try.prog W' = .ok v W') (hR : R (.returned v) (zeroed W bo)) :
    bodyPostD Try.prog fn R .ret { tmps := tmps, defers := [{ target := Target.fn (Fn.func 61) #[.pointer (some ⟨bo, 0, none⟩), .pointer (some ⟨be, 0, none⟩)], args := #[] }] } W := by
  refine leaves_cons (f := 61) (args := #[.pointer (some ⟨bo, 0, none⟩), .pointer (some ⟨be, 0, none⟩)]) (by simp) (by simp [go_sem]) ?_
  refine (givenMake_err bo be x .returning W (blk_cell hbe 0) hx c hbo hc).mono ?_
  rintro e u' w'' ⟨rfl, rfl, rfl⟩
  exact ⟨v, hres _ (blk_cell (zeroed_blk hbo hc)) (blk_cell (zeroed_other hbe hne)), hR⟩

end Go.Proofs.Ytbdaiflghgihcaa
