/- The reader of the reference: number. -/
import Derived.Test.YtiphddlakbbfiaaDoorWiPeek
namespace Go.Proofs.YtiphddlakbbfiaaDoor
set_option linter.unusedVariables false
open Go.RowKit

/-- One block touched: what lies below it, and what the other blocks hold, is as it was. -/
def Touch (b : Nat) (w w' : World) : Prop := Below b w w' ∧ (∀ d c, d ≠ b → blk w d = some c → blk w' d = some c) ∧ w.heap.size ≤ w'.heap.size
theorem Touch.refl (b : Nat) (w : World) : Touch b w w := ⟨Below.refl _ _, fun _ _ _ h => h, Nat.le_refl _⟩
theorem Touch.set {b i : Nat} {w W : World} {v : Value} (h : Touch b w W) : Touch b w (W.setCell ⟨b, i, none⟩ v) :=
  ⟨h.1.setCell (p := ⟨b, i, none⟩) (Nat.le_refl _) v, fun d c hd hc => blk_other (h.2.1 d c hd hc) hd, by simpa using h.2.2⟩
theorem Touch.drew {b : Nat} {w W : World} (h : Touch b w W) : Touch b w W.drew := ⟨h.1.drew, fun d c hd hc => blk_drew (h.2.1 d c hd hc), h.2.2⟩
theorem Touch.below {b : Nat} {w W W' : World} (h : Touch b w W) (hb : Below W.heap.size W W') (hlt : b ≤ W.heap.size) : Touch b w W' :=
  ⟨h.1.trans (hb.mono hlt), fun d c hd hc => blk_below hb (h.2.1 d c hd hc), Nat.le_trans h.2.2 hb.size⟩
theorem Touch.trans {b : Nat} {w W W' : World} (h : Touch b w W) (k : Touch b W W') : Touch b w W' :=
  ⟨h.1.trans k.1, fun d c hd hc => k.2.1 d c hd (h.2.1 d c hd hc), Nat.le_trans h.2.2 k.2.2⟩
theorem Touch.setNew {b d i : Nat} {w W : World} {v : Value} (h : Touch b w W) (hd : w.heap.size ≤ d) (hb : b < w.heap.size) : Touch b w (W.setCell ⟨d, i, none⟩ v) :=
  ⟨h.1.setCell (p := ⟨d, i, none⟩) (by simp only; omega) v, fun e c he hc => blk_other (h.2.1 e c he hc) (by have := blk_lt hc; simp only; omega), by simpa using h.2.2⟩
theorem Touch.setNew' {b d i : Nat} {w W : World} {v : Value} (hd : w.heap.size ≤ d) (hb : b < w.heap.size) (h : Touch b w W) : Touch b w (W.setCell ⟨d, i, none⟩ v) := h.setNew hd hb
theorem Touch.alloc {b : Nat} {w W : World} {o : Obj} (h : Touch b w W) (hb : b < w.heap.size) : Touch b w (W.alloc o) :=
  h.below ((Below.refl _ _).alloc (Nat.le_refl _) _) (Nat.le_trans (Nat.le_of_lt hb) h.2.2)
/-- The reader of the reference: after a fault the place stays. -/
def rdJ (l : List UInt8) (m : Int) (r : Rs) : Int × Rs :=
  if r.err ≠ 0 then (0, r) else if (intN l r.pos m).2.2 ≠ 0 then (0, ⟨r.pos, (intN l r.pos m).2.2, (intN l r.pos m).2.1⟩) else ((intN l r.pos m).1, ⟨(intN l r.pos m).2.1, 0, r.fat⟩)
abbrev rdC (s : ByteArray) (p er fa : Int) : Array Value := #[.string s, .int .i64 p, .int .i64 er, .int .i64 fa]
def SameR (r r' : Rs) : Prop := r.err = r'.err ∧ r.fat = r'.fat ∧ (r.err = 0 → r.pos = r'.pos)
theorem intN_zero (l : List UInt8) (q m : Int) (h : (intN l q m).2.2 ≠ 0) : (intN l q m).1 = 0 := by
  unfold intN at h ⊢
  split
  · rfl
  · rename_i h1
    rw [if_neg h1] at h
    split
    · rfl
    · rename_i h2; rw [if_neg h2] at h; simp at h
theorem rd_same (l : List UInt8) (m : Int) {r r' : Rs} (h : SameR r r') : (rdI l m r).1 = (rdJ l m r').1 ∧ SameR (rdI l m r).2 (rdJ l m r').2 := by
  obtain ⟨p, e, f⟩ := r
  obtain ⟨p', e', f'⟩ := r'
  obtain ⟨h1, h2, h3⟩ := h
  simp only at h1 h2 h3
  subst h1 h2
  have hz := intN_zero l p m
  by_cases he : e = 0
  · obtain rfl := h3 he
    subst he
    unfold rdI rdJ SameR
    obtain ⟨⟨n, nx, z⟩, hg⟩ : ∃ x, intN l p m = x := ⟨_, rfl⟩
    rw [hg] at hz
    simp only [hg, ne_eq, not_true_eq_false, if_false] at hz ⊢
    by_cases h0 : z = 0
    · simp [h0]
    · simp [h0, hz h0]
  · unfold rdI rdJ SameR
    simp [he]
def fieldsJ (l : List UInt8) (fu : Bool) (r0 : Rs) : Fl :=
  let x1 := rdJ l 16 r0
  let x2 := rdJ l 1099511627776 x1.2
  let x3 := rdJ l 16 x2.2
  let x4 := rdJ l 1099511627776 x3.2
  let x5 := rdJ l 1048576 x4.2
  let x6 := if fu then (0, x5.2) else rdJ l 20000 x5.2
  let x7 := if fu then (0, x6.2) else rdJ l 20000 x6.2
  ⟨x1.1, x2.1, x6.1, x3.1, x4.1, x5.1, x7.1, x7.2⟩
theorem fields_same (l : List UInt8) (fu : Bool) (r0 : Rs) : ∃ r, fieldsJ l fu r0 = { fieldsR l fu r0 with r := r } ∧ SameR (fieldsR l fu r0).r r := by
  have s0 : SameR r0 r0 := ⟨rfl, rfl, fun _ => rfl⟩
  have s1 := rd_same l 16 s0
  have s2 := rd_same l 1099511627776 s1.2
  have s3 := rd_same l 16 s2.2
  have s4 := rd_same l 1099511627776 s3.2
  have s5 := rd_same l 1048576 s4.2
  have s6 := rd_same l 20000 s5.2
  have s7 := rd_same l 20000 s6.2
  cases fu
  · refine ⟨(fieldsJ l false r0).r, ?_, ?_⟩
    · unfold fieldsJ fieldsR
      simp only [Bool.false_eq_true, if_false]
      rw [s1.1, s2.1, s3.1, s4.1, s5.1, s6.1, s7.1]
    · exact s7.2
  · refine ⟨(fieldsJ l true r0).r, ?_, ?_⟩
    · unfold fieldsJ fieldsR
      simp only [if_true]
      rw [s1.1, s2.1, s3.1, s4.1, s5.1]
    · exact s5.2
theorem rdJ_range (l : List UInt8) (m : Int) (r : Rs) (hm : 0 ≤ m) (hq : 0 ≤ r.pos) (hq2 : r.pos ≤ l.length) : 0 ≤ (rdJ l m r).1 ∧ (rdJ l m r).1 ≤ m ∧ 0 ≤ (rdJ l m r).2.pos ∧ (rdJ l m r).2.pos ≤ l.length := by
  unfold rdJ
  have := intN_range l r.pos m hq hq2
  split
  · exact ⟨by simp, hm, hq, hq2⟩
  · split
    · exact ⟨by simp, hm, hq, hq2⟩
    · refine ⟨this.1, by simp only; omega, this.2.2.1, this.2.2.2⟩
set_option maxRecDepth 100000 in
set_option maxHeartbeats 1600000 in
theorem number_any (b : Nat) (s : ByteArray) (p er fa : Int) (m : Int) (hs : s.size ≤ maxLen) (hp1 : -9223372036854775808 ≤ p) (hp2 : p ≤ 9223372036854775807) (hm2 : m ≤ 9223372036854775807) (w : World) (hb : blk w b = some (rdC s p er fa)) :
    Calls Tryd.prog 63 #[.pointer (some ⟨b, 0, none⟩), .int .i64 m] w fun q w' => q = .returned (.int .i64 (rdJ s.data.toList m ⟨p, er, fa⟩).1) ∧
      blk w' b = some (rdC s (rdJ s.data.toList m ⟨p, er, fa⟩).2.pos (rdJ s.data.toList m ⟨p, er, fa⟩).2.err (rdJ s.data.toList m ⟨p, er, fa⟩).2.fat) ∧ Touch b w w' := by
  have knb := kn hb
  have hlt := blk_lt hb
  by_cases h1 : er = 0
  · subst h1
    have cg := fun w => refInt_any s p m w hs hp1 hp2 hm2
    obtain ⟨⟨n, nx, e⟩, hg⟩ : ∃ r, intN s.data.toList p m = r := ⟨_, rfl⟩
    rw [hg] at cg
    have cg : ∀ w, Calls Tryd.prog 64 #[.string s, .int .i64 p, .int .i64 m] w fun e' w' => e' = .returned (.tuple #[.int .i64 n, .int .i64 nx, .int .i64 e]) ∧ w = w' := cg
    replace cg := Lib.hid cg
    by_cases h2 : e = 0
    · have hr : rdJ s.data.toList m ⟨p, 0, fa⟩ = (n, ⟨nx, 0, fa⟩) := by unfold rdJ; simp [hg, h2]
      rw [hr]
      clear hr hg
      subst h2
      go_enter Tryd.func63, Tryd.ntmps63
      go_wp2
      refine wp_region_in (by kernel_rfl) (by kernel_rfl) ?_
      intro W0_1 hE_1 hN_1
      have bW0_1 : Below w.heap.size w W0_1 := (by rw [hE_1.out]; (repeat (first | (with_reducible assumption) | (with_reducible exact Below.refl _ _) | (with_reducible refine beld_drew ?_) | ((with_reducible refine bset' ?_ ?_); (first | (focus (dsimp only; assumption)) | (focus (simp; done)) | (focus (dsimp only; omega)))) | (with_reducible refine belt_alloc ?_) | ((with_reducible refine zeroed_below' ?_ ?_); (first | (focus (simp; done)) | (focus (dsimp only; omega)))) | (with_reducible refine bt ?_ (by assumption)))))
      have kk2 : blk W0_1 (b) = some (rdC s p 0 fa) := (by rw [hE_1.out]; (apply blk_to; (focus (repeat (first | (with_reducible assumption) | (with_reducible apply blk_drew) | (with_reducible apply blk_set) | ((with_reducible apply blk_other'); (first | (focus (dsimp only; assumption)) | (focus (simp; done)) | (focus (dsimp only; omega)))) | ((with_reducible apply blk_alloc_new); (first | (with_reducible rfl) | (focus (simp; done)) | (focus (simp; omega)))) | (with_reducible apply blk_alloc) | ((with_reducible apply blk_below); (with_reducible assumption))))); rfl))
      have kn2 := calm_kn kk2
      clear hE_1
      repeat (go_big_quiet_step ((go_at_call 64; (with_reducible refine Class.same _ (cg.out _)))))
      refine wpQuiet_nil ?_
      rintro _ ⟨x_1, rfl⟩
      have hx_1 : Calm W0_1 x_1.wd := x_1.ok
      have bw2 : Below w.heap.size w x_1.wd := bt bW0_1 hx_1
      clear kn2; replace kk2 := blk_below hx_1 kk2; have kn2 := kn kk2
      clear hx_1 bW0_1 hN_1
      generalize x_1.wd = w2 at *
      have sw2 := bw2.size
      go_wp2
      go_ret
      exact ⟨rfl, by (apply blk_to; (focus (repeat (first | (with_reducible assumption) | (with_reducible apply blk_drew) | (with_reducible apply blk_set) | ((with_reducible apply blk_other'); (first | (focus (dsimp only; assumption)) | (focus (simp; done)) | (focus (dsimp only; omega)))) | ((with_reducible apply blk_alloc_new); (first | (with_reducible rfl) | (focus (simp; done)) | (focus (simp; omega)))) | (with_reducible apply blk_alloc) | ((with_reducible apply blk_below); (with_reducible assumption))))); rfl), ((Touch.refl b w).below bw2 (Nat.le_of_lt hlt)).set⟩
    · have hr : rdJ s.data.toList m ⟨p, 0, fa⟩ = (0, ⟨p, e, nx⟩) := by unfold rdJ; simp [hg, h2]
      rw [hr]
      have e2 : (e != 0) = true := by simp [h2]
      clear hr hg h2
      go_enter Tryd.func63, Tryd.ntmps63
      go_wp2
      refine wp_region_in (by kernel_rfl) (by kernel_rfl) ?_
      intro W0_3 hE_3 hN_3
      have bW0_3 : Below w.heap.size w W0_3 := (by rw [hE_3.out]; (repeat (first | (with_reducible assumption) | (with_reducible exact Below.refl _ _) | (with_reducible refine beld_drew ?_) | ((with_reducible refine bset' ?_ ?_); (first | (focus (dsimp only; assumption)) | (focus (simp; done)) | (focus (dsimp only; omega)))) | (with_reducible refine belt_alloc ?_) | ((with_reducible refine zeroed_below' ?_ ?_); (first | (focus (simp; done)) | (focus (dsimp only; omega)))) | (with_reducible refine bt ?_ (by assumption)))))
      have kk4 : blk W0_3 (b) = some (rdC s p 0 fa) := (by rw [hE_3.out]; (apply blk_to; (focus (repeat (first | (with_reducible assumption) | (with_reducible apply blk_drew) | (with_reducible apply blk_set) | ((with_reducible apply blk_other'); (first | (focus (dsimp only; assumption)) | (focus (simp; done)) | (focus (dsimp only; omega)))) | ((with_reducible apply blk_alloc_new); (first | (with_reducible rfl) | (focus (simp; done)) | (focus (simp; omega)))) | (with_reducible apply blk_alloc) | ((with_reducible apply blk_below); (with_reducible assumption))))); rfl))
      have kn4 := calm_kn kk4
      clear hE_3
      repeat (go_big_quiet_step ((go_at_call 64; (with_reducible refine Class.same _ (cg.out _)))))
      refine wpQuiet_nil ?_
      rintro _ ⟨x_3, rfl⟩
      have hx_3 : Calm W0_3 x_3.wd := x_3.ok
      have bw2 : Below w.heap.size w x_3.wd := bt bW0_3 hx_3
      clear kn4; replace kk4 := blk_below hx_3 kk4; have kn4 := kn kk4
      clear hx_3 bW0_3 hN_3
      generalize x_3.wd = w2 at *
      have sw2 := bw2.size
      go_wp2
      go_ret
      exact ⟨rfl, by (apply blk_to; (focus (repeat (first | (with_reducible assumption) | (with_reducible apply blk_drew) | (with_reducible apply blk_set) | ((with_reducible apply blk_other'); (first | (focus (dsimp only; assumption)) | (focus (simp; done)) | (focus (dsimp only; omega)))) | ((with_reducible apply blk_alloc_new); (first | (with_reducible rfl) | (focus (simp; done)) | (focus (simp; omega)))) | (with_reducible apply blk_alloc) | ((with_reducible apply blk_below); (with_reducible assumption))))); rfl), ((Touch.refl b w).below bw2 (Nat.le_of_lt hlt)).set.set⟩
  · have hr : rdJ s.data.toList m ⟨p, er, fa⟩ = (0, ⟨p, er, fa⟩) := by unfold rdJ; simp [h1]
    rw [hr]
    have e1 : (er != 0) = true := by simp [h1]
    clear h1 hr
    go_enter Tryd.func63, Tryd.ntmps63
    go_wp2
    go_ret
    exact ⟨rfl, hb, Touch.refl _ _⟩
end Go.Proofs.YtiphddlakbbfiaaDoor
