/- The reader of the program: fail, int, text, start, fields. -/
import Derived.Test.YtiphddlakbbfiaaDoorWiRoom
namespace Go.Proofs.YtiphddlakbbfiaaDoor
set_option linter.unusedVariables false
open Go.RowKit

/-- The cells of a form. -/
abbrev formC (s : ByteArray) (p er fa no sq of de pr bo li to : Int) (da : ByteArray) (fu : Bool) : Array Value :=
  #[.string s, .int .i64 p, .int .i64 er, .int .i64 fa, .int .i64 no, .int .u64 sq, .int .i64 of, .int .i64 de, .int .i64 pr, .int .i64 bo, .int .i64 li, .int .i64 to, .string da, .bool fu]
/-- Which fault is kept. -/
def failC (er fa e a : Int) : Int × Int := if er = 0 ∧ e ≠ 0 then (e, a) else (er, fa)
theorem Below.at {B : Nat} {w : World} {b i : Nat} {v : Value} (h : B ≤ b) : Below B w (w.setCell ⟨b, i, none⟩ v) := (Below.refl _ _).setCell (p := ⟨b, i, none⟩) h v

set_option maxRecDepth 100000 in
set_option maxHeartbeats 800000 in
theorem fail_any (b : Nat) (s : ByteArray) (p er fa no sq of de pr bo li to : Int) (da : ByteArray) (fu : Bool) (e a : Int) (w : World) (hb : blk w b = some (formC s p er fa no sq of de pr bo li to da fu)) :
    Calls Tryd.prog 41 #[.pointer (some ⟨b, 0, none⟩), .int .i64 e, .int .i64 a] w fun q w' => q = .returned (.tuple #[]) ∧
      blk w' b = some (formC s p (failC er fa e a).1 (failC er fa e a).2 no sq of de pr bo li to da fu) ∧ Below b w w' := by
  have knb := kn hb
  by_cases h1 : er = 0
  · subst h1
    by_cases h2 : e = 0
    · subst h2
      rw [show failC 0 fa 0 a = (0, fa) by simp [failC]]
      have Hb := Lib.hid hb
      go_enter Tryd.func41, Tryd.ntmps41
      go_wp2
      go_end0
      exact ⟨rfl, hb, Below.refl _ _⟩
    · rw [show failC 0 fa e a = (e, a) by simp [failC, h2]]
      have e2 : (e != 0) = true := by simp [h2]
      clear h2
      go_enter Tryd.func41, Tryd.ntmps41
      go_wp2
      go_end0
      exact ⟨rfl, (by (apply blk_to; (focus (repeat (first | (with_reducible assumption) | (with_reducible apply blk_drew) | (with_reducible apply blk_set) | ((with_reducible apply blk_other'); (first | (focus (dsimp only; assumption)) | (focus (simp; done)) | (focus (dsimp only; omega)))) | ((with_reducible apply blk_alloc_new); (first | (with_reducible rfl) | (focus (simp; done)) | (focus (simp; omega)))) | (with_reducible apply blk_alloc) | ((with_reducible apply blk_below); (with_reducible assumption))))); rfl)), (by (repeat (first | (with_reducible assumption) | (with_reducible exact Below.refl _ _) | (with_reducible refine beld_drew ?_) | ((with_reducible refine bset' ?_ ?_); (first | (focus (dsimp only; assumption)) | (focus (simp; done)) | (focus (dsimp only; omega)))) | (with_reducible refine belt_alloc ?_) | ((with_reducible refine zeroed_below' ?_ ?_); (first | (focus (simp; done)) | (focus (dsimp only; omega)))) | (with_reducible refine bt ?_ (by assumption)))))⟩
  · rw [show failC er fa e a = (er, fa) by simp [failC, h1]]
    have e1 : (er == 0) = false := by simp [h1]
    clear h1
    go_enter Tryd.func41, Tryd.ntmps41
    go_wp2
    go_end0
    exact ⟨rfl, hb, Below.refl _ _⟩
theorem failC_eq (fa e a : Int) : failC 0 fa e a = (e, if e ≠ 0 then a else fa) := by
  unfold failC
  by_cases h : e = 0
  · simp [h]
  · simp [h]
theorem rdI_go (l : List UInt8) (m p fa n nx e : Int) (h : intN l p m = (n, nx, e)) : rdI l m ⟨p, 0, fa⟩ = (n, ⟨nx, e, if e ≠ 0 then nx else fa⟩) := by
  unfold rdI; rw [h]; simp
set_option maxRecDepth 100000 in
set_option maxHeartbeats 1600000 in
theorem int_any (b : Nat) (s : ByteArray) (p er fa no sq of de pr bo li to : Int) (da : ByteArray) (fu : Bool) (m : Int) (hs : s.size ≤ maxLen) (hp1 : -9223372036854775808 ≤ p) (hp2 : p ≤ 9223372036854775807) (hm2 : m ≤ 9223372036854775807) (w : World) (hb : blk w b = some (formC s p er fa no sq of de pr bo li to da fu)) :
    Calls Tryd.prog 60 #[.pointer (some ⟨b, 0, none⟩), .int .i64 m] w fun q w' => q = .returned (.int .i64 (rdI s.data.toList m ⟨p, er, fa⟩).1) ∧
      blk w' b = some (formC s (rdI s.data.toList m ⟨p, er, fa⟩).2.pos (rdI s.data.toList m ⟨p, er, fa⟩).2.err (rdI s.data.toList m ⟨p, er, fa⟩).2.fat no sq of de pr bo li to da fu) ∧ Below b w w' := by
  have knb := kn hb
  by_cases h1 : er = 0
  · subst h1
    have cg := fun w => numInt_any s p m w hs hp1 hp2 hm2
    obtain ⟨⟨n, nx, e⟩, hg⟩ : ∃ r, intN s.data.toList p m = r := ⟨_, rfl⟩
    rw [hg] at cg
    have cg : ∀ w, Calls Tryd.prog 70 #[.string s, .int .i64 p, .int .i64 m] w fun e' w' => e' = .returned (.tuple #[.int .i64 n, .int .i64 nx, .int .i64 e]) ∧ Below w.heap.size w w' := cg
    replace cg := Lib.hid cg
    rw [rdI_go s.data.toList m p fa n nx e hg, ← show (failC 0 fa e nx).2 = (if e ≠ 0 then nx else fa) by rw [failC_eq]]
    have hf1 : (failC 0 fa e nx).1 = e := by rw [failC_eq]
    have gf := Lib.hid fun w h => fail_any b s p 0 fa no sq of de pr bo li to da fu e nx w h
    obtain ⟨f1, f2, hff⟩ : ∃ f1 f2, failC 0 fa e nx = (f1, f2) := ⟨_, _, rfl⟩
    rw [hff] at gf hf1 ⊢
    simp only at hf1 gf ⊢
    subst hf1
    have hlt := blk_lt hb
    clear hff hg
    go_enter Tryd.func60, Tryd.ntmps60
    go_wp2
    refine wp_region_in (by kernel_rfl) (by kernel_rfl) ?_
    intro W0_1 hE_1 hN_1
    have bW0_1 : Below w.heap.size w W0_1 := (by rw [hE_1.out]; (repeat (first | (with_reducible assumption) | (with_reducible exact Below.refl _ _) | (with_reducible refine beld_drew ?_) | ((with_reducible refine bset' ?_ ?_); (first | (focus (dsimp only; assumption)) | (focus (simp; done)) | (focus (dsimp only; omega)))) | (with_reducible refine belt_alloc ?_) | ((with_reducible refine zeroed_below' ?_ ?_); (first | (focus (simp; done)) | (focus (dsimp only; omega)))) | (with_reducible refine bt ?_ (by assumption)))))
    have kk2 : blk W0_1 (b) = some #[.string s, .int .i64 p, .int .i64 0, .int .i64 fa, .int .i64 no, .int .u64 sq, .int .i64 of, .int .i64 de, .int .i64 pr, .int .i64 bo, .int .i64 li, .int .i64 to, .string da, .bool fu] := (by rw [hE_1.out]; (apply blk_to; (focus (repeat (first | (with_reducible assumption) | (with_reducible apply blk_drew) | (with_reducible apply blk_set) | ((with_reducible apply blk_other'); (first | (focus (dsimp only; assumption)) | (focus (simp; done)) | (focus (dsimp only; omega)))) | ((with_reducible apply blk_alloc_new); (first | (with_reducible rfl) | (focus (simp; done)) | (focus (simp; omega)))) | (with_reducible apply blk_alloc) | ((with_reducible apply blk_below); (with_reducible assumption))))); rfl))
    have kn2 := calm_kn kk2
    clear hE_1
    repeat (go_big_quiet_step ((go_at_call 70; (with_reducible refine Class.go _ (cg.out _)))))
    refine wpQuiet_nil ?_
    rintro _ ⟨x_1, rfl⟩
    have hx_1 : Calm W0_1 x_1.wd := x_1.ok
    have bw2 : Below w.heap.size w x_1.wd := bt bW0_1 hx_1
    clear kn2; replace kk2 := blk_below hx_1 kk2; have kn2 := kn kk2
    clear hx_1 bW0_1 hN_1
    generalize x_1.wd = w2 at *
    have sw2 := bw2.size
    go_wp2_with (go_at_call 41; (with_reducible refine (gf.out _ (by assumption)).mono ?_); rintro q wf ⟨rfl, hbf, hf⟩; have knf := kn hbf)
    go_ret
    exact ⟨rfl, (by (apply blk_to; (focus (repeat (first | (with_reducible assumption) | (with_reducible apply blk_drew) | (with_reducible apply blk_set) | ((with_reducible apply blk_other'); (first | (focus (dsimp only; assumption)) | (focus (simp; done)) | (focus (dsimp only; omega)))) | ((with_reducible apply blk_alloc_new); (first | (with_reducible rfl) | (focus (simp; done)) | (focus (simp; omega)))) | (with_reducible apply blk_alloc) | ((with_reducible apply blk_below); (with_reducible assumption))))); rfl)), ((bw2.mono (Nat.le_of_lt hlt)).trans hf).setCell (p := ⟨b, 1, none⟩) (Nat.le_refl _) _⟩
  · rw [rdI_fault s.data.toList m ⟨p, er, fa⟩ h1]
    have e1 : (er != 0) = true := by simp [h1]
    clear h1
    go_enter Tryd.func60, Tryd.ntmps60
    go_wp2
    go_ret
    exact ⟨rfl, hb, Below.refl _ _⟩
/-- A text by the reader. -/
def rdT (l : List UInt8) (m : Int) (r : Rs) : List UInt8 × Rs :=
  if r.err ≠ 0 then ([], r) else ((getTextN l r.pos m).1, ⟨(getTextN l r.pos m).2.1, (getTextN l r.pos m).2.2, if (getTextN l r.pos m).2.2 ≠ 0 then (getTextN l r.pos m).2.1 else r.fat⟩)
theorem rdT_go (l : List UInt8) (m p fa nx e : Int) (n : List UInt8) (h : getTextN l p m = (n, nx, e)) : rdT l m ⟨p, 0, fa⟩ = (n, ⟨nx, e, if e ≠ 0 then nx else fa⟩) := by
  unfold rdT; rw [h]; simp
theorem rdT_fault (l : List UInt8) (m : Int) (r : Rs) (h : r.err ≠ 0) : rdT l m r = ([], r) := by unfold rdT; rw [if_pos h]
set_option maxRecDepth 100000 in
set_option maxHeartbeats 1600000 in
theorem text_read (b : Nat) (s : ByteArray) (p er fa no sq of de pr bo li to : Int) (da : ByteArray) (fu : Bool) (m : Int) (hs : s.size ≤ maxLen) (hp1 : -9223372036854775808 ≤ p) (hp2 : p ≤ 9223372036854775807) (hm2 : m ≤ 9223372036854775807) (w : World) (hb : blk w b = some (formC s p er fa no sq of de pr bo li to da fu)) :
    Calls Tryd.prog 40 #[.pointer (some ⟨b, 0, none⟩), .int .i64 m] w fun q w' => q = .returned (bstr (rdT s.data.toList m ⟨p, er, fa⟩).1) ∧
      blk w' b = some (formC s (rdT s.data.toList m ⟨p, er, fa⟩).2.pos (rdT s.data.toList m ⟨p, er, fa⟩).2.err (rdT s.data.toList m ⟨p, er, fa⟩).2.fat no sq of de pr bo li to da fu) ∧ Below b w w' := by
  have knb := kn hb
  by_cases h1 : er = 0
  · subst h1
    have cg := fun w => numGetText_any s p m w hs hp1 hp2 hm2
    obtain ⟨⟨n, nx, e⟩, hg⟩ : ∃ r, getTextN s.data.toList p m = r := ⟨_, rfl⟩
    rw [hg] at cg
    have cg : ∀ w, Calls Tryd.prog 61 #[.string s, .int .i64 p, .int .i64 m] w fun e' w' => e' = .returned (.tuple #[bstr n, .int .i64 nx, .int .i64 e]) ∧ Below w.heap.size w w' := cg
    obtain ⟨nn, hnn⟩ : ∃ v : ByteArray, bstr n = .string v := ⟨_, rfl⟩
    rw [hnn] at cg
    replace cg := Lib.hid cg
    rw [rdT_go s.data.toList m p fa nx e n hg, ← show (failC 0 fa e nx).2 = (if e ≠ 0 then nx else fa) by rw [failC_eq]]
    have hf1 : (failC 0 fa e nx).1 = e := by rw [failC_eq]
    have gf := Lib.hid fun w h => fail_any b s p 0 fa no sq of de pr bo li to da fu e nx w h
    obtain ⟨f1, f2, hff⟩ : ∃ f1 f2, failC 0 fa e nx = (f1, f2) := ⟨_, _, rfl⟩
    rw [hff] at gf hf1 ⊢
    simp only at hf1 gf ⊢
    rw [hnn]
    subst hf1
    have hlt := blk_lt hb
    clear hff hg hnn
    go_enter Tryd.func40, Tryd.ntmps40
    go_wp2
    refine wp_region_in (by kernel_rfl) (by kernel_rfl) ?_
    intro W0_3 hE_3 hN_3
    have bW0_3 : Below w.heap.size w W0_3 := (by rw [hE_3.out]; (repeat (first | (with_reducible assumption) | (with_reducible exact Below.refl _ _) | (with_reducible refine beld_drew ?_) | ((with_reducible refine bset' ?_ ?_); (first | (focus (dsimp only; assumption)) | (focus (simp; done)) | (focus (dsimp only; omega)))) | (with_reducible refine belt_alloc ?_) | ((with_reducible refine zeroed_below' ?_ ?_); (first | (focus (simp; done)) | (focus (dsimp only; omega)))) | (with_reducible refine bt ?_ (by assumption)))))
    have kk4 : blk W0_3 (b) = some #[.string s, .int .i64 p, .int .i64 0, .int .i64 fa, .int .i64 no, .int .u64 sq, .int .i64 of, .int .i64 de, .int .i64 pr, .int .i64 bo, .int .i64 li, .int .i64 to, .string da, .bool fu] := (by rw [hE_3.out]; (apply blk_to; (focus (repeat (first | (with_reducible assumption) | (with_reducible apply blk_drew) | (with_reducible apply blk_set) | ((with_reducible apply blk_other'); (first | (focus (dsimp only; assumption)) | (focus (simp; done)) | (focus (dsimp only; omega)))) | ((with_reducible apply blk_alloc_new); (first | (with_reducible rfl) | (focus (simp; done)) | (focus (simp; omega)))) | (with_reducible apply blk_alloc) | ((with_reducible apply blk_below); (with_reducible assumption))))); rfl))
    have kn4 := calm_kn kk4
    clear hE_3
    repeat (go_big_quiet_step ((go_at_call 61; (with_reducible refine Class.go _ (cg.out _)))))
    refine wpQuiet_nil ?_
    rintro _ ⟨x_3, rfl⟩
    have hx_3 : Calm W0_3 x_3.wd := x_3.ok
    have bw2 : Below w.heap.size w x_3.wd := bt bW0_3 hx_3
    clear kn4; replace kk4 := blk_below hx_3 kk4; have kn4 := kn kk4
    clear hx_3 bW0_3 hN_3
    generalize x_3.wd = w2 at *
    have sw2 := bw2.size
    go_wp2_with (go_at_call 41; (with_reducible refine (gf.out _ (by assumption)).mono ?_); rintro q wf ⟨rfl, hbf, hf⟩; have knf := kn hbf)
    go_ret
    exact ⟨rfl, (by (apply blk_to; (focus (repeat (first | (with_reducible assumption) | (with_reducible apply blk_drew) | (with_reducible apply blk_set) | ((with_reducible apply blk_other'); (first | (focus (dsimp only; assumption)) | (focus (simp; done)) | (focus (dsimp only; omega)))) | ((with_reducible apply blk_alloc_new); (first | (with_reducible rfl) | (focus (simp; done)) | (focus (simp; omega)))) | (with_reducible apply blk_alloc) | ((with_reducible apply blk_below); (with_reducible assumption))))); rfl)), ((bw2.mono (Nat.le_of_lt hlt)).trans hf).setCell (p := ⟨b, 1, none⟩) (Nat.le_refl _) _⟩
  · rw [rdT_fault s.data.toList m ⟨p, er, fa⟩ h1]
    have e1 : (er != 0) = true := by simp [h1]
    clear h1
    go_enter Tryd.func40, Tryd.ntmps40
    go_wp2
    go_ret
    exact ⟨rfl, hb, Below.refl _ _⟩
end Go.Proofs.YtiphddlakbbfiaaDoor
