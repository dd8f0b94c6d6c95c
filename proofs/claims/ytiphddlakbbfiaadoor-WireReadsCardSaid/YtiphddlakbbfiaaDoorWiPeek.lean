/- Start and fields together; Peek of the program. -/
import Derived.Test.YtiphddlakbbfiaaDoorWiStart
import Derived.Deep.RegionHeld3
namespace Go.Proofs.YtiphddlakbbfiaaDoor
set_option linter.unusedVariables false
open Go.RowKit

theorem start_any (b : Nat) (s : ByteArray) (hs2 : s.size ≤ maxLen) (w : World) (hH : HTab w) (hb : blk w b = some (formC s 0 0 0 0 0 0 0 0 0 0 0 ⟨#[]⟩ false)) :
    Calls Tryd.prog 38 #[.pointer (some ⟨b, 0, none⟩)] w fun q w' => q = .returned (.tuple #[]) ∧
      blk w' b = some (formC s (startR s.data.toList).2.2.pos (startR s.data.toList).2.2.err (startR s.data.toList).2.2.fat 0 0 0 0 (startR s.data.toList).1 0 0 0 ⟨#[]⟩ (startR s.data.toList).2.1) ∧ Below b w w' := by
  by_cases h : s.size = 0
  · have h1 : s.data.toList = [] := by rw [← List.length_eq_zero_iff]; simpa using h
    rw [h1]
    exact start_none b s 0 0 0 0 0 0 0 0 ⟨#[]⟩ false h w hb
  · have h0 : 0 < s.size := by omega
    have h1 : s.data.toList = s[0] :: s.data.toList.drop 1 := by simpa using drop_at s 0 h0
    refine (start_some b s 0 0 0 0 0 0 0 0 ⟨#[]⟩ false h0 hs2 w hH hb).mono fun q w' ⟨e1, e2, e3⟩ => ⟨e1, ?_, e3⟩
    rw [e2, h1, startR]
    split <;> rfl
theorem fieldsR_full (l : List UInt8) (r : Rs) : (fieldsR l true r).of = 0 ∧ (fieldsR l true r).to = 0 := ⟨rfl, rfl⟩
theorem fields_any (b : Nat) (s : ByteArray) (p er fa pr : Int) (fu : Bool) (hs : s.size ≤ maxLen) (hp1 : 0 ≤ p) (hp2 : p ≤ s.size) (X : Fl) (hX : fieldsR s.data.toList fu ⟨p, er, fa⟩ = X) (w : World) (hb : blk w b = some (formC s p er fa 0 0 0 0 pr 0 0 0 ⟨#[]⟩ fu)) :
    Calls Tryd.prog 39 #[.pointer (some ⟨b, 0, none⟩)] w fun q w' => q = .returned (.tuple #[]) ∧ blk w' b = some (formC s X.r.pos X.r.err X.r.fat X.no X.sq X.of X.de pr X.bo X.li X.to ⟨#[]⟩ fu) ∧ Below b w w' := by
  cases fu
  · exact fields_part b s p er fa 0 0 0 0 pr 0 0 0 ⟨#[]⟩ hs hp1 hp2 X hX w hb
  · refine (fields_full b s p er fa 0 0 0 0 pr 0 0 0 ⟨#[]⟩ hs hp1 hp2 X hX w hb).mono fun q w' ⟨e1, e2, e3⟩ => ⟨e1, ?_, e3⟩
    have := fieldsR_full s.data.toList ⟨p, er, fa⟩
    rw [hX] at this
    rw [e2, this.1, this.2]
theorem startR_pos (l : List UInt8) : 0 ≤ (startR l).2.2.pos ∧ (startR l).2.2.pos ≤ l.length := by
  match l with
  | [] => simp [startR]
  | b :: r => rw [startR]; split <;> simp <;> omega
/-- What Peek gives. -/
def peekC (l : List UInt8) : Int × Int × Int × Int × Int × Int :=
  let X := fieldsR l (startR l).2.1 (startR l).2.2
  if X.r.err = 0 then (X.no, X.sq, X.of, X.de, 0, 0) else (0, 0, 0, 0, X.r.err, X.r.fat)
theorem kept_blk {w w' : World} {B b : Nat} {c : Array Value} (hB : Below B w w') (hb : b < B) (h : blk w b = some c) : blk w' b = some c := (blk_kept (hB.block b hb)).trans h
/-- Two results in blocks. -/
theorem ret_blk2 {P : Program} {fn : Func} {R : Ending → World → Prop} {a : Act} {W : World} {b d : Nat} {c c' : Array Value} {v : Value} (hb : blk W b = some c) (hd : blk W d = some c')
    (hres : ∀ W' : World, (∀ i, W'.cell? ⟨b, i, none⟩ = c[i]?) → (∀ i, W'.cell? ⟨d, i, none⟩ = c'[i]?) → (results fn a.tmps).run P W' = .ok v W') (hdf : a.defers = []) (hR : R (.returned v) W) : bodyPost P fn R .ret a W :=
  bodyPost_ret (v := v) (hres W (fun i => blk_cell hb i) (fun i => blk_cell hd i)) hdf hR
set_option maxRecDepth 100000 in
set_option maxHeartbeats 1600000 in
theorem peek_any (s : ByteArray) (hs : s.size ≤ maxLen) (w : World) (hH : HTab w) :
    Calls Tryd.prog 19 #[.string s] w fun e w' => e = .returned (.tuple #[.agg #[.int .i64 (peekC s.data.toList).1, .int .u64 (peekC s.data.toList).2.1, .int .i64 (peekC s.data.toList).2.2.1], .int .i64 (peekC s.data.toList).2.2.2.1, .agg #[.int .i64 (peekC s.data.toList).2.2.2.2.1, .int .i64 (peekC s.data.toList).2.2.2.2.2]]) ∧ Below w.heap.size w w' := by
  have cs := Lib.hid fun b w h hb => start_any b s hs w h hb
  have hp := startR_pos s.data.toList
  rw [show s.data.toList.length = s.size by simp] at hp
  obtain ⟨pk, hpk⟩ : ∃ pk, peekC s.data.toList = pk := ⟨_, rfl⟩
  rw [hpk]
  unfold peekC at hpk
  obtain ⟨⟨pr, fu, ⟨p, er, fa⟩⟩, hst⟩ : ∃ x, startR s.data.toList = x := ⟨_, rfl⟩
  rw [hst] at cs hp hpk
  obtain ⟨X, hX⟩ : ∃ X, fieldsR s.data.toList fu ⟨p, er, fa⟩ = X := ⟨_, rfl⟩
  simp only [hX] at cs hp hpk
  have cf := Lib.hid fun b w hb => fields_any b s p er fa pr fu hs hp.1 hp.2 X hX w hb
  clear hX hst hp
  obtain ⟨no, sq, of, de, bo, li, to, ⟨q, er', fa'⟩⟩ := X
  simp only at cf hpk
  have HT := Lib.hid hH; clear hH
  by_cases he : er' = 0
  · subst he
    rw [if_pos rfl] at hpk
    subst hpk
    simp only
    go_enter Tryd.func19, Tryd.ntmps19
    go_wp2_with fail
    (with_reducible refine (cs.out _ _ ?_ ?_).mono ?_)
    · exact HT.out.on (by (repeat (first | (with_reducible assumption) | (with_reducible exact Below.refl _ _) | (with_reducible refine beld_drew ?_) | ((with_reducible refine bset' ?_ ?_); (first | (focus (dsimp only; assumption)) | (focus (simp; done)) | (focus (dsimp only; omega)))) | (with_reducible refine belt_alloc ?_) | ((with_reducible refine zeroed_below' ?_ ?_); (first | (focus (simp; done)) | (focus (dsimp only; omega)))) | (with_reducible refine bt ?_ (by assumption)))))
    · exact blk_alloc_new _ _ _ (by simp)
    rintro e w1 ⟨rfl, k1, b1⟩
    have x1 : blk w1 w.heap.size = some #[.int .i64 0, .int .u64 0, .int .i64 0] := kept_blk b1 (by first | omega | (simp; omega) | simp) (by (apply blk_to; (focus (repeat (first | (with_reducible assumption) | (with_reducible apply blk_set) | ((with_reducible apply blk_other'); (first | (focus (dsimp only; assumption)) | (focus (simp; done)) | (focus (dsimp only; omega)))) | ((with_reducible apply blk_alloc_new); (first | (with_reducible rfl) | (focus (simp; done)) | (focus (simp; omega)))) | (with_reducible apply blk_alloc) | ((with_reducible apply blk_below); (with_reducible assumption))))); rfl))
    have y1 : blk w1 (w.heap.size + 1) = some #[.int .i64 0, .int .i64 0] := kept_blk b1 (by first | omega | (simp; omega) | simp) (by (apply blk_to; (focus (repeat (first | (with_reducible assumption) | (with_reducible apply blk_set) | ((with_reducible apply blk_other'); (first | (focus (dsimp only; assumption)) | (focus (simp; done)) | (focus (dsimp only; omega)))) | ((with_reducible apply blk_alloc_new); (first | (with_reducible rfl) | (focus (simp; done)) | (focus (simp; omega)))) | (with_reducible apply blk_alloc) | ((with_reducible apply blk_below); (with_reducible assumption))))); rfl))
    have B1 : Below w.heap.size w w1 := ((((Below.refl w.heap.size w).alloc (Nat.le_refl _) _).alloc (by simp) _).alloc (by simp; omega) _).trans (b1.mono (by omega))
    clear b1
    have kn1 := kn k1
    go_wp2_with fail
    (with_reducible refine (cf.out _ _ k1).mono ?_)
    rintro e w2 ⟨rfl, k2, b2⟩
    have x2 := kept_blk b2 (by omega) x1
    have y2 := kept_blk b2 (by omega) y1
    have B2 : Below w.heap.size w w2 := B1.trans (b2.mono (by omega))
    clear b2 x1 y1 B1 kn1 k1
    have kn2 := kn k2
    have knx := kn x2
    have kny := kn y2
    go_wp2
    go_region_held3 (fun W => ∀ o, W.cell? ⟨w.heap.size + 1 + 1, o, none⟩ = (formC s q 0 fa' no sq of de pr bo li to ⟨#[]⟩ fu)[o]?) (exact fun o => blk_cell (by (apply blk_to; (focus (repeat (first | (with_reducible assumption) | (with_reducible apply blk_drew) | (with_reducible apply blk_set) | ((with_reducible apply blk_other'); (first | (focus (dsimp only; assumption)) | (focus (simp; done)) | (focus (dsimp only; omega)))) | ((with_reducible apply blk_alloc_new); (first | (with_reducible rfl) | (focus (simp; done)) | (focus (simp; omega)))) | (with_reducible apply blk_alloc) | ((with_reducible apply blk_below); (with_reducible assumption))))); rfl)) o) (fail)
    all_goals
      go_wp2
      refine ret_blk2 (b := w.heap.size) (d := w.heap.size + 1) (c := #[.int .i64 no, .int .u64 sq, .int .i64 of]) (c' := #[.int .i64 0, .int .i64 0]) (v := .tuple #[.agg #[.int .i64 no, .int .u64 sq, .int .i64 of], .int .i64 de, .agg #[.int .i64 0, .int .i64 0]]) (by (apply blk_to; (focus (repeat (first | (with_reducible assumption) | (with_reducible apply blk_drew) | (with_reducible apply blk_set) | ((with_reducible apply blk_other'); (first | (focus (dsimp only; assumption)) | (focus (simp; done)) | (focus (dsimp only; omega)))) | ((with_reducible apply blk_alloc_new); (first | (with_reducible rfl) | (focus (simp; done)) | (focus (simp; omega)))) | (with_reducible apply blk_alloc) | ((with_reducible apply blk_below); (with_reducible assumption))))); rfl)) (by (apply blk_to; (focus (repeat (first | (with_reducible assumption) | (with_reducible apply blk_drew) | (with_reducible apply blk_set) | ((with_reducible apply blk_other'); (first | (focus (dsimp only; assumption)) | (focus (simp; done)) | (focus (dsimp only; omega)))) | ((with_reducible apply blk_alloc_new); (first | (with_reducible rfl) | (focus (simp; done)) | (focus (simp; omega)))) | (with_reducible apply blk_alloc) | ((with_reducible apply blk_below); (with_reducible assumption))))); rfl)) (fun W' e1 e2 => by simp [results, Tryd.results19, go_sem, e1, e2]) rfl ⟨rfl, by (repeat (first | (with_reducible assumption) | (with_reducible exact Below.refl _ _) | (with_reducible refine beld_drew ?_) | ((with_reducible refine bset' ?_ ?_); (first | (focus (dsimp only; assumption)) | (focus (simp; done)) | (focus (dsimp only; omega)))) | (with_reducible refine belt_alloc ?_) | ((with_reducible refine zeroed_below' ?_ ?_); (first | (focus (simp; done)) | (focus (dsimp only; omega)))) | (with_reducible refine bt ?_ (by assumption))))⟩
  · rw [if_neg he] at hpk
    have e1' : (er' != 0) = true := by simp [he]
    clear he
    subst hpk
    simp only
    go_enter Tryd.func19, Tryd.ntmps19
    go_wp2_with fail
    (with_reducible refine (cs.out _ _ ?_ ?_).mono ?_)
    · exact HT.out.on (by (repeat (first | (with_reducible assumption) | (with_reducible exact Below.refl _ _) | (with_reducible refine beld_drew ?_) | ((with_reducible refine bset' ?_ ?_); (first | (focus (dsimp only; assumption)) | (focus (simp; done)) | (focus (dsimp only; omega)))) | (with_reducible refine belt_alloc ?_) | ((with_reducible refine zeroed_below' ?_ ?_); (first | (focus (simp; done)) | (focus (dsimp only; omega)))) | (with_reducible refine bt ?_ (by assumption)))))
    · exact blk_alloc_new _ _ _ (by simp)
    rintro e w1 ⟨rfl, k1, b1⟩
    have x1 : blk w1 w.heap.size = some #[.int .i64 0, .int .u64 0, .int .i64 0] := kept_blk b1 (by first | omega | (simp; omega) | simp) (by (apply blk_to; (focus (repeat (first | (with_reducible assumption) | (with_reducible apply blk_set) | ((with_reducible apply blk_other'); (first | (focus (dsimp only; assumption)) | (focus (simp; done)) | (focus (dsimp only; omega)))) | ((with_reducible apply blk_alloc_new); (first | (with_reducible rfl) | (focus (simp; done)) | (focus (simp; omega)))) | (with_reducible apply blk_alloc) | ((with_reducible apply blk_below); (with_reducible assumption))))); rfl))
    have y1 : blk w1 (w.heap.size + 1) = some #[.int .i64 0, .int .i64 0] := kept_blk b1 (by first | omega | (simp; omega) | simp) (by (apply blk_to; (focus (repeat (first | (with_reducible assumption) | (with_reducible apply blk_set) | ((with_reducible apply blk_other'); (first | (focus (dsimp only; assumption)) | (focus (simp; done)) | (focus (dsimp only; omega)))) | ((with_reducible apply blk_alloc_new); (first | (with_reducible rfl) | (focus (simp; done)) | (focus (simp; omega)))) | (with_reducible apply blk_alloc) | ((with_reducible apply blk_below); (with_reducible assumption))))); rfl))
    have B1 : Below w.heap.size w w1 := ((((Below.refl w.heap.size w).alloc (Nat.le_refl _) _).alloc (by simp) _).alloc (by simp; omega) _).trans (b1.mono (by omega))
    clear b1
    have kn1 := kn k1
    go_wp2_with fail
    (with_reducible refine (cf.out _ _ k1).mono ?_)
    rintro e w2 ⟨rfl, k2, b2⟩
    have x2 := kept_blk b2 (by omega) x1
    have y2 := kept_blk b2 (by omega) y1
    have B2 : Below w.heap.size w w2 := B1.trans (b2.mono (by omega))
    clear b2 x1 y1 B1 kn1 k1
    have kn2 := kn k2
    have knx := kn x2
    have kny := kn y2
    go_wp2
    go_region_held3 (fun W => ∀ o, W.cell? ⟨w.heap.size + 1 + 1, o, none⟩ = (formC s q er' fa' no sq of de pr bo li to ⟨#[]⟩ fu)[o]?) (exact fun o => blk_cell (by (apply blk_to; (focus (repeat (first | (with_reducible assumption) | (with_reducible apply blk_drew) | (with_reducible apply blk_set) | ((with_reducible apply blk_other'); (first | (focus (dsimp only; assumption)) | (focus (simp; done)) | (focus (dsimp only; omega)))) | ((with_reducible apply blk_alloc_new); (first | (with_reducible rfl) | (focus (simp; done)) | (focus (simp; omega)))) | (with_reducible apply blk_alloc) | ((with_reducible apply blk_below); (with_reducible assumption))))); rfl)) o) (fail)
    all_goals
      go_wp2
      refine ret_blk2 (b := w.heap.size) (d := w.heap.size + 1) (c := #[.int .i64 0, .int .u64 0, .int .i64 0]) (c' := #[.int .i64 er', .int .i64 fa']) (v := .tuple #[.agg #[.int .i64 0, .int .u64 0, .int .i64 0], .int .i64 0, .agg #[.int .i64 er', .int .i64 fa']]) (by (apply blk_to; (focus (repeat (first | (with_reducible assumption) | (with_reducible apply blk_drew) | (with_reducible apply blk_set) | ((with_reducible apply blk_other'); (first | (focus (dsimp only; assumption)) | (focus (simp; done)) | (focus (dsimp only; omega)))) | ((with_reducible apply blk_alloc_new); (first | (with_reducible rfl) | (focus (simp; done)) | (focus (simp; omega)))) | (with_reducible apply blk_alloc) | ((with_reducible apply blk_below); (with_reducible assumption))))); rfl)) (by (apply blk_to; (focus (repeat (first | (with_reducible assumption) | (with_reducible apply blk_drew) | (with_reducible apply blk_set) | ((with_reducible apply blk_other'); (first | (focus (dsimp only; assumption)) | (focus (simp; done)) | (focus (dsimp only; omega)))) | ((with_reducible apply blk_alloc_new); (first | (with_reducible rfl) | (focus (simp; done)) | (focus (simp; omega)))) | (with_reducible apply blk_alloc) | ((with_reducible apply blk_below); (with_reducible assumption))))); rfl)) (fun W' e1 e2 => by simp [results, Tryd.results19, go_sem, e1, e2]) rfl ⟨rfl, by (repeat (first | (with_reducible assumption) | (with_reducible exact Below.refl _ _) | (with_reducible refine beld_drew ?_) | ((with_reducible refine bset' ?_ ?_); (first | (focus (dsimp only; assumption)) | (focus (simp; done)) | (focus (dsimp only; omega)))) | (with_reducible refine belt_alloc ?_) | ((with_reducible refine zeroed_below' ?_ ?_); (first | (focus (simp; done)) | (focus (dsimp only; omega)))) | (with_reducible refine bt ?_ (by assumption))))⟩
end Go.Proofs.YtiphddlakbbfiaaDoor
