/- The reference's fields, whole; its Peek. -/
import Derived.Test.YtiphddlakbbfiaaDoorWiRefFields
namespace Go.Proofs.YtiphddlakbbfiaaDoor
set_option linter.unusedVariables false
open Go.RowKit

set_option maxRecDepth 100000 in
set_option maxHeartbeats 1600000 in
theorem refFields_bad (b : Nat) (s : ByteArray) (hs0 : 0 < s.size) (hs : s.size ≤ maxLen) (h : hdB s[0].toNat = false) (w : World) (hb : blk w b = some (rdC s 0 0 0)) :
    Calls Tryd.prog 44 #[.pointer (some ⟨b, 0, none⟩)] w fun q w' => q = .returned (.tuple #[buv 0 0 0 0 0 0 0 0 ⟨#[]⟩, .bool false]) ∧ blk w' b = some (rdC s 0 3 0) ∧ Touch b w w' := by
  have knb := kn hb
  have hlt := blk_lt hb
  have z1 : s.toList.isEmpty = false := by
    have h1 : s.data.toList ≠ [] := by rw [← List.length_pos_iff]; simpa using hs0
    rw [ByteArray.toList_eq]; simpa using h1
  have h' : s[0].toNat < 176 ∨ 182 < s[0].toNat ∨ s[0].toNat = 179 := by unfold hdB at h; simp at h; omega
  have hx := s[0].toNat_lt
  unfold maxLen at hs
  obtain ⟨k, hk⟩ : ∃ k : Int, (s[0].toNat : Int) - 176 = k := ⟨_, rfl⟩
  have hk' : k < 0 ∨ 6 < k ∨ k = 3 := by omega
  have hkb : -176 ≤ k ∧ k < 100 := by omega
  clear h h' hx
  rcases hk' with hk' | hk' | rfl
  · go_enter Tryd.func44, Tryd.ntmps44
    go_wp2
    (refine ret_blk1 (b := w.heap.size) (c := #[.int .i64 0, .int .u64 0, .int .i64 0, .int .i64 0, .int .i64 0, .int .i64 0, .int .i64 0, .int .i64 0, .string ⟨#[]⟩]) (v := .tuple #[buv 0 0 0 0 0 0 0 0 ⟨#[]⟩, .bool false]) (by (apply blk_to; (focus (repeat (first | (with_reducible assumption) | (with_reducible apply blk_drew) | (with_reducible apply blk_set) | ((with_reducible apply blk_other'); (first | (focus (dsimp only; assumption)) | (focus (simp; done)) | (focus (dsimp only; omega)))) | ((with_reducible apply blk_alloc_new); (first | (with_reducible rfl) | (focus (simp; done)) | (focus (simp; omega)))) | (with_reducible apply blk_alloc) | ((with_reducible apply blk_below); (with_reducible assumption))))); rfl)) (fun W' e1 => by simp [results, Tryd.results44, go_sem, e1]) rfl ⟨rfl, by (apply blk_to; (focus (repeat (first | (with_reducible assumption) | (with_reducible apply blk_drew) | (with_reducible apply blk_set) | ((with_reducible apply blk_other'); (first | (focus (dsimp only; assumption)) | (focus (simp; done)) | (focus (dsimp only; omega)))) | ((with_reducible apply blk_alloc_new); (first | (with_reducible rfl) | (focus (simp; done)) | (focus (simp; omega)))) | (with_reducible apply blk_alloc) | ((with_reducible apply blk_below); (with_reducible assumption))))); rfl), ?_⟩; (repeat (first | (with_reducible assumption) | (with_reducible exact Touch.refl _ _) | (with_reducible refine Touch.drew ?_) | (with_reducible refine Touch.set ?_) | ((with_reducible refine Touch.setNew' ?_ hlt ?_); (focus (first | exact Nat.le_refl _ | exact Nat.le_succ _ | omega))) | (with_reducible refine Touch.alloc ?_ hlt))))
  · have hk2 : ¬ k < 0 := by omega
    go_enter Tryd.func44, Tryd.ntmps44
    go_wp2
    (refine ret_blk1 (b := w.heap.size) (c := #[.int .i64 0, .int .u64 0, .int .i64 0, .int .i64 0, .int .i64 0, .int .i64 0, .int .i64 0, .int .i64 0, .string ⟨#[]⟩]) (v := .tuple #[buv 0 0 0 0 0 0 0 0 ⟨#[]⟩, .bool false]) (by (apply blk_to; (focus (repeat (first | (with_reducible assumption) | (with_reducible apply blk_drew) | (with_reducible apply blk_set) | ((with_reducible apply blk_other'); (first | (focus (dsimp only; assumption)) | (focus (simp; done)) | (focus (dsimp only; omega)))) | ((with_reducible apply blk_alloc_new); (first | (with_reducible rfl) | (focus (simp; done)) | (focus (simp; omega)))) | (with_reducible apply blk_alloc) | ((with_reducible apply blk_below); (with_reducible assumption))))); rfl)) (fun W' e1 => by simp [results, Tryd.results44, go_sem, e1]) rfl ⟨rfl, by (apply blk_to; (focus (repeat (first | (with_reducible assumption) | (with_reducible apply blk_drew) | (with_reducible apply blk_set) | ((with_reducible apply blk_other'); (first | (focus (dsimp only; assumption)) | (focus (simp; done)) | (focus (dsimp only; omega)))) | ((with_reducible apply blk_alloc_new); (first | (with_reducible rfl) | (focus (simp; done)) | (focus (simp; omega)))) | (with_reducible apply blk_alloc) | ((with_reducible apply blk_below); (with_reducible assumption))))); rfl), ?_⟩; (repeat (first | (with_reducible assumption) | (with_reducible exact Touch.refl _ _) | (with_reducible refine Touch.drew ?_) | (with_reducible refine Touch.set ?_) | ((with_reducible refine Touch.setNew' ?_ hlt ?_); (focus (first | exact Nat.le_refl _ | exact Nat.le_succ _ | omega))) | (with_reducible refine Touch.alloc ?_ hlt))))
  · go_enter Tryd.func44, Tryd.ntmps44
    go_wp2
    (refine ret_blk1 (b := w.heap.size) (c := #[.int .i64 0, .int .u64 0, .int .i64 0, .int .i64 0, .int .i64 0, .int .i64 0, .int .i64 0, .int .i64 0, .string ⟨#[]⟩]) (v := .tuple #[buv 0 0 0 0 0 0 0 0 ⟨#[]⟩, .bool false]) (by (apply blk_to; (focus (repeat (first | (with_reducible assumption) | (with_reducible apply blk_drew) | (with_reducible apply blk_set) | ((with_reducible apply blk_other'); (first | (focus (dsimp only; assumption)) | (focus (simp; done)) | (focus (dsimp only; omega)))) | ((with_reducible apply blk_alloc_new); (first | (with_reducible rfl) | (focus (simp; done)) | (focus (simp; omega)))) | (with_reducible apply blk_alloc) | ((with_reducible apply blk_below); (with_reducible assumption))))); rfl)) (fun W' e1 => by simp [results, Tryd.results44, go_sem, e1]) rfl ⟨rfl, by (apply blk_to; (focus (repeat (first | (with_reducible assumption) | (with_reducible apply blk_drew) | (with_reducible apply blk_set) | ((with_reducible apply blk_other'); (first | (focus (dsimp only; assumption)) | (focus (simp; done)) | (focus (dsimp only; omega)))) | ((with_reducible apply blk_alloc_new); (first | (with_reducible rfl) | (focus (simp; done)) | (focus (simp; omega)))) | (with_reducible apply blk_alloc) | ((with_reducible apply blk_below); (with_reducible assumption))))); rfl), ?_⟩; (repeat (first | (with_reducible assumption) | (with_reducible exact Touch.refl _ _) | (with_reducible refine Touch.drew ?_) | (with_reducible refine Touch.set ?_) | ((with_reducible refine Touch.setNew' ?_ hlt ?_); (focus (first | exact Nat.le_refl _ | exact Nat.le_succ _ | omega))) | (with_reducible refine Touch.alloc ?_ hlt))))
theorem refFields_any (b : Nat) (s : ByteArray) (hs : s.size ≤ maxLen) (pr : Int) (fu : Bool) (r0 : Rs) (hst : startR s.data.toList = (pr, fu, r0)) (X : Fl) (hX : fieldsJ s.data.toList fu r0 = X) (w : World) (hb : blk w b = some (rdC s 0 0 0)) :
    Calls Tryd.prog 44 #[.pointer (some ⟨b, 0, none⟩)] w fun q w' => q = .returned (.tuple #[buv X.no X.sq X.of X.de pr X.bo X.li X.to ⟨#[]⟩, .bool fu]) ∧ (∃ p, blk w' b = some (rdC s p X.r.err X.r.fat) ∧ (X.r.err = 0 → p = X.r.pos)) ∧ Touch b w w' := by
  by_cases h : s.size = 0
  · have h1 : s.data.toList = [] := by rw [← List.length_eq_zero_iff]; simpa using h
    rw [h1] at hst hX
    simp only [startR, Prod.mk.injEq] at hst
    obtain ⟨rfl, rfl, rfl⟩ := hst
    have hX' : X = ⟨0, 0, 0, 0, 0, 0, 0, ⟨0, 11, 0⟩⟩ := by rw [← hX]; rfl
    subst hX'
    exact (refFields_none b s h w hb).mono fun q w' ⟨e1, e2, e3⟩ => ⟨e1, ⟨0, e2, fun _ => rfl⟩, e3⟩
  · have h0 : 0 < s.size := by omega
    have h1 : s.data.toList = s[0] :: s.data.toList.drop 1 := by simpa using drop_at s 0 h0
    rw [h1, startR] at hst
    cases hh : hdB s[0].toNat
    · rw [hh, if_neg (by simp)] at hst
      simp only [Prod.mk.injEq] at hst
      obtain ⟨rfl, rfl, rfl⟩ := hst
      have hX' : X = ⟨0, 0, 0, 0, 0, 0, 0, ⟨0, 3, 0⟩⟩ := by rw [← hX]; rfl
      subst hX'
      exact (refFields_bad b s h0 hs hh w hb).mono fun q w' ⟨e1, e2, e3⟩ => ⟨e1, ⟨0, e2, fun _ => rfl⟩, e3⟩
    · rw [hh, if_pos rfl] at hst
      simp only [Prod.mk.injEq] at hst
      obtain ⟨rfl, hfu, rfl⟩ := hst
      have hh' : 176 ≤ s[0].toNat ∧ s[0].toNat ≤ 182 ∧ s[0].toNat ≠ 179 := by unfold hdB at hh; simpa using hh
      have hk : (s[0].toNat : Int) - 176 = ((s[0].toNat - 176 : Nat) : Int) := by omega
      have hpr : (((s[0].toNat - 176 : Nat) : Int)).tmod 4 = (((s[0].toNat - 176) % 4 : Nat) : Int) := by rw [Int.tmod_eq_emod_of_nonneg (by omega)]; omega
      by_cases h8 : 180 ≤ s[0].toNat
      · obtain rfl : fu = true := by rw [← hfu]; simp [h8]
        exact (refFields_full b s (s[0].toNat - 176) ((s[0].toNat - 176) % 4) h0 hs hk (by omega) (by omega) (by omega) hpr X hX w hb).mono fun q w' ⟨e1, e2, e3⟩ => ⟨e1, ⟨_, e2, fun _ => rfl⟩, e3⟩
      · obtain rfl : fu = false := by rw [← hfu]; simp; omega
        exact (refFields_part b s (s[0].toNat - 176) ((s[0].toNat - 176) % 4) h0 hs hk (by omega) (by omega) (by omega) hpr X hX w hb).mono fun q w' ⟨e1, e2, e3⟩ => ⟨e1, ⟨_, e2, fun _ => rfl⟩, e3⟩
set_option maxRecDepth 100000 in
set_option maxHeartbeats 1600000 in
theorem refPeek_ok (s : ByteArray) (hs : s.size ≤ maxLen) (no sq of de bo li to er' fa' pr : Int) (fu : Bool) (w : World)
    (cf : ∀ b w, blk w b = some (rdC s 0 0 0) → Calls Tryd.prog 44 #[.pointer (some ⟨b, 0, none⟩)] w fun q w' => q = .returned (.tuple #[buv no sq of de pr bo li to ⟨#[]⟩, .bool fu]) ∧ (∃ p, blk w' b = some (rdC s p er' fa') ∧ (er' = 0 → p = p)) ∧ Touch b w w') (he : er' = 0) :
    Calls Tryd.prog 20 #[.string s] w fun e w' => e = .returned (.tuple #[.agg #[.int .i64 no, .int .u64 sq, .int .i64 of], .int .i64 de, .agg #[.int .i64 0, .int .i64 0]]) ∧ Below w.heap.size w w' := by
  subst he
  replace cf := Lib.hid cf
  go_enter Tryd.func20, Tryd.ntmps20
  go_wp2_with fail
  (with_reducible refine (cf.out _ _ ?_).mono ?_)
  · exact blk_alloc_new _ _ _ (by simp)
  rintro e w1 ⟨rfl, ⟨p, k1, _⟩, t1⟩
  have x1 : blk w1 w.heap.size = some #[.int .i64 0, .int .u64 0, .int .i64 0] := t1.2.1 _ _ (by omega) (by (apply blk_to; (focus (repeat (first | (with_reducible assumption) | (with_reducible apply blk_set) | ((with_reducible apply blk_other'); (first | (focus (dsimp only; assumption)) | (focus (simp; done)) | (focus (dsimp only; omega)))) | ((with_reducible apply blk_alloc_new); (first | (with_reducible rfl) | (focus (simp; done)) | (focus (simp; omega)))) | (with_reducible apply blk_alloc) | ((with_reducible apply blk_below); (with_reducible assumption))))); rfl))
  have y1 : blk w1 (w.heap.size + 1) = some #[.int .i64 0, .int .i64 0] := t1.2.1 _ _ (by omega) (by (apply blk_to; (focus (repeat (first | (with_reducible assumption) | (with_reducible apply blk_set) | ((with_reducible apply blk_other'); (first | (focus (dsimp only; assumption)) | (focus (simp; done)) | (focus (dsimp only; omega)))) | ((with_reducible apply blk_alloc_new); (first | (with_reducible rfl) | (focus (simp; done)) | (focus (simp; omega)))) | (with_reducible apply blk_alloc) | ((with_reducible apply blk_below); (with_reducible assumption))))); rfl))
  have B1 : Below w.heap.size w w1 := ((((Below.refl w.heap.size w).alloc (Nat.le_refl _) _).alloc (by simp) _).alloc (by simp; omega) _).trans (t1.1.mono (by omega))
  clear t1
  have kn1 := kn k1; have knx := kn x1; have kny := kn y1
  go_wp2
  go_region_held3 (fun W => (∀ o, W.cell? ⟨w.heap.size + 1 + 1, o, none⟩ = (rdC s p 0 fa')[o]?) ∧ ∀ o, W.cell? ⟨w1.heap.size, o, none⟩ = (#[.int .i64 no, .int .u64 sq, .int .i64 of, .int .i64 de, .int .i64 pr, .int .i64 bo, .int .i64 li, .int .i64 to, .string ⟨#[]⟩] : Array Value)[o]?) (exact ⟨fun o => blk_cell (by (apply blk_to; (focus (repeat (first | (with_reducible assumption) | (with_reducible apply blk_drew) | (with_reducible apply blk_set) | ((with_reducible apply blk_other'); (first | (focus (dsimp only; assumption)) | (focus (simp; done)) | (focus (dsimp only; omega)))) | ((with_reducible apply blk_alloc_new); (first | (with_reducible rfl) | (focus (simp; done)) | (focus (simp; omega)))) | (with_reducible apply blk_alloc) | ((with_reducible apply blk_below); (with_reducible assumption))))); rfl)) o, fun o => blk_cell (by (apply blk_to; (focus (repeat (first | (with_reducible assumption) | (with_reducible apply blk_drew) | (with_reducible apply blk_set) | ((with_reducible apply blk_other'); (first | (focus (dsimp only; assumption)) | (focus (simp; done)) | (focus (dsimp only; omega)))) | ((with_reducible apply blk_alloc_new); (first | (with_reducible rfl) | (focus (simp; done)) | (focus (simp; omega)))) | (with_reducible apply blk_alloc) | ((with_reducible apply blk_below); (with_reducible assumption))))); rfl)) o⟩) (fail)
  all_goals
    go_wp2
    refine ret_blk2 (b := w.heap.size) (d := w.heap.size + 1) (c := #[.int .i64 no, .int .u64 sq, .int .i64 of]) (c' := #[.int .i64 0, .int .i64 0]) (v := .tuple #[.agg #[.int .i64 no, .int .u64 sq, .int .i64 of], .int .i64 de, .agg #[.int .i64 0, .int .i64 0]]) (by (apply blk_to; (focus (repeat (first | (with_reducible assumption) | (with_reducible apply blk_drew) | (with_reducible apply blk_set) | ((with_reducible apply blk_other'); (first | (focus (dsimp only; assumption)) | (focus (simp; done)) | (focus (dsimp only; omega)))) | ((with_reducible apply blk_alloc_new); (first | (with_reducible rfl) | (focus (simp; done)) | (focus (simp; omega)))) | (with_reducible apply blk_alloc) | ((with_reducible apply blk_below); (with_reducible assumption))))); rfl)) (by (apply blk_to; (focus (repeat (first | (with_reducible assumption) | (with_reducible apply blk_drew) | (with_reducible apply blk_set) | ((with_reducible apply blk_other'); (first | (focus (dsimp only; assumption)) | (focus (simp; done)) | (focus (dsimp only; omega)))) | ((with_reducible apply blk_alloc_new); (first | (with_reducible rfl) | (focus (simp; done)) | (focus (simp; omega)))) | (with_reducible apply blk_alloc) | ((with_reducible apply blk_below); (with_reducible assumption))))); rfl)) (fun W' e1 e2 => by simp [results, Tryd.results20, go_sem, e1, e2]) rfl ⟨rfl, by (repeat (first | (with_reducible assumption) | (with_reducible exact Below.refl _ _) | (with_reducible refine beld_drew ?_) | ((with_reducible refine bset' ?_ ?_); (first | (focus (dsimp only; assumption)) | (focus (simp; done)) | (focus (dsimp only; omega)))) | (with_reducible refine belt_alloc ?_) | ((with_reducible refine zeroed_below' ?_ ?_); (first | (focus (simp; done)) | (focus (dsimp only; omega)))) | (with_reducible refine bt ?_ (by assumption))))⟩
set_option maxRecDepth 100000 in
set_option maxHeartbeats 1600000 in
theorem refPeek_err (s : ByteArray) (hs : s.size ≤ maxLen) (no sq of de bo li to er' fa' pr : Int) (fu : Bool) (w : World)
    (cf : ∀ b w, blk w b = some (rdC s 0 0 0) → Calls Tryd.prog 44 #[.pointer (some ⟨b, 0, none⟩)] w fun q w' => q = .returned (.tuple #[buv no sq of de pr bo li to ⟨#[]⟩, .bool fu]) ∧ (∃ p, blk w' b = some (rdC s p er' fa') ∧ (er' = 0 → p = p)) ∧ Touch b w w') (he : er' ≠ 0) :
    Calls Tryd.prog 20 #[.string s] w fun e w' => e = .returned (.tuple #[.agg #[.int .i64 0, .int .u64 0, .int .i64 0], .int .i64 0, .agg #[.int .i64 er', .int .i64 fa']]) ∧ Below w.heap.size w w' := by
  have e1' : (er' != 0) = true := by simp [he]
  clear he
  replace cf := Lib.hid cf
  go_enter Tryd.func20, Tryd.ntmps20
  go_wp2_with fail
  (with_reducible refine (cf.out _ _ ?_).mono ?_)
  · exact blk_alloc_new _ _ _ (by simp)
  rintro e w1 ⟨rfl, ⟨p, k1, _⟩, t1⟩
  have x1 : blk w1 w.heap.size = some #[.int .i64 0, .int .u64 0, .int .i64 0] := t1.2.1 _ _ (by omega) (by (apply blk_to; (focus (repeat (first | (with_reducible assumption) | (with_reducible apply blk_set) | ((with_reducible apply blk_other'); (first | (focus (dsimp only; assumption)) | (focus (simp; done)) | (focus (dsimp only; omega)))) | ((with_reducible apply blk_alloc_new); (first | (with_reducible rfl) | (focus (simp; done)) | (focus (simp; omega)))) | (with_reducible apply blk_alloc) | ((with_reducible apply blk_below); (with_reducible assumption))))); rfl))
  have y1 : blk w1 (w.heap.size + 1) = some #[.int .i64 0, .int .i64 0] := t1.2.1 _ _ (by omega) (by (apply blk_to; (focus (repeat (first | (with_reducible assumption) | (with_reducible apply blk_set) | ((with_reducible apply blk_other'); (first | (focus (dsimp only; assumption)) | (focus (simp; done)) | (focus (dsimp only; omega)))) | ((with_reducible apply blk_alloc_new); (first | (with_reducible rfl) | (focus (simp; done)) | (focus (simp; omega)))) | (with_reducible apply blk_alloc) | ((with_reducible apply blk_below); (with_reducible assumption))))); rfl))
  have B1 : Below w.heap.size w w1 := ((((Below.refl w.heap.size w).alloc (Nat.le_refl _) _).alloc (by simp) _).alloc (by simp; omega) _).trans (t1.1.mono (by omega))
  clear t1
  have kn1 := kn k1; have knx := kn x1; have kny := kn y1
  go_wp2
  go_region_held3 (fun W => (∀ o, W.cell? ⟨w.heap.size + 1 + 1, o, none⟩ = (rdC s p er' fa')[o]?) ∧ ∀ o, W.cell? ⟨w1.heap.size, o, none⟩ = (#[.int .i64 no, .int .u64 sq, .int .i64 of, .int .i64 de, .int .i64 pr, .int .i64 bo, .int .i64 li, .int .i64 to, .string ⟨#[]⟩] : Array Value)[o]?) (exact ⟨fun o => blk_cell (by (apply blk_to; (focus (repeat (first | (with_reducible assumption) | (with_reducible apply blk_drew) | (with_reducible apply blk_set) | ((with_reducible apply blk_other'); (first | (focus (dsimp only; assumption)) | (focus (simp; done)) | (focus (dsimp only; omega)))) | ((with_reducible apply blk_alloc_new); (first | (with_reducible rfl) | (focus (simp; done)) | (focus (simp; omega)))) | (with_reducible apply blk_alloc) | ((with_reducible apply blk_below); (with_reducible assumption))))); rfl)) o, fun o => blk_cell (by (apply blk_to; (focus (repeat (first | (with_reducible assumption) | (with_reducible apply blk_drew) | (with_reducible apply blk_set) | ((with_reducible apply blk_other'); (first | (focus (dsimp only; assumption)) | (focus (simp; done)) | (focus (dsimp only; omega)))) | ((with_reducible apply blk_alloc_new); (first | (with_reducible rfl) | (focus (simp; done)) | (focus (simp; omega)))) | (with_reducible apply blk_alloc) | ((with_reducible apply blk_below); (with_reducible assumption))))); rfl)) o⟩) (fail)
  all_goals
    go_wp2
    refine ret_blk2 (b := w.heap.size) (d := w.heap.size + 1) (c := #[.int .i64 0, .int .u64 0, .int .i64 0]) (c' := #[.int .i64 er', .int .i64 fa']) (v := .tuple #[.agg #[.int .i64 0, .int .u64 0, .int .i64 0], .int .i64 0, .agg #[.int .i64 er', .int .i64 fa']]) (by (apply blk_to; (focus (repeat (first | (with_reducible assumption) | (with_reducible apply blk_drew) | (with_reducible apply blk_set) | ((with_reducible apply blk_other'); (first | (focus (dsimp only; assumption)) | (focus (simp; done)) | (focus (dsimp only; omega)))) | ((with_reducible apply blk_alloc_new); (first | (with_reducible rfl) | (focus (simp; done)) | (focus (simp; omega)))) | (with_reducible apply blk_alloc) | ((with_reducible apply blk_below); (with_reducible assumption))))); rfl)) (by (apply blk_to; (focus (repeat (first | (with_reducible assumption) | (with_reducible apply blk_drew) | (with_reducible apply blk_set) | ((with_reducible apply blk_other'); (first | (focus (dsimp only; assumption)) | (focus (simp; done)) | (focus (dsimp only; omega)))) | ((with_reducible apply blk_alloc_new); (first | (with_reducible rfl) | (focus (simp; done)) | (focus (simp; omega)))) | (with_reducible apply blk_alloc) | ((with_reducible apply blk_below); (with_reducible assumption))))); rfl)) (fun W' e1 e2 => by simp [results, Tryd.results20, go_sem, e1, e2]) rfl ⟨rfl, by (repeat (first | (with_reducible assumption) | (with_reducible exact Below.refl _ _) | (with_reducible refine beld_drew ?_) | ((with_reducible refine bset' ?_ ?_); (first | (focus (dsimp only; assumption)) | (focus (simp; done)) | (focus (dsimp only; omega)))) | (with_reducible refine belt_alloc ?_) | ((with_reducible refine zeroed_below' ?_ ?_); (first | (focus (simp; done)) | (focus (dsimp only; omega)))) | (with_reducible refine bt ?_ (by assumption))))⟩
theorem refPeek_any (s : ByteArray) (hs : s.size ≤ maxLen) (w : World) :
    Calls Tryd.prog 20 #[.string s] w fun e w' => e = .returned (.tuple #[.agg #[.int .i64 (peekC s.data.toList).1, .int .u64 (peekC s.data.toList).2.1, .int .i64 (peekC s.data.toList).2.2.1], .int .i64 (peekC s.data.toList).2.2.2.1, .agg #[.int .i64 (peekC s.data.toList).2.2.2.2.1, .int .i64 (peekC s.data.toList).2.2.2.2.2]]) ∧ Below w.heap.size w w' := by
  obtain ⟨⟨pr, fu, r0⟩, hst⟩ : ∃ x, startR s.data.toList = x := ⟨_, rfl⟩
  obtain ⟨r, hJ, hS⟩ := fields_same s.data.toList fu r0
  obtain ⟨X, hX⟩ : ∃ X, fieldsR s.data.toList fu r0 = X := ⟨_, rfl⟩
  rw [hX] at hJ hS
  have cf := fun b w hb => refFields_any b s hs pr fu r0 hst _ hJ w hb
  unfold peekC
  rw [hst]
  simp only
  rw [hX]
  obtain ⟨no, sq, of, de, bo, li, to, ⟨q, er', fa'⟩⟩ := X
  obtain ⟨q', er2, fa2⟩ := r
  obtain ⟨h1, h2, _⟩ := hS
  simp only at h1 h2 cf ⊢
  subst h1 h2
  have cf' : ∀ b w, blk w b = some (rdC s 0 0 0) → Calls Tryd.prog 44 #[.pointer (some ⟨b, 0, none⟩)] w fun q w' => q = .returned (.tuple #[buv no sq of de pr bo li to ⟨#[]⟩, .bool fu]) ∧ (∃ p, blk w' b = some (rdC s p er' fa') ∧ (er' = 0 → p = p)) ∧ Touch b w w' :=
    fun b w hb => (cf b w hb).mono fun q w' ⟨a1, ⟨p, a2, _⟩, a3⟩ => ⟨a1, ⟨p, a2, fun _ => rfl⟩, a3⟩
  by_cases he : er' = 0
  · rw [if_pos he]
    exact refPeek_ok s hs no sq of de bo li to er' fa' pr fu w cf' he
  · rw [if_neg he]
    exact refPeek_err s hs no sq of de bo li to er' fa' pr fu w cf' he
end Go.Proofs.YtiphddlakbbfiaaDoor
