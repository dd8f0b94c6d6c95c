/- The order of bundles by urgency: ranked.end, ranked.compare, Less, Same, and the reference's order, Compare, sums, Less, Same. -/
import Derived.Test.YtahopnlibmiafaaDoorBuCmp
import Derived.Laws.Externs
import Derived.Laws.Bits64
namespace Go.Proofs.YtahopnlibmiafaaDoor
set_option linter.unusedVariables false
open Go.RowKit

/-- A number is an int. -/
def I64 (x : Int) : Prop := -9223372036854775808 ≤ x ∧ x ≤ 9223372036854775807
theorem i64_of {x : Int} (h : (Lit.int .i64 x).wf = true) : I64 x := by
  simp [Lit.wf, IntKind.min, IntKind.max, IntKind.signed, IntKind.bits] at h
  exact h
def hiP (bo li : Int) : Int := (bo + li) / 18446744073709551616
def loP (bo li : Int) : Int := (bo + li) % 18446744073709551616
/-- The order of two bundles by urgency: below 0 if the first one is before the second one. -/
def ordB (no sq of pr bo li no' sq' of' pr' bo' li' : Int) : Int := orL [cmp3 pr' pr, cmp3 (bo + li) (bo' + li'), cmpI no sq of no' sq' of']
def lessB (no sq of pr bo li no' sq' of' pr' bo' li' : Int) : Bool := decide (ordB no sq of pr bo li no' sq' of' pr' bo' li' < 0)

theorem cmp3_cases (a b : Int) : (cmp3 a b = -1 ∧ a < b) ∨ (cmp3 a b = 0 ∧ a = b) ∨ (cmp3 a b = 1 ∧ b < a) := by
  unfold cmp3
  by_cases h1 : a < b
  · exact .inl ⟨if_pos h1, h1⟩
  · by_cases h2 : b < a
    · exact .inr (.inr ⟨by rw [if_neg h1, if_pos h2], h2⟩)
    · exact .inr (.inl ⟨by rw [if_neg h1, if_neg h2], by omega⟩)
theorem cmp3_eq {a b a' b' : Int} (h1 : a < b ↔ a' < b') (h2 : b < a ↔ b' < a') : cmp3 a b = cmp3 a' b' := by
  unfold cmp3; simp only [h1, h2]
theorem cmp3_parts (S T : Int) (m : Int) (hm : 0 < m) (l : List Int) : orL (cmp3 (S / m) (T / m) :: cmp3 (S % m) (T % m) :: l) = orL (cmp3 S T :: l) := by
  have a1 := Int.emod_add_mul_ediv S m
  have a2 := Int.emod_add_mul_ediv T m
  have b1 := Int.emod_nonneg S (show m ≠ 0 by omega)
  have b2 := Int.emod_nonneg T (show m ≠ 0 by omega)
  have b3 := Int.emod_lt_of_pos S hm
  have b4 := Int.emod_lt_of_pos T hm
  generalize S / m = q at *
  generalize T / m = r at *
  generalize S % m = x at *
  generalize T % m = y at *
  rcases cmp3_cases q r with ⟨h, h'⟩ | ⟨h, h'⟩ | ⟨h, h'⟩
  · have : m * (q + 1) ≤ m * r := Int.mul_le_mul_of_nonneg_left (by omega) (by omega)
    rw [Int.mul_add] at this
    rw [h, show cmp3 S T = -1 by unfold cmp3; rw [if_pos (by omega)]]
    rfl
  · subst h'
    rw [h, show cmp3 S T = cmp3 x y from cmp3_eq (by omega) (by omega)]
    rfl
  · have : m * (r + 1) ≤ m * q := Int.mul_le_mul_of_nonneg_left (by omega) (by omega)
    rw [Int.mul_add] at this
    rw [h, show cmp3 S T = 1 by unfold cmp3; rw [if_neg (by omega), if_pos (by omega)]]
    rfl
theorem ordB_parts (no sq of pr bo li no' sq' of' pr' bo' li' : Int) : orL [cmp3 pr' pr, cmp3 (hiP bo li) (hiP bo' li'), cmp3 (loP bo li) (loP bo' li'), cmpI no sq of no' sq' of'] = ordB no sq of pr bo li no' sq' of' pr' bo' li' := by
  unfold ordB hiP loP
  have := cmp3_parts (bo + li) (bo' + li') 18446744073709551616 (by decide) [cmpI no sq of no' sq' of']
  show (if cmp3 pr' pr ≠ 0 then cmp3 pr' pr else orL _) = (if cmp3 pr' pr ≠ 0 then cmp3 pr' pr else orL _)
  rw [this]

theorem add64_run (x y : Int) (lo ca : Int) (h : (IntKind.u64.wrap x + IntKind.u64.wrap y) % 18446744073709551616 = lo) (h2 : (IntKind.u64.wrap x + IntKind.u64.wrap y) / 18446744073709551616 = ca) (w : World) :
    Sem.run Tryd.prog (callFunc 116 #[.int .u64 (IntKind.u64.wrap x), .int .u64 (IntKind.u64.wrap y), .int .u64 0]) w = .ok (.value (.tuple #[.int .u64 lo, .int .u64 ca])) w := by
  have hw : ∀ n : Int, 0 ≤ IntKind.u64.wrap n := fun n => by rw [IntKind.wrap_u64]; exact Int.emod_nonneg _ (by decide)
  rw [run_callFunc_extern Tryd.func116 (by kernel_rfl) (by kernel_rfl) (by kernel_rfl) (e := add64Entry) (by kernel_rfl), run_add64 _ _ 0 (hw x) (hw y) (by decide) (by decide)]
  rw [← h, ← h2]
  simp only [Int.add_zero, Result.andThen]
theorem end_parts (bo li : Int) (hb : I64 bo) (hl : I64 li) : ∃ lo ca : Int, (IntKind.u64.wrap bo + IntKind.u64.wrap li) % 18446744073709551616 = lo ∧ (IntKind.u64.wrap bo + IntKind.u64.wrap li) / 18446744073709551616 = ca ∧ lo = loP bo li ∧
    wrap64 (wrap64 (bo / 9223372036854775808 + li / 9223372036854775808) + wrap64 ca) = hiP bo li := by
  obtain ⟨h1, h2⟩ := hb
  obtain ⟨h3, h4⟩ := hl
  refine ⟨_, _, rfl, rfl, ?_, ?_⟩
  · unfold loP
    rw [IntKind.wrap_u64, IntKind.wrap_u64]
    omega
  · rw [IntKind.wrap_u64, IntKind.wrap_u64]
    unfold hiP
    have d1 : (bo / 9223372036854775808 = -1 ∧ bo % 18446744073709551616 = bo + 18446744073709551616) ∨ (bo / 9223372036854775808 = 0 ∧ bo % 18446744073709551616 = bo) := by omega
    have d2 : (li / 9223372036854775808 = -1 ∧ li % 18446744073709551616 = li + 18446744073709551616) ∨ (li / 9223372036854775808 = 0 ∧ li % 18446744073709551616 = li) := by omega
    rcases d1 with ⟨a1, a2⟩ | ⟨a1, a2⟩ <;> rcases d2 with ⟨a3, a4⟩ | ⟨a3, a4⟩ <;> rw [a1, a2, a3, a4] <;> unfold wrap64 <;> omega
set_option maxRecDepth 100000 in
theorem end_any (no sq of de pr bo li to : Int) (da : ByteArray) (hb : I64 bo) (hl : I64 li) (w : World) :
    Calls Tryd.prog 95 #[buv no sq of de pr bo li to da] w fun e w' => e = .returned (.tuple #[.int .i64 (hiP bo li), .int .u64 (loP bo li)]) ∧ Below w.heap.size w w' := by
  obtain ⟨lo, ca, e1, e2, e3, e4⟩ := end_parts bo li hb hl
  have ha := add64_run bo li lo ca e1 e2
  rw [← e3, ← e4]
  clear e1 e2 e3 e4 hb hl
  go_enter Tryd.func95, Tryd.ntmps95
  go_wp2
  go_ret2
  exact ⟨rfl, (Below.refl _ _).alloc (Nat.le_refl _) _⟩

theorem or4 (x y z u r : Int) (hr : orL [x, y, z, u] = r) (b cap : Nat) (W : World) (hcap : cap = 4) (hb : blk W b = some #[.int .i64 x, .int .i64 y, .int .i64 z, .int .i64 u]) :
    Calls Tryd.prog 90 #[.slice (some ⟨b, 0, none⟩) 4 cap] W fun e w' => e = .returned (.int .i64 r) ∧ W = w' := by
  subst hcap; rw [← hr]; exact or_any b 4 [x, y, z, u] W (by simp) (by simp) (by simp) hb
set_option maxRecDepth 100000 in
set_option maxHeartbeats 1600000 in
theorem rcompare_any (no sq of de pr bo li to : Int) (da : ByteArray) (no' sq' of' de' pr' bo' li' to' : Int) (da' : ByteArray) (hb : I64 bo) (hl : I64 li) (hb' : I64 bo') (hl' : I64 li') (w : World) :
    Calls Tryd.prog 56 #[buv no sq of de pr bo li to da, buv no' sq' of' de' pr' bo' li' to' da'] w fun e w' => e = .returned (.int .i64 (ordB no sq of pr bo li no' sq' of' pr' bo' li')) ∧ Below w.heap.size w w' := by
  obtain ⟨r, hr⟩ : ∃ r, ordB no sq of pr bo li no' sq' of' pr' bo' li' = r := ⟨_, rfl⟩
  rw [hr]
  rw [← ordB_parts] at hr
  have g4 := Lib.hid (or4 _ _ _ _ r hr); clear hr
  have g1 := Lib.hid fun w => end_any no sq of de pr bo li to da hb hl w
  have g2 := Lib.hid fun w => end_any no' sq' of' de' pr' bo' li' to' da' hb' hl' w
  have g3 := Lib.hid fun w => compare_any no sq of no' sq' of' w
  clear hb hl hb' hl'
  obtain ⟨h1, e1⟩ : ∃ x, hiP bo li = x := ⟨_, rfl⟩
  obtain ⟨l1, e2⟩ : ∃ x, loP bo li = x := ⟨_, rfl⟩
  obtain ⟨h2, e3⟩ : ∃ x, hiP bo' li' = x := ⟨_, rfl⟩
  obtain ⟨l2, e4⟩ : ∃ x, loP bo' li' = x := ⟨_, rfl⟩
  rw [e1, e2] at g1; rw [e3, e4] at g2; rw [e1, e2, e3, e4] at g4
  clear e1 e2 e3 e4
  go_enter Tryd.func56, Tryd.ntmps56
  go_wp2_with (first
    | (go_at_call 95; (with_reducible refine (g1.out _).mono ?_); rintro e w1 ⟨rfl, hw1⟩; have kk4 : blk w1 (w.heap.size) = some #[.int .i64 no, .int .u64 sq, .int .i64 of, .int .i64 de, .int .i64 pr, .int .i64 bo, .int .i64 li, .int .i64 to, .string da] := (by (apply blk_to; (focus (repeat (first | (with_reducible assumption) | (with_reducible apply blk_drew) | (with_reducible apply blk_set) | ((with_reducible apply blk_other'); (first | (focus (dsimp only; assumption)) | (focus (simp; done)) | (focus (dsimp only; omega)))) | ((with_reducible apply blk_alloc_new); (first | (with_reducible rfl) | (focus (simp; done)) | (focus (simp; omega)))) | (with_reducible apply blk_alloc) | ((with_reducible apply blk_below); (with_reducible assumption))))); rfl)); have kn4 := kn kk4; have kk5 : blk w1 (w.heap.size + 1) = some #[.int .i64 no', .int .u64 sq', .int .i64 of', .int .i64 de', .int .i64 pr', .int .i64 bo', .int .i64 li', .int .i64 to', .string da'] := (by (apply blk_to; (focus (repeat (first | (with_reducible assumption) | (with_reducible apply blk_drew) | (with_reducible apply blk_set) | ((with_reducible apply blk_other'); (first | (focus (dsimp only; assumption)) | (focus (simp; done)) | (focus (dsimp only; omega)))) | ((with_reducible apply blk_alloc_new); (first | (with_reducible rfl) | (focus (simp; done)) | (focus (simp; omega)))) | (with_reducible apply blk_alloc) | ((with_reducible apply blk_below); (with_reducible assumption))))); rfl)); have kn5 := kn kk5)
    | (go_at_call 95; (with_reducible refine (g2.out _).mono ?_); rintro e w2 ⟨rfl, hw2⟩; have kk6 : blk w2 (w.heap.size) = some #[.int .i64 no, .int .u64 sq, .int .i64 of, .int .i64 de, .int .i64 pr, .int .i64 bo, .int .i64 li, .int .i64 to, .string da] := (by (apply blk_to; (focus (repeat (first | (with_reducible assumption) | (with_reducible apply blk_drew) | (with_reducible apply blk_set) | ((with_reducible apply blk_other'); (first | (focus (dsimp only; assumption)) | (focus (simp; done)) | (focus (dsimp only; omega)))) | ((with_reducible apply blk_alloc_new); (first | (with_reducible rfl) | (focus (simp; done)) | (focus (simp; omega)))) | (with_reducible apply blk_alloc) | ((with_reducible apply blk_below); (with_reducible assumption))))); rfl)); have kn6 := kn kk6; have kk7 : blk w2 (w.heap.size + 1) = some #[.int .i64 no', .int .u64 sq', .int .i64 of', .int .i64 de', .int .i64 pr', .int .i64 bo', .int .i64 li', .int .i64 to', .string da'] := (by (apply blk_to; (focus (repeat (first | (with_reducible assumption) | (with_reducible apply blk_drew) | (with_reducible apply blk_set) | ((with_reducible apply blk_other'); (first | (focus (dsimp only; assumption)) | (focus (simp; done)) | (focus (dsimp only; omega)))) | ((with_reducible apply blk_alloc_new); (first | (with_reducible rfl) | (focus (simp; done)) | (focus (simp; omega)))) | (with_reducible apply blk_alloc) | ((with_reducible apply blk_below); (with_reducible assumption))))); rfl)); have kn7 := kn kk7))
  refine wp_region_tail 16 (by kernel_rfl) (by kernel_rfl) ?_
  intro W0_1 hE_1 hN_1
  have bW0_1 : Below w.heap.size w W0_1 := (by rw [hE_1.out]; (repeat (first | (with_reducible assumption) | (with_reducible exact Below.refl _ _) | (with_reducible refine beld_drew ?_) | ((with_reducible refine bset' ?_ ?_); (first | (focus (dsimp only; assumption)) | (focus (simp; done)) | (focus (dsimp only; omega)))) | (with_reducible refine belt_alloc ?_) | ((with_reducible refine zeroed_below' ?_ ?_); (first | (focus (simp; done)) | (focus (dsimp only; omega)))) | (with_reducible refine bt ?_ (by assumption)))))
  have kk2 : blk W0_1 (w.heap.size) = some #[.int .i64 no, .int .u64 sq, .int .i64 of, .int .i64 de, .int .i64 pr, .int .i64 bo, .int .i64 li, .int .i64 to, .string da] := (by rw [hE_1.out]; (apply blk_to; (focus (repeat (first | (with_reducible assumption) | (with_reducible apply blk_drew) | (with_reducible apply blk_set) | ((with_reducible apply blk_other'); (first | (focus (dsimp only; assumption)) | (focus (simp; done)) | (focus (dsimp only; omega)))) | ((with_reducible apply blk_alloc_new); (first | (with_reducible rfl) | (focus (simp; done)) | (focus (simp; omega)))) | (with_reducible apply blk_alloc) | ((with_reducible apply blk_below); (with_reducible assumption))))); rfl))
  have kn2 := calm_kn kk2
  have kk3 : blk W0_1 (w.heap.size + 1) = some #[.int .i64 no', .int .u64 sq', .int .i64 of', .int .i64 de', .int .i64 pr', .int .i64 bo', .int .i64 li', .int .i64 to', .string da'] := (by rw [hE_1.out]; (apply blk_to; (focus (repeat (first | (with_reducible assumption) | (with_reducible apply blk_drew) | (with_reducible apply blk_set) | ((with_reducible apply blk_other'); (first | (focus (dsimp only; assumption)) | (focus (simp; done)) | (focus (dsimp only; omega)))) | ((with_reducible apply blk_alloc_new); (first | (with_reducible rfl) | (focus (simp; done)) | (focus (simp; omega)))) | (with_reducible apply blk_alloc) | ((with_reducible apply blk_below); (with_reducible assumption))))); rfl))
  have kn3 := calm_kn kk3
  clear hE_1
  simp only [List.take_succ_cons, List.take_zero, List.drop_succ_cons, List.drop_zero]
  repeat (go_big_quiet_step ((first | (go_at_call 91; exact Class.same _ (cmpInt_any _ _ _)) | (go_at_call 92; exact Class.same _ (cmpNat_any _ _ _)) | (go_at_call 53; (with_reducible refine Class.go _ (g3.out _))))))
  refine wpQuiet_nil ?_
  rintro _ ⟨x_1, rfl⟩
  have hx_1 : Calm W0_1 x_1.wd := x_1.ok
  have bwn : Below w.heap.size w x_1.wd := bt bW0_1 hx_1
  clear kn2; replace kk2 := blk_below hx_1 kk2; have kn2 := kn kk2
  clear kn3; replace kk3 := blk_below hx_1 kk3; have kn3 := kn kk3
  clear hx_1 bW0_1 hN_1
  generalize x_1.wd = wn at *
  go_wp2_with (go_at_call 90; (with_reducible refine (g4.out _ _ _ rfl (blk_alloc_new _ _ _ (by simp))).mono ?_); rintro e wx ⟨rfl, rfl⟩)
  go_ret
  exact ⟨rfl, by (repeat (first | (with_reducible assumption) | (with_reducible exact Below.refl _ _) | (with_reducible refine beld_drew ?_) | ((with_reducible refine bset' ?_ ?_); (first | (focus (dsimp only; assumption)) | (focus (simp; done)) | (focus (dsimp only; omega)))) | (with_reducible refine belt_alloc ?_) | ((with_reducible refine zeroed_below' ?_ ?_); (first | (focus (simp; done)) | (focus (dsimp only; omega)))) | (with_reducible refine bt ?_ (by assumption))))⟩

set_option maxRecDepth 100000 in
set_option maxHeartbeats 800000 in
theorem less_any (no sq of de pr bo li to : Int) (da : ByteArray) (no' sq' of' de' pr' bo' li' to' : Int) (da' : ByteArray) (hb : I64 bo) (hl : I64 li) (hb' : I64 bo') (hl' : I64 li') (w : World) :
    Calls Tryd.prog 18 #[buv no sq of de pr bo li to da, buv no' sq' of' de' pr' bo' li' to' da'] w fun e w' => e = .returned (.bool (lessB no sq of pr bo li no' sq' of' pr' bo' li')) ∧ Below w.heap.size w w' := by
  have g1 := fun w => rcompare_any no sq of de pr bo li to da no' sq' of' de' pr' bo' li' to' da' hb hl hb' hl' w
  unfold lessB
  obtain ⟨r, hr⟩ : ∃ r, ordB no sq of pr bo li no' sq' of' pr' bo' li' = r := ⟨_, rfl⟩
  rw [hr] at g1 ⊢
  clear hr hb hl hb' hl'
  replace g1 := Lib.hid g1
  go_enter Tryd.func18, Tryd.ntmps18
  go_wp2_with (go_at_call 56; (with_reducible refine (g1.out _).mono ?_); rintro e w1 ⟨rfl, hw1⟩)
  go_ret
  exact ⟨rfl, by (repeat (first | (with_reducible assumption) | (with_reducible exact Below.refl _ _) | (with_reducible refine beld_drew ?_) | ((with_reducible refine bset' ?_ ?_); (first | (focus (dsimp only; assumption)) | (focus (simp; done)) | (focus (dsimp only; omega)))) | (with_reducible refine belt_alloc ?_) | ((with_reducible refine zeroed_below' ?_ ?_); (first | (focus (simp; done)) | (focus (dsimp only; omega)))) | (with_reducible refine bt ?_ (by assumption))))⟩
end Go.Proofs.YtahopnlibmiafaaDoor
