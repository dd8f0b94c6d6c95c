/- Parts of a proof, printed by a program of mine out of my texts: SoStab, SoSymBA, SoBigB. -/
import Derived.Test.YtahopnlibmiafaaDoorMSa
import Derived.Test.YtahopnlibmiafaaDoorMSb
import Derived.Test.YtahopnlibmiafaaDoorMU
set_option linter.unusedSimpArgs false
set_option linter.unusedVariables false
namespace Go.Proofs.YtahopnlibmiafaaDoor
open Go.RowKit
set_option maxRecDepth 100000 in
set_option maxHeartbeats 1600000 in
theorem stable_none (v : Value) (w : World) :
    Calls Tryd.prog 94 #[v, .int .i64 0, .func (.func 56) #[] #[]] w fun e w' => e = .returned (.tuple #[]) ∧ w = w' := by
  have g0 : ∀ w, Calls Tryd.prog 114 #[v, .int .i64 0, .int .i64 0, .func (.func 56) #[] #[]] w fun e w' => e = .returned (.tuple #[]) ∧ w = w' := fun w => insert_none v 0 (by omega) w
  replace g0 := Lib.hid g0
  go_enter Tryd.func94, Tryd.ntmps94
  go_wp2
  refine wp_loop_rounds 1 ?_
  rw [rounds_succ]
  go_wp2_with (go_at_call 114; (with_reducible refine (g0.out _).mono ?_); rintro e w1 ⟨rfl, rfl⟩)
  refine wp_loop_rounds 1 ?_
  rw [rounds_succ]
  go_wp2
  go_end0
  exact ⟨rfl, rfl⟩
set_option maxRecDepth 100000 in
set_option maxHeartbeats 1600000 in
theorem stable_any (g cap : Nat) (L : List Bn) (sp : List Value) (h0 : 0 < L.length) (hlen : L.length ≤ 20) (hcap : L.length ≤ cap) (hI : ∀ x ∈ L, BnI x) (w : World) (hbk : blk w g = some (rowC bn L ++ sp).toArray) :
    Calls Tryd.prog 94 #[.slice (some ⟨g, 0, none⟩) L.length cap, .int .i64 L.length, .func (.func 56) #[] #[]] w fun e w' =>
      e = .returned (.tuple #[]) ∧ w.grownBy w' (some g) ∧ blk w' g = some (rowC bn (isort ltB L) ++ sp).toArray := by
  have g1 := insert_any g cap L sp 0 L.length h0 (Nat.le_refl _) (by omega) hcap hI w hbk
  rw [List.take_of_length_le (Nat.le_refl _), List.drop_zero, List.drop_of_length_le (Nat.le_refl _), List.take_zero, List.nil_append, List.append_nil] at g1
  have g1 : Calls Tryd.prog 114 #[.slice (some ⟨g, 0, none⟩) L.length cap, .int .i64 0, .int .i64 L.length, .func (.func 56) #[] #[]] w fun e w' => e = .returned (.tuple #[]) ∧ w.grownBy w' (some g) ∧ blk w' g = some (rowC bn (isort ltB L) ++ sp).toArray := g1
  by_cases h20 : L.length < 20
  · have l1 : ¬ ((20 : Int) ≤ (L.length : Int)) := by omega
    have l2 : ¬ ((20 : Int) < (L.length : Int)) := by omega
    obtain ⟨n, hn⟩ : ∃ n, L.length = n := ⟨_, rfl⟩
    rw [hn] at g1 l1 l2 ⊢
    replace g1 := Lib.hid g1
    clear hn h20 hlen hcap h0 hI hbk
    go_enter Tryd.func94, Tryd.ntmps94
    go_wp2
    refine wp_loop_rounds 1 ?_
    rw [rounds_succ]
    go_wp2_with (go_at_call 114; (with_reducible refine (g1.out).mono ?_); rintro e w1 ⟨rfl, hg, hb⟩)
    refine wp_loop_rounds 1 ?_
    rw [rounds_succ]
    go_wp2
    go_end0
    exact ⟨rfl, hg, hb⟩
  · have hn : L.length = 20 := by omega
    have g0 : ∀ w, Calls Tryd.prog 114 #[.slice (some ⟨g, 0, none⟩) 20 cap, .int .i64 20, .int .i64 20, .func (.func 56) #[] #[]] w fun e w' => e = .returned (.tuple #[]) ∧ w = w' := fun w => insert_none _ 20 (by omega) w
    replace g0 := Lib.hid g0
    rw [hn] at g1 ⊢
    have g1 : Calls Tryd.prog 114 #[.slice (some ⟨g, 0, none⟩) 20 cap, .int .i64 0, .int .i64 20, .func (.func 56) #[] #[]] w fun e w' => e = .returned (.tuple #[]) ∧ w.grownBy w' (some g) ∧ blk w' g = some (rowC bn (isort ltB L) ++ sp).toArray := g1
    replace g1 := Lib.hid g1
    show Calls Tryd.prog 94 #[.slice (some ⟨g, 0, none⟩) 20 cap, .int .i64 20, .func (.func 56) #[] #[]] w _
    clear hn h20 hlen hcap h0 hI hbk
    go_enter Tryd.func94, Tryd.ntmps94
    go_wp2
    refine wp_loop_rounds 2 ?_
    rw [rounds_succ]
    go_wp2_with (go_at_call 114; (with_reducible refine (g1.out).mono ?_); rintro e w1 ⟨rfl, hg, hb⟩)
    rw [rounds_succ]
    go_wp2_with (go_at_call 114; (with_reducible refine (g0.out _).mono ?_); rintro e w2 ⟨rfl, rfl⟩)
    refine wp_loop_rounds 1 ?_
    rw [rounds_succ]
    go_wp2
    go_end0
    exact ⟨rfl, hg, hb⟩
set_option maxRecDepth 100000 in
theorem sortStable_none (a : Option Addr) (cap : Nat) (w : World) :
    Calls Tryd.prog 55 #[.slice a 0 cap, .func (.func 56) #[] #[]] w fun e w' => e = .returned (.tuple #[]) ∧ w = w' := by
  have g0 := Lib.hid (fun w => stable_none (.slice a 0 cap) w)
  go_enter Tryd.func55, Tryd.ntmps55
  go_wp2_with (go_at_call 94; (with_reducible refine (g0.out _).mono ?_); rintro e w1 ⟨rfl, rfl⟩)
  go_end0
  exact ⟨rfl, rfl⟩
set_option maxRecDepth 100000 in
theorem sortStable_any (g cap : Nat) (L : List Bn) (sp : List Value) (h0 : 0 < L.length) (hlen : L.length ≤ 20) (hcap : L.length ≤ cap) (hI : ∀ x ∈ L, BnI x) (w : World) (hbk : blk w g = some (rowC bn L ++ sp).toArray) :
    Calls Tryd.prog 55 #[.slice (some ⟨g, 0, none⟩) L.length cap, .func (.func 56) #[] #[]] w fun e w' =>
      e = .returned (.tuple #[]) ∧ w.grownBy w' (some g) ∧ blk w' g = some (rowC bn (isort ltB L) ++ sp).toArray := by
  have g1 := Lib.hid (stable_any g cap L sp h0 hlen hcap hI w hbk)
  go_enter Tryd.func55, Tryd.ntmps55
  go_wp2_with (go_at_call 94; (with_reducible refine (g1.out).mono ?_); rintro e w1 ⟨rfl, hg, hb⟩)
  go_end0
  exact ⟨rfl, hg, hb⟩
end Go.Proofs.YtahopnlibmiafaaDoor
namespace Go.Proofs.YtahopnlibmiafaaDoor
open Go.RowKit
theorem symB_any (g cap c n : Nat) (sp : List Value) (hlen : n ≤ 1000000) (hcap : n ≤ cap) (Hd : World → Prop) (lt : Bn → Bn → Bool) (cm : Bn → Bn → Int) (hlt : ∀ x y, lt x y = decide (cm x y < 0)) (hB : ∀ W W', Hd W → Below W.heap.size W W' → Hd W') (hS : ∀ W o vs, Hd W → Hd (W.setCells g o vs)) (hD : ∀ W, Hd W → Hd W.drew)
    (D : Bn → Prop) (hcmp : ∀ x y, D x → D y → ∀ W, Hd W → Calls Tryd.prog 56 #[.agg (bn x).toArray, .agg (bn y).toArray] W fun e w' => e = .returned (.int .i64 (cm x y)) ∧ Below W.heap.size W w')
    (asym : ∀ a b, lt a b = true → lt b a = false) (nn : ∀ a b c, lt a b = false → lt b c = false → lt a c = false) : ∀ (N : Nat) (P A B S : List Bn) (a m b : Nat) (W : World), A.length + B.length ≤ N → n = (P ++ A ++ B ++ S).length → 0 < A.length → 0 < B.length → (∀ x ∈ A, D x) → (∀ x ∈ B, D x) → Srt lt A → Srt lt B → a = P.length → m = a + A.length → b = m + B.length → Hd W → blk W g = some (rowC bn (P ++ A ++ B ++ S) ++ sp).toArray →
    Calls Tryd.prog 115 #[.slice (some ⟨g, 0, none⟩) n cap, .int .i64 a, .int .i64 m, .int .i64 b, .func (.func 56) #[] #[]] W fun e w' =>
      e = .returned (.tuple #[]) ∧ W.grownBy w' (some g) ∧ blk w' g = some (rowC bn (P ++ mrg lt A B ++ S) ++ sp).toArray ∧ Hd w'
  | N, P, A, B, S, a, m, b, W, hN, hn, hA, hB', dA, dB, sA, sB, ha, hm, hb, h0, hbk => by
    by_cases h1 : A.length = 1
    · obtain ⟨x, rfl⟩ := List.length_eq_one_iff.1 h1
      exact symB_left g cap c n P B S x sp hn hlen hcap Hd lt cm hlt hB hS hD D hcmp asym nn (dA x (by simp)) dB sB a m b ha (by rw [hm, h1]) hb W h0 hbk
    · by_cases h2 : B.length = 1
      · obtain ⟨y, rfl⟩ := List.length_eq_one_iff.1 h2
        exact symB_right g cap c n P A S y sp hn hlen hcap Hd lt cm hlt hB hS hD D hcmp asym nn (dB y (by simp)) dA sA h1 a m b ha hm (by rw [hb, h2]) W h0 hbk
      · match N, hN with
        | 0, hN => exact absurd hN (by omega)
        | N + 1, hN =>
          exact symB_step g cap c n P A B S sp hn hlen hcap Hd lt cm hlt hB hS hD D hcmp asym nn dA dB sA sB (by omega) (by omega)
            (fun P' A' B' S' a' m' b' W' c1 c2 c3 c4 c5 c6 c7 c8 c9 c10 c11 c12 c13 => symB_any g cap c n sp hlen hcap Hd lt cm hlt hB hS hD D hcmp asym nn N P' A' B' S' a' m' b' W' (by omega) c1 c2 c3 c5 c6 c7 c8 c9 c10 c11 c12 c13)
            a m b ha hm hb W h0 hbk
end Go.Proofs.YtahopnlibmiafaaDoor
namespace Go.Proofs.YtahopnlibmiafaaDoor
open Go.RowKit
set_option maxRecDepth 100000 in
set_option maxHeartbeats 1600000 in
theorem stable_big (g cap : Nat) (L : List Bn) (sp : List Value) (h20 : 20 < L.length) (hlen : L.length ≤ 40) (hcap : L.length ≤ cap) (hI : ∀ x ∈ L, BnI x) (w : World) (hbk : blk w g = some (rowC bn L ++ sp).toArray) :
    Calls Tryd.prog 94 #[.slice (some ⟨g, 0, none⟩) L.length cap, .int .i64 L.length, .func (.func 56) #[] #[]] w fun e w' =>
      e = .returned (.tuple #[]) ∧ w.grownBy w' (some g) ∧ blk w' g = some (rowC bn (isort ltB L) ++ sp).toArray := by
  obtain ⟨n, hn⟩ : ∃ n, L.length = n := ⟨_, rfl⟩
  obtain ⟨A, hA⟩ : ∃ A, A = isort ltB (L.take 20) := ⟨_, rfl⟩
  obtain ⟨B, hB'⟩ : ∃ B, B = isort ltB (L.drop 20) := ⟨_, rfl⟩
  have asym : ∀ a b, ltB a b = true → ltB b a = false := ltB_asymO
  have nn : ∀ a b c, ltB a b = false → ltB b c = false → ltB a c = false := ltB_nnO
  have lA : A.length = 20 := by rw [hA, isort_length]; simp; omega
  have lB : B.length = n - 20 := by rw [hB', isort_length]; simp; omega
  have mA : ∀ x ∈ A, BnI x := fun x hx => hI x (List.mem_of_mem_take ((isort_perm ltB _).mem_iff.1 (hA ▸ hx)))
  have mB : ∀ x ∈ B, BnI x := fun x hx => hI x (List.mem_of_mem_drop ((isort_perm ltB _).mem_iff.1 (hB' ▸ hx)))
  have g1 : Calls Tryd.prog 114 #[.slice (some ⟨g, 0, none⟩) n cap, .int .i64 0, .int .i64 20, .func (.func 56) #[] #[]] w fun e w' => e = .returned (.tuple #[]) ∧ w.grownBy w' (some g) ∧ blk w' g = some (rowC bn (A ++ L.drop 20) ++ sp).toArray := by
    have g1 := insert_any g cap L sp 0 20 (by omega) (by omega) (by omega) hcap hI w hbk
    rw [List.drop_zero, List.take_zero, List.nil_append, ← hA, hn] at g1
    exact g1
  have g2 : ∀ w1, blk w1 g = some (rowC bn (A ++ L.drop 20) ++ sp).toArray → Calls Tryd.prog 114 #[.slice (some ⟨g, 0, none⟩) n cap, .int .i64 20, .int .i64 n, .func (.func 56) #[] #[]] w1 fun e w' => e = .returned (.tuple #[]) ∧ w1.grownBy w' (some g) ∧ blk w' g = some (rowC bn (A ++ B) ++ sp).toArray := by
    intro w1 hb1
    have l1 : (A ++ L.drop 20).length = n := by simp; omega
    have m1 : ∀ x ∈ A ++ L.drop 20, BnI x := fun x hx => (List.mem_append.1 hx).elim (mA x) (fun h => hI x (List.mem_of_mem_drop h))
    have g2 := insert_any g cap (A ++ L.drop 20) sp 20 n (by omega) (by omega) (by omega) (by omega) m1 w1 hb1
    rw [l1] at g2
    have e1 : (A ++ L.drop 20).take n = A ++ L.drop 20 := List.take_of_length_le (by omega)
    have e2 : (A ++ L.drop 20).drop 20 = L.drop 20 := by rw [← lA]; exact List.drop_left' (by omega)
    have e3 : (A ++ L.drop 20).take 20 = A := List.take_left' lA
    have e4 : (A ++ L.drop 20).drop n = [] := List.drop_of_length_le (by omega)
    rw [e1, e2, e3, e4, List.append_nil, ← hB'] at g2
    exact g2
  have g3 : ∀ w2, blk w2 g = some (rowC bn (A ++ B) ++ sp).toArray → Calls Tryd.prog 115 #[.slice (some ⟨g, 0, none⟩) n cap, .int .i64 0, .int .i64 20, .int .i64 n, .func (.func 56) #[] #[]] w2 fun e w' => e = .returned (.tuple #[]) ∧ w2.grownBy w' (some g) ∧ blk w' g = some (rowC bn (isort ltB L) ++ sp).toArray ∧ True := by
    intro w2 hb2
    have sA : Srt ltB A := by rw [hA]; exact isort_srt ltB asym nn _
    have sB : Srt ltB B := by rw [hB']; exact isort_srt ltB asym nn _
    have g3 := symB_any g cap 0 n sp (by omega) (by omega) (fun _ => True) ltB cmpB ltB_eq (fun _ _ _ _ => trivial) (fun _ _ _ _ => trivial) (fun _ _ => trivial) BnI (fun x y hx hy W _ => bcmp_any x y hx hy W) asym nn (A.length + B.length) [] A B [] 0 20 n w2 (Nat.le_refl _) (by simp; omega) (by omega) (by omega) mA mB sA sB rfl (by omega) (by omega) trivial (by simpa using hb2)
    have e : mrg ltB A B = isort ltB L := by rw [hA, hB', mrg_isort asym nn, List.take_append_drop]
    rw [List.nil_append, List.append_nil, e] at g3
    exact g3
  replace g1 := Lib.hid g1
  replace g2 := Lib.hid g2
  replace g3 := Lib.hid g3
  rw [hn]
  clear asym nn hbk hI
  by_cases h40 : n = 40
  · subst h40
    have g0 : ∀ w, Calls Tryd.prog 114 #[.slice (some ⟨g, 0, none⟩) 40 cap, .int .i64 40, .int .i64 40, .func (.func 56) #[] #[]] w fun e w' => e = .returned (.tuple #[]) ∧ w = w' := fun w => insert_none _ 40 (by omega) w
    replace g0 := Lib.hid g0
    replace g1 : Hid (Calls Tryd.prog 114 #[.slice (some ⟨g, 0, none⟩) 40 cap, .int .i64 0, .int .i64 20, .func (.func 56) #[] #[]] w fun e w' => e = .returned (.tuple #[]) ∧ w.grownBy w' (some g) ∧ blk w' g = some (rowC bn (A ++ L.drop 20) ++ sp).toArray) := g1
    replace g2 : Hid (∀ w1, blk w1 g = some (rowC bn (A ++ L.drop 20) ++ sp).toArray → Calls Tryd.prog 114 #[.slice (some ⟨g, 0, none⟩) 40 cap, .int .i64 20, .int .i64 40, .func (.func 56) #[] #[]] w1 fun e w' => e = .returned (.tuple #[]) ∧ w1.grownBy w' (some g) ∧ blk w' g = some (rowC bn (A ++ B) ++ sp).toArray) := g2
    replace g3 : Hid (∀ w2, blk w2 g = some (rowC bn (A ++ B) ++ sp).toArray → Calls Tryd.prog 115 #[.slice (some ⟨g, 0, none⟩) 40 cap, .int .i64 0, .int .i64 20, .int .i64 40, .func (.func 56) #[] #[]] w2 fun e w' => e = .returned (.tuple #[]) ∧ w2.grownBy w' (some g) ∧ blk w' g = some (rowC bn (isort ltB L) ++ sp).toArray ∧ True) := g3
    show Calls Tryd.prog 94 #[.slice (some ⟨g, 0, none⟩) 40 cap, .int .i64 40, .func (.func 56) #[] #[]] w _
    clear hn h20 hlen hcap lA lB mA mB hA hB'
    go_enter Tryd.func94, Tryd.ntmps94
    go_wp2
    refine wp_loop_rounds 3 ?_
    rw [rounds_succ]
    go_wp2_with (go_at_call 114; (with_reducible refine (g1.out).mono ?_); rintro e w1 ⟨rfl, hg1, hb1⟩)
    rw [rounds_succ]
    go_wp2_with (go_at_call 114; (with_reducible refine (g2.out _ hb1).mono ?_); rintro e w2 ⟨rfl, hg2, hb2⟩)
    rw [rounds_succ]
    go_wp2_with (go_at_call 114; (with_reducible refine (g0.out _).mono ?_); rintro e w3 ⟨rfl, rfl⟩)
    refine wp_loop_rounds 2 ?_
    rw [rounds_succ]
    go_wp2
    refine wp_loop_rounds 2 ?_
    rw [rounds_succ]
    go_wp2_with (go_at_call 115; (with_reducible refine (g3.out _ hb2).mono ?_); rintro e w3 ⟨rfl, hg3, hb3, _⟩)
    rw [rounds_succ]
    go_wp2
    rw [rounds_succ]
    go_wp2
    go_end0
    exact ⟨rfl, igrown_trans (igrown_trans hg1 hg2) hg3, hb3⟩
  · have l1 : (20 : Int) ≤ (n : Int) := by omega
    have l2 : ¬ ((40 : Int) ≤ (n : Int)) := by omega
    have l3 : (20 : Int) < (n : Int) := by omega
    have l4 : ¬ ((40 : Int) < (n : Int)) := by omega
    clear hn h20 hlen hcap lA lB mA mB hA hB' h40
    go_enter Tryd.func94, Tryd.ntmps94
    go_wp2
    refine wp_loop_rounds 2 ?_
    rw [rounds_succ]
    go_wp2_with (go_at_call 114; (with_reducible refine (g1.out).mono ?_); rintro e w1 ⟨rfl, hg1, hb1⟩)
    rw [rounds_succ]
    go_wp2_with (go_at_call 114; (with_reducible refine (g2.out _ hb1).mono ?_); rintro e w2 ⟨rfl, hg2, hb2⟩)
    refine wp_loop_rounds 2 ?_
    rw [rounds_succ]
    go_wp2
    refine wp_loop_rounds 1 ?_
    rw [rounds_succ]
    go_wp2_with (go_at_call 115; (with_reducible refine (g3.out _ hb2).mono ?_); rintro e w3 ⟨rfl, hg3, hb3, _⟩)
    rw [rounds_succ]
    go_wp2
    go_end0
    exact ⟨rfl, igrown_trans (igrown_trans hg1 hg2) hg3, hb3⟩
set_option maxRecDepth 100000 in
theorem sortStable_40 (g cap : Nat) (L : List Bn) (sp : List Value) (h0 : 0 < L.length) (hlen : L.length ≤ 40) (hcap : L.length ≤ cap) (hI : ∀ x ∈ L, BnI x) (w : World) (hbk : blk w g = some (rowC bn L ++ sp).toArray) :
    Calls Tryd.prog 55 #[.slice (some ⟨g, 0, none⟩) L.length cap, .func (.func 56) #[] #[]] w fun e w' =>
      e = .returned (.tuple #[]) ∧ w.grownBy w' (some g) ∧ blk w' g = some (rowC bn (isort ltB L) ++ sp).toArray := by
  by_cases h20 : 20 < L.length
  · have g1 := Lib.hid (stable_big g cap L sp h20 hlen hcap hI w hbk)
    clear hI hbk
    go_enter Tryd.func55, Tryd.ntmps55
    go_wp2_with (go_at_call 94; (with_reducible refine (g1.out).mono ?_); rintro e w1 ⟨rfl, hg, hb⟩)
    go_end0
    exact ⟨rfl, hg, hb⟩
  · exact sortStable_any g cap L sp h0 (by omega) hcap hI w hbk
end Go.Proofs.YtahopnlibmiafaaDoor
