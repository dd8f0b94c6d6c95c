/- Parts of a proof, printed by a program of mine out of my texts: SoSymA, SoBigI. -/
import Derived.Test.YtahopnlibmiafaaDoorMI
import Derived.Test.YtahopnlibmiafaaDoorMRa
import Derived.Test.YtahopnlibmiafaaDoorMRb
set_option linter.unusedSimpArgs false
set_option linter.unusedVariables false
namespace Go.Proofs.YtahopnlibmiafaaDoor
open Go.RowKit
theorem symI_any (g cap c n : Nat) (sp : List Value) (hlen : n ≤ 1000000) (hcap : n ≤ cap) (Hd : World → Prop) (lt : Int → Int → Bool) (cm : Int → Int → Int) (hlt : ∀ x y, lt x y = decide (cm x y < 0)) (hB : ∀ W W', Hd W → Below W.heap.size W W' → Hd W') (hS : ∀ W o v, Hd W → Hd (W.setCell ⟨g, o, none⟩ v)) (hD : ∀ W, Hd W → Hd W.drew)
    (D : Int → Prop) (hcmp : ∀ x y, D x → D y → ∀ W, Hd W → Calls Tryd.prog 69 #[.int .i64 x, .int .i64 y, .pointer (some ⟨c, 0, none⟩)] W fun e w' => e = .returned (.int .i64 (cm x y)) ∧ Below W.heap.size W w')
    (asym : ∀ a b, lt a b = true → lt b a = false) (nn : ∀ a b c, lt a b = false → lt b c = false → lt a c = false) : ∀ (N : Nat) (P A B S : List Int) (a m b : Nat) (W : World), A.length + B.length ≤ N → n = (P ++ A ++ B ++ S).length → 0 < A.length → 0 < B.length → (∀ x ∈ A, D x) → (∀ x ∈ B, D x) → Srt lt A → Srt lt B → a = P.length → m = a + A.length → b = m + B.length → Hd W → blk W g = some (rowC ic (P ++ A ++ B ++ S) ++ sp).toArray →
    Calls Tryd.prog 118 #[.slice (some ⟨g, 0, none⟩) n cap, .int .i64 a, .int .i64 m, .int .i64 b, .func (.func 69) #[] #[.pointer (some ⟨c, 0, none⟩)]] W fun e w' =>
      e = .returned (.tuple #[]) ∧ W.grownBy w' (some g) ∧ blk w' g = some (rowC ic (P ++ mrg lt A B ++ S) ++ sp).toArray ∧ Hd w'
  | N, P, A, B, S, a, m, b, W, hN, hn, hA, hB', dA, dB, sA, sB, ha, hm, hb, h0, hbk => by
    by_cases h1 : A.length = 1
    · obtain ⟨x, rfl⟩ := List.length_eq_one_iff.1 h1
      exact symI_left g cap c n P B S x sp hn hlen hcap Hd lt cm hlt hB hS hD D hcmp asym nn (dA x (by simp)) dB sB a m b ha (by rw [hm, h1]) hb W h0 hbk
    · by_cases h2 : B.length = 1
      · obtain ⟨y, rfl⟩ := List.length_eq_one_iff.1 h2
        exact symI_right g cap c n P A S y sp hn hlen hcap Hd lt cm hlt hB hS hD D hcmp asym nn (dB y (by simp)) dA sA h1 a m b ha hm (by rw [hb, h2]) W h0 hbk
      · match N, hN with
        | 0, hN => exact absurd hN (by omega)
        | N + 1, hN =>
          exact symI_step g cap c n P A B S sp hn hlen hcap Hd lt cm hlt hB hS hD D hcmp asym nn dA dB sA sB (by omega) (by omega)
            (fun P' A' B' S' a' m' b' W' c1 c2 c3 c4 c5 c6 c7 c8 c9 c10 c11 c12 c13 => symI_any g cap c n sp hlen hcap Hd lt cm hlt hB hS hD D hcmp asym nn N P' A' B' S' a' m' b' W' (by omega) c1 c2 c3 c5 c6 c7 c8 c9 c10 c11 c12 c13)
            a m b ha hm hb W h0 hbk
end Go.Proofs.YtahopnlibmiafaaDoor
namespace Go.Proofs.YtahopnlibmiafaaDoor
open Go.RowKit
set_option maxRecDepth 100000 in
set_option maxHeartbeats 1600000 in
theorem stableI_big (g cap c : Nat) (L : List Int) (sp : List Value) (h20 : 20 < L.length) (hlen : L.length ≤ 40) (hcap : L.length ≤ cap) (Hd : World → Prop) (lt : Int → Int → Bool) (cm : Int → Int → Int) (hlt : ∀ x y, lt x y = decide (cm x y < 0)) (hB : ∀ W W', Hd W → Below W.heap.size W W' → Hd W') (hS : ∀ W o v, Hd W → Hd (W.setCell ⟨g, o, none⟩ v)) (hD : ∀ W, Hd W → Hd W.drew)
    (hcmp : ∀ x ∈ L, ∀ y ∈ L, ∀ W, Hd W → Calls Tryd.prog 69 #[.int .i64 x, .int .i64 y, .pointer (some ⟨c, 0, none⟩)] W fun e w' => e = .returned (.int .i64 (cm x y)) ∧ Below W.heap.size W w')
    (asym : ∀ a b, lt a b = true → lt b a = false) (nn : ∀ a b c, lt a b = false → lt b c = false → lt a c = false) (w : World) (h0 : Hd w) (hbk : blk w g = some (rowC ic L ++ sp).toArray) :
    Calls Tryd.prog 100 #[.slice (some ⟨g, 0, none⟩) L.length cap, .int .i64 L.length, .func (.func 69) #[] #[.pointer (some ⟨c, 0, none⟩)]] w fun e w' =>
      e = .returned (.tuple #[]) ∧ w.grownBy w' (some g) ∧ blk w' g = some (rowC ic (isort lt L) ++ sp).toArray ∧ Hd w' := by
  obtain ⟨n, hn⟩ : ∃ n, L.length = n := ⟨_, rfl⟩
  obtain ⟨A, hA⟩ : ∃ A, A = isort lt (L.take 20) := ⟨_, rfl⟩
  obtain ⟨B, hB'⟩ : ∃ B, B = isort lt (L.drop 20) := ⟨_, rfl⟩
  have lA : A.length = 20 := by rw [hA, isort_length]; simp; omega
  have lB : B.length = n - 20 := by rw [hB', isort_length]; simp; omega
  have mA : ∀ x ∈ A, x ∈ L := fun x hx => List.mem_of_mem_take ((isort_perm lt _).mem_iff.1 (hA ▸ hx))
  have mB : ∀ x ∈ B, x ∈ L := fun x hx => List.mem_of_mem_drop ((isort_perm lt _).mem_iff.1 (hB' ▸ hx))
  have g1 : Calls Tryd.prog 117 #[.slice (some ⟨g, 0, none⟩) n cap, .int .i64 0, .int .i64 20, .func (.func 69) #[] #[.pointer (some ⟨c, 0, none⟩)]] w fun e w' => e = .returned (.tuple #[]) ∧ w.grownBy w' (some g) ∧ blk w' g = some (rowC ic (A ++ L.drop 20) ++ sp).toArray ∧ Hd w' := by
    have g1 := insertI_any g cap c L sp 0 20 (by omega) (by omega) (by omega) hcap Hd lt cm hlt hB hS hD hcmp w h0 hbk
    rw [List.drop_zero, List.take_zero, List.nil_append, ← hA, hn] at g1
    exact g1
  have g2 : ∀ w1, Hd w1 → blk w1 g = some (rowC ic (A ++ L.drop 20) ++ sp).toArray → Calls Tryd.prog 117 #[.slice (some ⟨g, 0, none⟩) n cap, .int .i64 20, .int .i64 n, .func (.func 69) #[] #[.pointer (some ⟨c, 0, none⟩)]] w1 fun e w' => e = .returned (.tuple #[]) ∧ w1.grownBy w' (some g) ∧ blk w' g = some (rowC ic (A ++ B) ++ sp).toArray ∧ Hd w' := by
    intro w1 h1 hb1
    have l1 : (A ++ L.drop 20).length = n := by simp; omega
    have m1 : ∀ x ∈ A ++ L.drop 20, x ∈ L := fun x hx => (List.mem_append.1 hx).elim (mA x) List.mem_of_mem_drop
    have g2 := insertI_any g cap c (A ++ L.drop 20) sp 20 n (by omega) (by omega) (by omega) (by omega) Hd lt cm hlt hB hS hD (fun x hx y hy => hcmp x (m1 x hx) y (m1 y hy)) w1 h1 hb1
    rw [l1] at g2
    have e1 : (A ++ L.drop 20).take n = A ++ L.drop 20 := List.take_of_length_le (by omega)
    have e2 : (A ++ L.drop 20).drop 20 = L.drop 20 := by rw [← lA]; exact List.drop_left' (by omega)
    have e3 : (A ++ L.drop 20).take 20 = A := List.take_left' lA
    have e4 : (A ++ L.drop 20).drop n = [] := List.drop_of_length_le (by omega)
    rw [e1, e2, e3, e4, List.append_nil, ← hB'] at g2
    exact g2
  have g3 : ∀ w2, Hd w2 → blk w2 g = some (rowC ic (A ++ B) ++ sp).toArray → Calls Tryd.prog 118 #[.slice (some ⟨g, 0, none⟩) n cap, .int .i64 0, .int .i64 20, .int .i64 n, .func (.func 69) #[] #[.pointer (some ⟨c, 0, none⟩)]] w2 fun e w' => e = .returned (.tuple #[]) ∧ w2.grownBy w' (some g) ∧ blk w' g = some (rowC ic (isort lt L) ++ sp).toArray ∧ Hd w' := by
    intro w2 h2 hb2
    have sA : Srt lt A := by rw [hA]; exact isort_srt lt asym nn _
    have sB : Srt lt B := by rw [hB']; exact isort_srt lt asym nn _
    have g3 := symI_any g cap c n sp (by omega) (by omega) Hd lt cm hlt hB hS hD (fun x => x ∈ L) (fun x y hx hy => hcmp x hx y hy) asym nn (A.length + B.length) [] A B [] 0 20 n w2 (Nat.le_refl _) (by simp; omega) (by omega) (by omega) mA mB sA sB rfl (by omega) (by omega) h2 (by simpa using hb2)
    have e : mrg lt A B = isort lt L := by rw [hA, hB', mrg_isort asym nn, List.take_append_drop]
    rw [List.nil_append, List.append_nil, e] at g3
    exact g3
  replace g1 := Lib.hid g1
  replace g2 := Lib.hid g2
  replace g3 := Lib.hid g3
  rw [hn]
  clear hlt hB hS hD hcmp asym nn h0 hbk
  by_cases h40 : n = 40
  · subst h40
    have g0 : ∀ w, Calls Tryd.prog 117 #[.slice (some ⟨g, 0, none⟩) 40 cap, .int .i64 40, .int .i64 40, .func (.func 69) #[] #[.pointer (some ⟨c, 0, none⟩)]] w fun e w' => e = .returned (.tuple #[]) ∧ w = w' := fun w => insertI_none _ _ 40 (by omega) w
    replace g0 := Lib.hid g0
    replace g1 : Hid (Calls Tryd.prog 117 #[.slice (some ⟨g, 0, none⟩) 40 cap, .int .i64 0, .int .i64 20, .func (.func 69) #[] #[.pointer (some ⟨c, 0, none⟩)]] w fun e w' => e = .returned (.tuple #[]) ∧ w.grownBy w' (some g) ∧ blk w' g = some (rowC ic (A ++ L.drop 20) ++ sp).toArray ∧ Hd w') := g1
    replace g2 : Hid (∀ w1, Hd w1 → blk w1 g = some (rowC ic (A ++ L.drop 20) ++ sp).toArray → Calls Tryd.prog 117 #[.slice (some ⟨g, 0, none⟩) 40 cap, .int .i64 20, .int .i64 40, .func (.func 69) #[] #[.pointer (some ⟨c, 0, none⟩)]] w1 fun e w' => e = .returned (.tuple #[]) ∧ w1.grownBy w' (some g) ∧ blk w' g = some (rowC ic (A ++ B) ++ sp).toArray ∧ Hd w') := g2
    replace g3 : Hid (∀ w2, Hd w2 → blk w2 g = some (rowC ic (A ++ B) ++ sp).toArray → Calls Tryd.prog 118 #[.slice (some ⟨g, 0, none⟩) 40 cap, .int .i64 0, .int .i64 20, .int .i64 40, .func (.func 69) #[] #[.pointer (some ⟨c, 0, none⟩)]] w2 fun e w' => e = .returned (.tuple #[]) ∧ w2.grownBy w' (some g) ∧ blk w' g = some (rowC ic (isort lt L) ++ sp).toArray ∧ Hd w') := g3
    show Calls Tryd.prog 100 #[.slice (some ⟨g, 0, none⟩) 40 cap, .int .i64 40, .func (.func 69) #[] #[.pointer (some ⟨c, 0, none⟩)]] w _
    clear hn h20 hlen hcap lA lB mA mB hA hB'
    go_enter Tryd.func100, Tryd.ntmps100
    go_wp2
    refine wp_loop_rounds 3 ?_
    rw [rounds_succ]
    go_wp2_with (go_at_call 117; (with_reducible refine (g1.out).mono ?_); rintro e w1 ⟨rfl, hg1, hb1, hd1⟩)
    rw [rounds_succ]
    go_wp2_with (go_at_call 117; (with_reducible refine (g2.out _ hd1 hb1).mono ?_); rintro e w2 ⟨rfl, hg2, hb2, hd2⟩)
    rw [rounds_succ]
    go_wp2_with (go_at_call 117; (with_reducible refine (g0.out _).mono ?_); rintro e w3 ⟨rfl, rfl⟩)
    refine wp_loop_rounds 2 ?_
    rw [rounds_succ]
    go_wp2
    refine wp_loop_rounds 2 ?_
    rw [rounds_succ]
    go_wp2_with (go_at_call 118; (with_reducible refine (g3.out _ hd2 hb2).mono ?_); rintro e w3 ⟨rfl, hg3, hb3, hd3⟩)
    rw [rounds_succ]
    go_wp2
    rw [rounds_succ]
    go_wp2
    go_end0
    exact ⟨rfl, igrown_trans (igrown_trans hg1 hg2) hg3, hb3, hd3⟩
  · have l1 : (20 : Int) ≤ (n : Int) := by omega
    have l2 : ¬ ((40 : Int) ≤ (n : Int)) := by omega
    have l3 : (20 : Int) < (n : Int) := by omega
    have l4 : ¬ ((40 : Int) < (n : Int)) := by omega
    clear hn h20 hlen hcap lA lB mA mB hA hB' h40
    go_enter Tryd.func100, Tryd.ntmps100
    go_wp2
    refine wp_loop_rounds 2 ?_
    rw [rounds_succ]
    go_wp2_with (go_at_call 117; (with_reducible refine (g1.out).mono ?_); rintro e w1 ⟨rfl, hg1, hb1, hd1⟩)
    rw [rounds_succ]
    go_wp2_with (go_at_call 117; (with_reducible refine (g2.out _ hd1 hb1).mono ?_); rintro e w2 ⟨rfl, hg2, hb2, hd2⟩)
    refine wp_loop_rounds 2 ?_
    rw [rounds_succ]
    go_wp2
    refine wp_loop_rounds 1 ?_
    rw [rounds_succ]
    go_wp2_with (go_at_call 118; (with_reducible refine (g3.out _ hd2 hb2).mono ?_); rintro e w3 ⟨rfl, hg3, hb3, hd3⟩)
    rw [rounds_succ]
    go_wp2
    go_end0
    exact ⟨rfl, igrown_trans (igrown_trans hg1 hg2) hg3, hb3, hd3⟩
set_option maxRecDepth 100000 in
theorem sortI_40 (g cap c : Nat) (L : List Int) (sp : List Value) (h0' : 0 < L.length) (hlen : L.length ≤ 40) (hcap : L.length ≤ cap) (Hd : World → Prop) (lt : Int → Int → Bool) (cm : Int → Int → Int) (hlt : ∀ x y, lt x y = decide (cm x y < 0)) (hB : ∀ W W', Hd W → Below W.heap.size W W' → Hd W') (hS : ∀ W o v, Hd W → Hd (W.setCell ⟨g, o, none⟩ v)) (hD : ∀ W, Hd W → Hd W.drew)
    (hcmp : ∀ x ∈ L, ∀ y ∈ L, ∀ W, Hd W → Calls Tryd.prog 69 #[.int .i64 x, .int .i64 y, .pointer (some ⟨c, 0, none⟩)] W fun e w' => e = .returned (.int .i64 (cm x y)) ∧ Below W.heap.size W w')
    (asym : ∀ a b, lt a b = true → lt b a = false) (nn : ∀ a b c, lt a b = false → lt b c = false → lt a c = false) (w : World) (h0 : Hd w) (hbk : blk w g = some (rowC ic L ++ sp).toArray) :
    Calls Tryd.prog 68 #[.slice (some ⟨g, 0, none⟩) L.length cap, .func (.func 69) #[] #[.pointer (some ⟨c, 0, none⟩)]] w fun e w' =>
      e = .returned (.tuple #[]) ∧ w.grownBy w' (some g) ∧ blk w' g = some (rowC ic (isort lt L) ++ sp).toArray ∧ Hd w' := by
  by_cases h20 : 20 < L.length
  · have g1 := Lib.hid (stableI_big g cap c L sp h20 hlen hcap Hd lt cm hlt hB hS hD hcmp asym nn w h0 hbk)
    clear hlt hB hS hD hcmp asym nn h0 hbk
    go_enter Tryd.func68, Tryd.ntmps68
    go_wp2_with (go_at_call 100; (with_reducible refine (g1.out).mono ?_); rintro e w1 ⟨rfl, hg, hb, hd⟩)
    go_end0
    exact ⟨rfl, hg, hb, hd⟩
  · exact sortI_any g cap c L sp h0' (by omega) hcap Hd lt cm hlt hB hS hD hcmp w h0 hbk
end Go.Proofs.YtahopnlibmiafaaDoor
