/- The walks of NumBack, NumOnly and NumOrder. -/
import Derived.Test.YtbdaiflghgihcaaNumLaw1
import Derived.OpenShut
import Derived.Lib.Strings
import Derived.Deep.RegionWith
namespace Go.Proofs.Ytbdaiflghgihcaa
set_option linter.unusedVariables false
open Go.RowKit

theorem u64_bounds {a : Int} (h : (Lit.int .u64 a).wf = true) : 0 ≤ a ∧ a ≤ 18446744073709551615 := by
  have := bounds_u64 h
  omega
theorem i64_bounds {a : Int} (h : (Lit.int .i64 a).wf = true) : -9223372036854775808 ≤ a ∧ a ≤ 9223372036854775807 := by
  have := bounds_i64 h
  omega

theorem back_get (b p a : ByteArray) (n : Nat) (hn : n < 18446744073709551616) (hp : p.data.toList = putN n) :
    getN (b ++ p ++ a).data.toList (b.size : Nat) = (n, b.size + p.size, 0) := by
  have e : (b ++ p ++ a).data.toList = b.data.toList ++ (putN n ++ a.data.toList) := by rw [← hp]; simp
  have el : p.size = (putN n).length := by rw [← hp]; simp
  have hb : b.size = b.data.toList.length := by simp
  rw [e]; unfold getN
  rw [if_neg (by simp; omega), show ((b.size : Nat) : Int).toNat = b.size by omega, hb, List.drop_left, getGo_put n _ _ hn, ← hb, el]

set_option maxRecDepth 100000 in
set_option maxHeartbeats 800000 in
theorem numBack_walk (a0 : Int) (a1 : ByteArray) (a2 : ByteArray) (w0 : (Lit.int .u64 a0).wf = true) (w1 : a1.size ≤ maxLen) (w2 : a2.size ≤ maxLen) (w : World) :
    Calls Try.prog 3 #[.int .u64 a0, .string a1, .string a2] w fun e w' => e = .returned (.bool true) ∧ Below w.heap.size w w' := by
  obtain ⟨h0, h1⟩ := u64_bounds w0
  clear w0
  unfold maxLen at w1 w2
  by_cases hc : a1.size ≤ 1000 ∧ a2.size ≤ 1000
  · obtain ⟨hc1, hc2⟩ := hc
    obtain ⟨n, rfl⟩ := Int.eq_ofNat_of_zero_le h0
    obtain ⟨p, hp⟩ : ∃ p : ByteArray, p = ⟨(putN n).toArray⟩ := ⟨_, rfl⟩
    have hpl : p.data.toList = putN n := by rw [hp]
    have hps : p.size = (putN n).length := by rw [← hpl]; simp
    have hlen := putN_length n
    have cp : ∀ w, Calls Try.prog 16 #[.int .u64 n] w fun e w' => e = .returned (.string p) ∧ Below w.heap.size w w' := fun w => by rw [hp]; exact numPut_any n h1 w
    have cg : ∀ w, Calls Try.prog 17 #[.string (a1 ++ p ++ a2), .int .i64 a1.size] w fun e w' => e = .returned (.tuple #[.int .u64 n, .int .i64 (a1.size + p.size : Nat), .int .i64 0]) ∧ Below w.heap.size w w' := fun w => by
      have := numGet_any (a1 ++ p ++ a2) (a1.size : Nat) w (by unfold maxLen; rw [ByteArray.size_append, ByteArray.size_append]; omega)
      rw [back_get a1 p a2 n (by omega) hpl] at this
      exact this
    have cs : ∀ w, Calls Try.prog 18 #[.int .u64 n] w fun e w' => e = .returned (.int .i64 (p.size : Nat)) ∧ Below w.heap.size w w' := fun w => by rw [hps]; exact numSize_any n h1 w
    have hp11 : p.size ≤ 11 := by omega
    clear hlen hpl
    have Hps := Lib.hid hps; clear hps
    clear hp
    have Cp := Lib.hid cp; clear cp
    have Cg := Lib.hid cg; clear cg
    have Cs := Lib.hid cs; clear cs
    go_enter Try.func3, Try.ntmps3
    go_wp2_with (first
      | (go_at_call 16; (with_reducible refine (Cp.out _).mono ?_); rintro e wa ⟨rfl, hb1⟩)
      | (go_at_call 17; (with_reducible refine (Cg.out _).mono ?_); rintro e wb ⟨rfl, hb2⟩)
      | (go_at_call 18; (with_reducible refine (Cs.out _).mono ?_); rintro e wc ⟨rfl, hb3⟩)
      | (go_at_call 15; (with_reducible refine (awake_any _).mono ?_); rintro e wd ⟨rfl, hb4⟩))
    go_ret
    exact ⟨rfl, bt (bt (bt hb1 hb2) hb3) hb4⟩
  · by_cases h1000 : 1000 < a1.size
    · go_enter Try.func3, Try.ntmps3
      go_wp2_with (go_at_call 15; (with_reducible refine (awake_any _).mono ?_); rintro e w1 ⟨rfl, hb1⟩)
      go_ret
      exact ⟨rfl, hb1⟩
    · have h2 : 1000 < a2.size := by omega
      go_enter Try.func3, Try.ntmps3
      go_wp2_with (go_at_call 15; (with_reducible refine (awake_any _).mono ?_); rintro e w1 ⟨rfl, hb1⟩)
      go_ret
      exact ⟨rfl, hb1⟩

theorem only_get (s : ByteArray) (q : Int) (n p : Nat) (h : getN s.data.toList q = (n, p, 0)) :
    0 ≤ q ∧ q ≤ p ∧ p ≤ s.size ∧ n < 18446744073709551616 ∧ (s.extract q.toNat p).data.toList = putN n := by
  unfold getN at h
  by_cases hq : q < 0 ∨ q > s.data.toList.length
  · rw [if_pos hq] at h; simp at h
  · rw [if_neg hq] at h
    obtain ⟨k, h1, h2, h3, h4⟩ := getGo_only _ _ _ _ h
    have hl : s.data.toList.length = s.size := by simp
    rw [hl] at hq
    rw [List.length_drop, hl] at h2
    refine ⟨by omega, by omega, by omega, h3, ?_⟩
    rw [← h4, Lib.extract_data, h1, show q.toNat + k - q.toNat = k by omega]

theorem fail_get (s : ByteArray) (q : Int) (n p e : Nat) (h : getN s.data.toList q = (n, p, e)) (he : e ≠ 0) : n = 0 := by
  unfold getN at h
  split at h
  · simp at h; omega
  · have := getGo_bound (s.data.toList.drop q.toNat) q.toNat true 0 (by omega)
    rw [h] at this
    rcases this.2.2.2 with h1 | h1
    · exact absurd h1 he
    · exact h1.1

set_option maxRecDepth 100000 in
set_option maxHeartbeats 800000 in
theorem numOnly_walk (a0 : ByteArray) (a1 : Int) (w0 : a0.size ≤ maxLen) (w1 : (Lit.int .i64 a1).wf = true) (w : World) :
    Calls Try.prog 4 #[.string a0, .int .i64 a1] w fun e w' => e = .returned (.bool true) ∧ Below w.heap.size w w' := by
  obtain ⟨h0, h1⟩ := i64_bounds w1
  clear w1
  obtain ⟨⟨n, p, e⟩, hg⟩ : ∃ r, getN a0.data.toList a1 = r := ⟨_, rfl⟩
  have cg : ∀ w, Calls Try.prog 17 #[.string a0, .int .i64 a1] w fun e' w' => e' = .returned (.tuple #[.int .u64 n, .int .i64 p, .int .i64 e]) ∧ Below w.heap.size w w' := fun w => by
    have := numGet_any a0 a1 w w0
    rw [hg] at this
    exact this
  have Cg := Lib.hid cg; clear cg
  have Hg := Lib.hid hg; clear hg
  unfold maxLen at w0
  by_cases hc : a0.size ≤ 1000
  · by_cases he : e = 0
    · subst he
      obtain ⟨g1, g2, g3, g4, g5⟩ := only_get a0 a1 n p Hg.out
      obtain ⟨q, rfl⟩ := Int.eq_ofNat_of_zero_le g1
      have cp : ∀ w, Calls Try.prog 16 #[.int .u64 n] w fun e w' => e = .returned (.string (a0.extract q p)) ∧ Below w.heap.size w w' := fun w => by
        have := numPut_any n (by omega) w
        rw [← g5] at this
        exact this
      have Cp := Lib.hid cp; clear cp
      clear g5 Hg
      go_enter Try.func4, Try.ntmps4
      go_wp2_with (first
        | (go_at_call 17; (with_reducible refine (Cg.out _).mono ?_); rintro e wb ⟨rfl, hb1⟩)
        | (go_at_call 16; (with_reducible refine (Cp.out _).mono ?_); rintro e wa ⟨rfl, hb2⟩)
        | (go_at_call 15; (with_reducible refine (awake_any _).mono ?_); rintro e wd ⟨rfl, hb3⟩))
      refine wp_region_calm (by kernel_rfl) (by kernel_rfl) ?_
      repeat (first | go_big_quiet_skip | (go_big_quiet_want; go_big_quiet_op; first | go_big_quiet_on | (apply Exists.intro; refine ⟨fun Wq hq => ?_, ?_⟩; (first | (go_at_call 16; exact Calls.calm hq (Cp.out _)) | (go_at_call 15; exact Calls.calm hq (awake_any _))); go_big_quiet_on)))
      refine wpQuiet_nil ?_
      intro Wn hn
      go_wp2
      go_ret
      exact ⟨rfl, bt hb1 hn⟩
    · obtain rfl := fail_get a0 a1 n p e Hg.out he
      have he' : ((e : Int) != 0) = true := by simp; omega
      have He := Lib.hid he; clear he Hg
      go_enter Try.func4, Try.ntmps4
      go_wp2_with (first
        | (go_at_call 17; (with_reducible refine (Cg.out _).mono ?_); rintro e wb ⟨rfl, hb1⟩)
        | (go_at_call 15; (with_reducible refine (awake_any _).mono ?_); rintro e wd ⟨rfl, hb3⟩))
      go_ret
      exact ⟨rfl, bt hb1 hb3⟩
  · have h1000 : 1000 < a0.size := by omega
    clear Hg Cg
    go_enter Try.func4, Try.ntmps4
    go_wp2_with (go_at_call 15; (with_reducible refine (awake_any _).mono ?_); rintro e w1 ⟨rfl, hb1⟩)
    go_ret
    exact ⟨rfl, hb1⟩

set_option maxRecDepth 100000 in
set_option maxHeartbeats 800000 in
theorem numOrder_walk (a0 : Int) (a1 : Int) (w0 : (Lit.int .u64 a0).wf = true) (w1 : (Lit.int .u64 a1).wf = true) (w : World) :
    Calls Try.prog 5 #[.int .u64 a0, .int .u64 a1] w fun e w' => e = .returned (.bool true) ∧ Below w.heap.size w w' := by
  obtain ⟨h0, h1⟩ := u64_bounds w0
  obtain ⟨h2, h3⟩ := u64_bounds w1
  clear w0 w1
  obtain ⟨m, rfl⟩ := Int.eq_ofNat_of_zero_le h0
  obtain ⟨n, rfl⟩ := Int.eq_ofNat_of_zero_le h2
  obtain ⟨x, hx⟩ : ∃ x : ByteArray, x.data.toList = putN m := ⟨⟨(putN m).toArray⟩, rfl⟩
  obtain ⟨y, hy⟩ : ∃ y : ByteArray, y.data.toList = putN n := ⟨⟨(putN n).toArray⟩, rfl⟩
  have cx : ∀ w, Calls Try.prog 16 #[.int .u64 m] w fun e w' => e = .returned (.string x) ∧ Below w.heap.size w w' := fun w => by
    have := numPut_any m h1 w; rw [← hx] at this; exact this
  have cy : ∀ w, Calls Try.prog 16 #[.int .u64 n] w fun e w' => e = .returned (.string y) ∧ Below w.heap.size w w' := fun w => by
    have := numPut_any n h3 w; rw [← hy] at this; exact this
  have lx : x.size = (putN m).length := by rw [← hx]; simp
  have ly : y.size = (putN n).length := by rw [← hy]; simp
  have hlx := putN_length m
  have hly := putN_length n
  rw [← lx] at hlx
  rw [← ly] at hly
  have hord : x.size = y.size → (Op.bytesLess x.toList y.toList) = decide (m < n) := fun h => by
    have := putN_order m n (by omega) (by omega) (by rw [← lx, ← ly]; exact h)
    rw [← hx, ← hy] at this
    rw [ByteArray.toList_eq, ByteArray.toList_eq]; exact this
  have hlen : m < n → x.size ≤ y.size := fun h => by rw [lx, ly]; exact putN_len_mono m n (by omega)
  have hge : n < m → y.size ≤ x.size := fun h => by rw [lx, ly]; exact putN_len_mono n m (by omega)
  have hinj : ∀ k, k = min x.size y.size → m ≠ n → ((x.extract 0 k).toList == (y.extract 0 k).toList) = false := fun k hk h => by
    rw [beq_eq_false_iff_ne]
    intro e
    refine h (putN_take_inj m n (by omega) (by omega) k (by rw [hk, lx, ly]) ?_)
    rw [← hx, ← hy]
    rw [ByteArray.toList_eq, ByteArray.toList_eq, Lib.extract_data, Lib.extract_data] at e
    simpa using e
  have Cx := Lib.hid cx; clear cx
  have Cy := Lib.hid cy; clear cy
  have ex : ¬ x = ByteArray.empty := fun e => by rw [e] at hlx; simp at hlx
  have ey : ¬ y = ByteArray.empty := fun e => by rw [e] at hly; simp at hly
  have zx : ((x.size : Int) == 0) = false := by simp [ex]
  have zy : ((y.size : Int) == 0) = false := by simp [ey]
  by_cases hmn : m = n
  · subst hmn
    obtain rfl : x = y := by apply ByteArray.ext; apply Array.toList_inj.1; rw [hx, hy]
    have hb := hord rfl
    have hb : Op.bytesLess x.toList x.toList = false := by rw [hb]; simp
    clear hord hlen hge hinj lx ly hx hy Cy
    go_enter Try.func5, Try.ntmps5
    go_wp2_with fail
    refine (Cx.out _).mono ?_
    rintro e wa ⟨rfl, hb1⟩
    go_wp2_with fail
    refine (Cx.out _).mono ?_
    rintro e wb ⟨rfl, hb2⟩
    go_wp2
    refine wp_region_calm (by kernel_rfl) (by kernel_rfl) ?_
    repeat (first | go_big_quiet_skip | (go_big_quiet_want; go_big_quiet_op; first | go_big_quiet_on | (apply Exists.intro; refine ⟨fun Wq hq => ?_, ?_⟩; (first | (go_at_call 15; exact Calls.calm hq (awake_any _))); go_big_quiet_on)))
    refine wpQuiet_nil ?_
    intro Wn hn
    go_wp2
    go_ret
    exact ⟨rfl, bt (bt hb1 hb2) hn⟩
  · have Hinj := Lib.hid hinj; clear hinj
    have Hord := Lib.hid hord; clear hord
    clear lx ly hx hy
    have hmb : ((m : Int) == (n : Int)) = false := by simp; omega
    by_cases hlt : m < n
    · have hle := hlen hlt
      clear hlen
      have Hmn := Lib.hid hmn; clear hmn
      have he := Hinj.out x.size (by omega) Hmn.out
      rw [ByteArray.extract_zero_size] at he
      by_cases hs : x.size = y.size
      · have hbl : Op.bytesLess x.toList y.toList = true := by rw [Hord.out hs]; simp [hlt]
        have hs1 : y.size ≤ x.size := by omega
        have hsb : ((x.size : Int) == (y.size : Int)) = true := by simp; omega
        have Hs := Lib.hid hs; clear hs
        go_enter Try.func5, Try.ntmps5
        go_wp2_with fail
        refine (Cx.out _).mono ?_
        rintro e wa ⟨rfl, hb1⟩
        go_wp2_with fail
        refine (Cy.out _).mono ?_
        rintro e wb ⟨rfl, hb2⟩
        go_wp2
        refine wp_region_calm (by kernel_rfl) (by kernel_rfl) ?_
        repeat (first | go_big_quiet_skip | (go_big_quiet_want; go_big_quiet_op; first | go_big_quiet_on | (apply Exists.intro; refine ⟨fun Wq hq => ?_, ?_⟩; (first | (go_at_call 15; exact Calls.calm hq (awake_any _))); go_big_quiet_on)))
        refine wpQuiet_nil ?_
        intro Wn hn
        go_wp2
        go_ret
        exact ⟨rfl, bt (bt hb1 hb2) hn⟩
      · have hs1 : x.size < y.size := by omega
        have hsb : ((x.size : Int) == (y.size : Int)) = false := by simp; omega
        have Hs := Lib.hid hs; clear hs
        go_enter Try.func5, Try.ntmps5
        go_wp2_with fail
        refine (Cx.out _).mono ?_
        rintro e wa ⟨rfl, hb1⟩
        go_wp2_with fail
        refine (Cy.out _).mono ?_
        rintro e wb ⟨rfl, hb2⟩
        go_wp2
        refine wp_region_calm (by kernel_rfl) (by kernel_rfl) ?_
        repeat (first | go_big_quiet_skip | (go_big_quiet_want; go_big_quiet_op; first | go_big_quiet_on | (apply Exists.intro; refine ⟨fun Wq hq => ?_, ?_⟩; (first | (go_at_call 15; exact Calls.calm hq (awake_any _))); go_big_quiet_on)))
        refine wpQuiet_nil ?_
        intro Wn hn
        go_wp2
        go_ret
        exact ⟨rfl, bt (bt hb1 hb2) hn⟩
    · clear hlen
      have hlt2 : n < m := by omega
      have hle : y.size ≤ x.size := by have := hge hlt2; omega
      clear hlt
      have Hmn := Lib.hid hmn; clear hmn
      have he := Hinj.out y.size (by omega) Hmn.out
      rw [ByteArray.extract_zero_size] at he
      by_cases hs : x.size = y.size
      · have hbl : Op.bytesLess x.toList y.toList = false := by rw [Hord.out hs]; simp; omega
        have hs1 : x.size ≤ y.size := by omega
        have he2 := Hinj.out x.size (by omega) Hmn.out
        rw [ByteArray.extract_zero_size] at he2
        have hsb : ((x.size : Int) == (y.size : Int)) = true := by simp; omega
        have Hs := Lib.hid hs; clear hs
        go_enter Try.func5, Try.ntmps5
        go_wp2_with fail
        refine (Cx.out _).mono ?_
        rintro e wa ⟨rfl, hb1⟩
        go_wp2_with fail
        refine (Cy.out _).mono ?_
        rintro e wb ⟨rfl, hb2⟩
        go_wp2
        refine wp_region_calm (by kernel_rfl) (by kernel_rfl) ?_
        repeat (first | go_big_quiet_skip | (go_big_quiet_want; go_big_quiet_op; first | go_big_quiet_on | (apply Exists.intro; refine ⟨fun Wq hq => ?_, ?_⟩; (first | (go_at_call 15; exact Calls.calm hq (awake_any _))); go_big_quiet_on)))
        refine wpQuiet_nil ?_
        intro Wn hn
        go_wp2
        go_ret
        exact ⟨rfl, bt (bt hb1 hb2) hn⟩
      · have hs1 : y.size < x.size := by omega
        have hsb : ((x.size : Int) == (y.size : Int)) = false := by simp; omega
        have Hs := Lib.hid hs; clear hs
        go_enter Try.func5, Try.ntmps5
        go_wp2_with fail
        refine (Cx.out _).mono ?_
        rintro e wa ⟨rfl, hb1⟩
        go_wp2_with fail
        refine (Cy.out _).mono ?_
        rintro e wb ⟨rfl, hb2⟩
        go_wp2
        refine wp_region_calm (by kernel_rfl) (by kernel_rfl) ?_
        repeat (first | go_big_quiet_skip | (go_big_quiet_want; go_big_quiet_op; first | go_big_quiet_on | (apply Exists.intro; refine ⟨fun Wq hq => ?_, ?_⟩; (first | (go_at_call 15; exact Calls.calm hq (awake_any _))); go_big_quiet_on)))
        refine wpQuiet_nil ?_
        intro Wn hn
        go_wp2
        go_ret
        exact ⟨rfl, bt (bt hb1 hb2) hn⟩
end Go.Proofs.Ytbdaiflghgihcaa
