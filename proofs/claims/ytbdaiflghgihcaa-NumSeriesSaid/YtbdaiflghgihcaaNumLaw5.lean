/- The walks of NumSeries and NumKnown. -/
import Derived.Test.YtbdaiflghgihcaaNumLaw4
namespace Go.Proofs.Ytbdaiflghgihcaa
set_option linter.unusedVariables false
open Go.RowKit

theorem getN_at (pre rest : List UInt8) (n : Nat) (hn : n < 18446744073709551616) : getN (pre ++ (putN n ++ rest)) (pre.length : Nat) = (n, pre.length + (putN n).length, 0) := by
  unfold getN
  rw [if_neg (by simp; omega), show ((pre.length : Nat) : Int).toNat = pre.length by omega, List.drop_left, getGo_put n _ _ hn]
theorem intN_at (pre rest : List UInt8) (n : Nat) (m : Int) (hn : n < 18446744073709551616) (hm : (n : Int) ≤ m) : intN (pre ++ (putN n ++ rest)) (pre.length : Nat) m = ((n : Int), ((pre.length + (putN n).length : Nat) : Int), 0) := by
  unfold intN
  rw [getN_at pre rest n hn]
  simp; omega

theorem listGo_at (rest : List UInt8) : ∀ (zs : List Int) (pre : List UInt8) (acc : List Int), (∀ z ∈ zs, 0 ≤ z ∧ z < 18446744073709551616) →
    listGo (pre ++ ((zs.flatMap fun z => putN z.toNat) ++ rest)) zs.length (pre.length : Nat) acc = (acc ++ zs, ((pre.length + (zs.flatMap fun z => putN z.toNat).length : Nat) : Int), 0)
  | [], pre, acc, _ => by simp [listGo]
  | z :: zs, pre, acc, h => by
    obtain ⟨h1, h2⟩ := h z (by simp)
    have hz : (z.toNat : Int) = z := Int.toNat_of_nonneg h1
    rw [List.length_cons, listGo]
    have e : pre ++ (((z :: zs).flatMap fun z => putN z.toNat) ++ rest) = pre ++ (putN z.toNat ++ ((zs.flatMap fun z => putN z.toNat) ++ rest)) := by simp
    rw [e, getN_at pre _ z.toNat (by omega)]
    simp only [ne_eq, not_true_eq_false, if_false]
    have e2 : pre ++ (putN z.toNat ++ ((zs.flatMap fun z => putN z.toNat) ++ rest)) = (pre ++ putN z.toNat) ++ ((zs.flatMap fun z => putN z.toNat) ++ rest) := by simp
    have e3 : ((pre.length + (putN z.toNat).length : Nat) : Int) = (((pre ++ putN z.toNat).length : Nat) : Int) := by simp
    rw [e2, e3, listGo_at rest zs (pre ++ putN z.toNat) _ (fun y hy => h y (by simp [hy])), hz]
    simp; omega

theorem getListN_at (zs : List Int) (pre rest : List UInt8) (m : Int) (hz : ∀ z ∈ zs, 0 ≤ z ∧ z < 18446744073709551616) (hl : zs.length < 18446744073709551616) (hm : (zs.length : Int) ≤ m) :
    getListN (pre ++ (putListN zs ++ rest)) (pre.length : Nat) m = (zs, ((pre.length + (putListN zs).length : Nat) : Int), 0) := by
  unfold getListN putListN
  rw [List.append_assoc, intN_at pre _ zs.length m hl hm]
  simp only [ne_eq, not_true_eq_false, if_false]
  have e2 : pre ++ (putN zs.length ++ ((zs.flatMap fun z => putN z.toNat) ++ rest)) = (pre ++ putN zs.length) ++ ((zs.flatMap fun z => putN z.toNat) ++ rest) := by simp
  have e3 : ((pre.length + (putN zs.length).length : Nat) : Int) = (((pre ++ putN zs.length).length : Nat) : Int) := by simp
  rw [e2, e3, show ((zs.length : Nat) : Int).toNat = zs.length by omega, listGo_at rest zs _ [] hz]
  simp; omega

theorem getTextN_at (t pre rest : List UInt8) (m : Int) (hl : t.length < 18446744073709551616) (hm : (t.length : Int) ≤ m) :
    getTextN (pre ++ (putTextN t ++ rest)) (pre.length : Nat) m = (t, ((pre.length + (putTextN t).length : Nat) : Int), 0) := by
  unfold getTextN putTextN
  rw [List.append_assoc, intN_at pre _ t.length m hl hm]
  simp only [ne_eq, not_true_eq_false, if_false]
  have e2 : pre ++ (putN t.length ++ (t ++ rest)) = (pre ++ putN t.length) ++ (t ++ rest) := by simp
  have e3 : ((pre.length + (putN t.length).length : Nat) : Int) = (((pre ++ putN t.length).length : Nat) : Int) := by simp
  rw [e2, e3, if_neg (by simp; omega), show ((((pre ++ putN t.length).length : Nat) : Int)).toNat = (pre ++ putN t.length).length by omega, List.drop_left]
  simp; omega

theorem putListN_len (zs : List Int) (h : zs.length ≤ 100) : (putListN zs).length ≤ 2000 := by
  have := rpl_len zs zs.length (putListN zs) (by simp [RPl, putListN])
  omega

set_option maxRecDepth 100000 in
set_option maxHeartbeats 1600000 in
theorem numSeries_walk (a0 : Option Addr) (len0 cap0 : Nat) (z0 : List Int) (a1 : Option Addr) (len1 cap1 : Nat) (z1 : List Int) (a2 : ByteArray) (w : World) (w0 : IsRow .u64 w a0 len0 cap0 z0) (w1 : IsRow .u64 w a1 len1 cap1 z1) (w2 : a2.size ≤ maxLen) :
    Calls Try.prog 13 #[.slice a0 len0 cap0, .slice a1 len1 cap1, .string a2] w fun e w' => e = .returned (.bool true) ∧ Below w.heap.size w w' := by
  obtain ⟨xs, hxs, hx⟩ : ∃ zs : List Int, len0 = zs.length ∧ Row .u64 w a0 cap0 zs := ⟨_, row_of w0⟩
  subst hxs
  obtain ⟨ys, hys, hy⟩ : ∃ zs : List Int, len1 = zs.length ∧ Row .u64 w a1 cap1 zs := ⟨_, row_of w1⟩
  subst hys
  clear w0 w1
  have hcx := hx.2.1
  have hlx := hx.1
  have hcy := hy.2.1
  have hly := hy.1
  unfold maxLen at w2 hcx hcy
  by_cases hc : xs.length ≤ 100 ∧ ys.length ≤ 100 ∧ a2.size ≤ 1000
  · obtain ⟨c1, c2, c3⟩ := hc
    have hwx := hx.2.2.1
    have hwy := hy.2.2.1
    have hux : ∀ z ∈ xs, 0 ≤ z ∧ z < 18446744073709551616 := fun z hz => by have := u64_bounds (hwx z hz); omega
    have huy : ∀ z ∈ ys, 0 ≤ z ∧ z < 18446744073709551616 := fun z hz => by have := u64_bounds (hwy z hz); omega
    have al : a2.data.toList.length = a2.size := by simp
    obtain ⟨p, hp⟩ : ∃ p : ByteArray, p.data.toList = putListN xs := ⟨⟨(putListN xs).toArray⟩, rfl⟩
    obtain ⟨t, ht⟩ : ∃ t : ByteArray, t.data.toList = putTextN a2.data.toList := ⟨⟨(putTextN a2.data.toList).toArray⟩, rfl⟩
    obtain ⟨q, hq⟩ : ∃ q : ByteArray, q.data.toList = putListN ys := ⟨⟨(putListN ys).toArray⟩, rfl⟩
    have lp : p.size ≤ 2000 := by have := putListN_len xs c1; rw [← hp] at this; simpa using this
    have lq : q.size ≤ 2000 := by have := putListN_len ys c2; rw [← hq] at this; simpa using this
    have lt : t.size ≤ 2000 := by
      have h1 : (putTextN a2.data.toList).length = t.size := by rw [← ht]; simp
      have h2 := (putN_length a2.size).2
      unfold putTextN at h1; rw [List.length_append, al] at h1; omega
    have ep : p.data.toList.length = p.size := by simp
    have et : t.data.toList.length = t.size := by simp
    have eq : q.data.toList.length = q.size := by simp
    have es : (p ++ t ++ q).data.toList = p.data.toList ++ (t.data.toList ++ q.data.toList) := by simp
    have g1 : getListN (p ++ t ++ q).data.toList 0 100 = (xs, ((p.size : Nat) : Int), 0) := by
      have := getListN_at xs [] (t.data.toList ++ q.data.toList) 100 hux (by omega) (by omega)
      rw [es, hp]; simpa [← hp] using this
    have g2 : getTextN (p ++ t ++ q).data.toList (p.size : Nat) 1000 = (a2.data.toList, ((p.size + t.size : Nat) : Int), 0) := by
      have := getTextN_at a2.data.toList p.data.toList q.data.toList 1000 (by omega) (by omega)
      rw [← ht, ep, et] at this
      rw [es]; exact this
    have g3 : getListN (p ++ t ++ q).data.toList ((p.size + t.size : Nat) : Int) 100 = (ys, ((p.size + t.size + q.size : Nat) : Int), 0) := by
      have := getListN_at ys (p.data.toList ++ t.data.toList) [] 100 huy (by omega) (by omega)
      rw [← hq, List.append_nil, List.length_append, ep, et, eq] at this
      rw [es, ← List.append_assoc]; exact this
    have cl : ∀ w a c, Row .u64 w a c xs → Calls Try.prog 36 #[.slice a xs.length c] w fun e w' => e = .returned (.string p) ∧ Below w.heap.size w w' := fun w a c h => by
      have := numPutList_any a c xs w h (by omega); rw [← hp] at this; exact this
    have cm : ∀ w a c, Row .u64 w a c ys → Calls Try.prog 36 #[.slice a ys.length c] w fun e w' => e = .returned (.string q) ∧ Below w.heap.size w w' := fun w a c h => by
      have := numPutList_any a c ys w h (by omega); rw [← hq] at this; exact this
    have ct : ∀ w, Calls Try.prog 37 #[.string a2] w fun e w' => e = .returned (.string t) ∧ Below w.heap.size w w' := fun w => by
      have := numPutText_any a2 w (by omega); rw [← ht] at this; exact this
    have sz : (p ++ t ++ q).size ≤ 6000 := by rw [ByteArray.size_append, ByteArray.size_append]; omega
    have cx : ∀ w, Calls Try.prog 39 #[.string (p ++ t ++ q), .int .i64 0, .int .i64 100] w (GotList w (xs, ((p.size : Nat) : Int), 0)) := fun w => by
      rw [← g1]; exact numGetList_any _ 0 100 w (by omega) (by omega) (by omega) (by omega)
    have cy : ∀ w, Calls Try.prog 39 #[.string (p ++ t ++ q), .int .i64 ((p.size + t.size : Nat) : Int), .int .i64 100] w (GotList w (ys, ((p.size + t.size + q.size : Nat) : Int), 0)) := fun w => by
      rw [← g3]; exact numGetList_any _ _ 100 w (by omega) (by omega) (by omega) (by omega)
    have cg : ∀ w, Calls Try.prog 38 #[.string (p ++ t ++ q), .int .i64 ((p.size : Nat) : Int), .int .i64 1000] w fun e w' => e = .returned (.tuple #[.string a2, .int .i64 ((p.size + t.size : Nat) : Int), .int .i64 0]) ∧ Below w.heap.size w w' := fun w => by
      have := numGetText_any (p ++ t ++ q) ((p.size : Nat) : Int) 1000 w (by unfold maxLen; omega) (by omega) (by omega) (by omega)
      rw [g2] at this; exact this
    clear g1 g2 g3 es ep et eq al hp ht hq hux huy sz
    have Hx := Lib.hid hx; clear hx
    have Hy := Lib.hid hy; clear hy
    have Hwx := Lib.hid hwx; clear hwx
    have Hwy := Lib.hid hwy; clear hwy
    have Cl := Lib.hid cl; clear cl
    have Cm := Lib.hid cm; clear cm
    have Ct := Lib.hid ct; clear ct
    have Cx := Lib.hid cx; clear cx
    have Cy := Lib.hid cy; clear cy
    have Cg := Lib.hid cg; clear cg
    go_enter Try.func13, Try.ntmps13
    go_wp2_with fail
    refine (Cl.out _ _ _ Hx.out).mono ?_
    rintro e w1 ⟨rfl, hb1⟩
    go_wp2_with fail
    refine (Ct.out _).mono ?_
    rintro e w2 ⟨rfl, hb2⟩
    go_wp2_with fail
    refine (Cm.out _ _ _ (Hy.out.below (bt hb1 hb2))).mono ?_
    rintro e w3 ⟨rfl, hb3⟩
    go_wp2_with fail
    refine (Cx.out _).mono ?_
    rintro e w4 ⟨va, rfl, hva, hb4⟩
    obtain ⟨aa, ac, rfl, hra⟩ := row_of_owns rfl hva Hwx.out
    clear hva
    have Hra := Lib.hid hra; clear hra
    go_wp2_with fail
    refine (Cg.out _).mono ?_
    rintro e w5 ⟨rfl, hb5⟩
    go_wp2_with fail
    refine (Cy.out _).mono ?_
    rintro e w6 ⟨vb, rfl, hvb, hb6⟩
    obtain ⟨ba, bc, rfl, hrb⟩ := row_of_owns rfl hvb Hwy.out
    clear hvb
    have Hrb := Lib.hid hrb; clear hrb
    go_wp2_with fail
    have hb := bt (bt (bt (bt (bt hb1 hb2) hb3) hb4) hb5) hb6
    refine (sameNumbers_yes _ _ _ _ xs w6 (Hra.out.below (bt hb5 hb6)) (Hx.out.below hb)).mono ?_
    rintro e w7 ⟨rfl, hb7⟩
    go_wp2_with fail
    refine (sameNumbers_yes _ _ _ _ ys w7 (Hrb.out.below hb7) (Hy.out.below (bt hb hb7))).mono ?_
    rintro e w8 ⟨rfl, hb8⟩
    go_wp2_with (go_at_call 15; (with_reducible refine (awake_any _).mono ?_); rintro e w9 ⟨rfl, hb9⟩)
    go_ret
    exact ⟨rfl, bt (bt (bt hb hb7) hb8) hb9⟩
  · clear hx hy
    by_cases c1 : 100 < xs.length
    · go_enter Try.func13, Try.ntmps13
      go_wp2_with (go_at_call 15; (with_reducible refine (awake_any _).mono ?_); rintro e w1 ⟨rfl, hb1⟩)
      go_ret
      exact ⟨rfl, hb1⟩
    · by_cases c2 : 100 < ys.length
      · go_enter Try.func13, Try.ntmps13
        go_wp2_with (go_at_call 15; (with_reducible refine (awake_any _).mono ?_); rintro e w1 ⟨rfl, hb1⟩)
        go_ret
        exact ⟨rfl, hb1⟩
      · have c3 : 1000 < a2.size := by omega
        go_enter Try.func13, Try.ntmps13
        go_wp2_with (go_at_call 15; (with_reducible refine (awake_any _).mono ?_); rintro e w1 ⟨rfl, hb1⟩)
        go_ret
        exact ⟨rfl, hb1⟩
end Go.Proofs.Ytbdaiflghgihcaa
