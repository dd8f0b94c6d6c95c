/- The walks of packhorsekit's OwnNumbers and SameNumbers. -/
import Derived.Test.YtbdaiflghgihcaaNumList3
namespace Go.Proofs.Ytbdaiflghgihcaa
set_option linter.unusedVariables false
open Go.RowKit

theorem row_of_owns {k : IntKind} {w : World} {base : Nat} {e : TypeId} {v : Value} {n : Nat} {zs : List Int} (hn : zs.length = n) (h : w.ownsRow base e 1 v n (zs.map (Value.int k))) (hw : ∀ z ∈ zs, (Lit.int k z).wf = true) :
    ∃ a cap, v = .slice a zs.length cap ∧ Row k w a cap zs := by
  subst hn
  rcases h.2 with ⟨rfl, h0⟩ | ⟨g, cap, cur, rfl, hb, hg, hc, hm, hs, ht⟩
  · exact ⟨none, 0, by rw [h0], by omega, by unfold maxLen; omega, hw, fun _ => rfl, fun h => by omega⟩
  · refine ⟨_, cap, rfl, hc, hm, hw, by simp, fun _ => ⟨g, 0, rfl, (Array.getElem?_eq_some_iff.1 hg).1, fun i hi => ?_⟩⟩
    have h8 : (cur.toList.take (zs.length * 1))[i]? = some (.int k zs[i]) := by rw [ht]; simp [hi]
    rw [List.getElem?_take_of_lt (by omega), Array.getElem?_toList] at h8
    simp [World.cell?, hg, h8]

theorem own_empty (w : World) (e : TypeId) : (w.alloc (.cells #[] e)).ownsRow w.heap.size e 1 (.slice (some ⟨w.heap.size, 0, none⟩) 0 0) 0 [] :=
  ⟨rfl, .inr ⟨w.heap.size, 0, #[], rfl, Nat.le_refl _, heap_alloc_new w _, Nat.le_refl _, by unfold maxLen; omega, rfl, rfl⟩⟩

def sameN (xs ys : List Int) : Bool := decide (xs = ys)
theorem take_succ_eq {xs ys : List Int} {k : Nat} (h1 : k < xs.length) (h2 : k < ys.length) (h : xs.take k = ys.take k) (he : xs[k] = ys[k]) : xs.take (k + 1) = ys.take (k + 1) := by
  rw [List.take_succ_eq_append_getElem h1, List.take_succ_eq_append_getElem h2, h, he]

set_option maxRecDepth 100000 in
set_option maxHeartbeats 800000 in
theorem sameNumbers_any (a b : Option Addr) (ca cb : Nat) (xs ys : List Int) (w : World) (ha : Row .u64 w a ca xs) (hb : Row .u64 w b cb ys) :
    Calls Try.prog 43 #[.slice a xs.length ca, .slice b ys.length cb] w fun e w' => e = .returned (.bool (sameN xs ys)) ∧ Below w.heap.size w w' := by
  have a2 := ha.2.1
  have b2 := hb.2.1
  have a1 := ha.1
  have b1 := hb.1
  unfold maxLen at a2 b2
  have A4 := Lib.hid ha; clear ha
  have B4 := Lib.hid hb; clear hb
  by_cases hl : xs.length = ys.length
  · have hl1 : xs.length ≤ ys.length := by omega
    have hl2 : ys.length ≤ xs.length := by omega
    have Hl := Lib.hid hl; clear hl
    go_enter Try.func43, Try.ntmps43
    go_wp2
    go_loopw [5] (fun i wr => ∃ k : Nat, i = .int .i64 k ∧ k ≤ xs.length ∧ xs.take k = ys.take k ∧ Below w.heap.size w wr) (fun i _ => xs.length - (intOf i).toNat)
    case atStart => exact ⟨0, rfl, Nat.zero_le _, rfl, Below.refl _ _⟩
    case round =>
      obtain ⟨k, rfl, hk, he, hbel⟩ := hrel
      have He := Lib.hid he; clear he
      by_cases hlt : k < xs.length
      · have hlx : (k : Int) < (xs.length : Int) := by omega
        have hly : (k : Int) < (ys.length : Int) := by omega
        obtain ⟨ba, oa, rfl, _, hca⟩ := (A4.out.below hbel).2.2.2.2 (by omega)
        obtain ⟨bb, ob, rfl, _, hcb⟩ := (B4.out.below hbel).2.2.2.2 (by omega)
        have h1 := hca k hlt
        have h2 := hcb k (by omega)
        clear hca hcb
        obtain ⟨x, hx⟩ : ∃ x, x = xs[k] := ⟨_, rfl⟩
        obtain ⟨y, hy⟩ : ∃ y, y = ys[k]'(by omega) := ⟨_, rfl⟩
        rw [← hx] at h1
        rw [← hy] at h2
        have Hx := Lib.hid hx; clear hx
        have Hy := Lib.hid hy; clear hy
        by_cases hxy : x = y
        · have hb : (x != y) = false := by simp [hxy]
          have Hxy := Lib.hid hxy; clear hxy
          go_wp2
          go_quiet (fail)
          go_wp2
          go_roundw
          case rel => exact ⟨k + 1, by go_num, by omega, take_succ_eq hlt (by omega) He.out (by rw [← Hx.out, ← Hy.out]; exact Hxy.out), below_drewN hbel _⟩
          case measure => simp [intOf]; omega
        · have hb : (x != y) = true := by simp [hxy]
          have fin : sameN xs ys = false := by
            unfold sameN; rw [decide_eq_false_iff_not]; intro e; subst e
            exact hxy (Hx.out.trans Hy.out.symm)
          have Fin := Lib.hid fin; clear fin
          have Hxy := Lib.hid hxy; clear hxy
          go_wp2
          go_quiet (fail)
          go_wp2
          go_ret
          exact ⟨ret_bool Fin.out.symm, below_drewN hbel _⟩
      · have fin : sameN xs ys = true := by
          unfold sameN; rw [decide_eq_true_iff]
          have := He.out
          rwa [List.take_of_length_le (by omega), List.take_of_length_le (by omega)] at this
        have Fin := Lib.hid fin; clear fin
        go_wp2
        go_ret
        exact ⟨ret_bool Fin.out.symm, hbel⟩
  · have hb : ((xs.length : Int) != (ys.length : Int)) = true := by simp; omega
    have fin : sameN xs ys = false := by
      unfold sameN; rw [decide_eq_false_iff_not]; intro e; exact hl (by rw [e])
    have Fin := Lib.hid fin; clear fin
    have Hl := Lib.hid hl; clear hl
    go_enter Try.func43, Try.ntmps43
    go_wp2
    go_ret
    exact ⟨ret_bool Fin.out.symm, Below.refl _ _⟩

set_option maxRecDepth 100000 in
set_option maxHeartbeats 800000 in
theorem ownNumbers_any (a : Option Addr) (ca : Nat) (zs : List Int) (w : World) (ha : Row .u64 w a ca zs) (hz : zs.length ≤ 1000000) :
    Calls Try.prog 40 #[.slice a zs.length ca] w fun e w' => ∃ v, e = .returned v ∧ w'.ownsRow w.heap.size 22 1 v zs.length (zs.map (Value.int .u64)) ∧ Below w.heap.size w w' := by
  obtain ⟨i0, hi, hz0, hz1, hz2⟩ := info_parts Try.infoU64
  have Hi := Lib.hid hi; clear hi
  have Hz0 := Lib.hid hz0; clear hz0
  have Hz1 := Lib.hid hz1; clear hz1
  have Hz2 := Lib.hid hz2; clear hz2
  cases a with
  | none =>
    have h0 : zs.length = 0 := by have := ha.2.2.2.1 rfl; have := ha.1; omega
    obtain rfl : zs = [] := List.eq_nil_of_length_eq_zero h0
    have hc0 := ha.2.2.2.1 rfl
    subst hc0
    go_enter Try.func40, Try.ntmps40
    go_wp2_with fail
    go_ret
    exact ⟨_, rfl, own_empty w _, (Below.refl _ _).alloc (Nat.le_refl _) _⟩
  | some ad =>
    have hm := ha.2.1
    have hlc := ha.1
    unfold maxLen at hm
    have hrow := (ha.below ((Below.refl w.heap.size w).alloc (Nat.le_refl _) (.cells #[] 22))).2.2.2.2
    have hown := own_empty w 22
    have Hown := Lib.hid hown; clear hown
    have hnews : ∀ j u, (zs.map (Value.int .u64))[j]? = some u → (w.alloc (.cells #[] 22)).cell? (ad.add j) = some u := by
      intro j u hj
      obtain ⟨hjl, hju⟩ := List.getElem?_eq_some_iff.1 hj
      have hjl' : j < zs.length := by simpa using hjl
      obtain ⟨b, off, rfl2, _, hc⟩ := hrow (by omega)
      cases rfl2
      rw [Addr.add_lit, hc j hjl', ← hju]; simp
    have Hnews := Lib.hid hnews; clear hnews hrow ha
    go_enter Try.func40, Try.ntmps40
    go_wp2_with (at_builtin; refine wpList_append_own _ rfl _ _ 54 rfl w.heap.size 22 i0 (.int .u64 0) 1 8 Try.underlying54 Hi.out Hz0.out Hz1.out Hz2.out rfl (by decide) _ 0 [] rfl Hown.out ad zs.length ca (zs.map (Value.int .u64)) rfl (by simp) Hnews.out (by simp [Value.oneCell']) (by unfold maxLen; omega) (by omega) (by simp) ?_; intro v' w2 hown2 hgrow2 _)
    go_ret
    exact ⟨_, rfl, by simpa using hown2, ((Below.refl _ _).alloc (Nat.le_refl _) _).grown hgrow2 (by simp) (fun k e => by cases e; exact Nat.le_refl _)⟩
end Go.Proofs.Ytbdaiflghgihcaa
