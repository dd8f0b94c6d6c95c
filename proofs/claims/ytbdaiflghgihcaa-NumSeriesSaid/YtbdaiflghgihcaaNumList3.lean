/- The walks of GetList, of the program and of the reference. -/
import Derived.Test.YtbdaiflghgihcaaNumList2
namespace Go.Proofs.Ytbdaiflghgihcaa
set_option linter.unusedVariables false
open Go.RowKit

/-- What is read as so many numbers, one after the other. -/
def listGo (l : List UInt8) : Nat → Int → List Int → List Int × Int × Int
  | 0, p, acc => (acc, p, 0)
  | k + 1, p, acc => if (getN l p).2.2 ≠ 0 then ([], (getN l p).2.1, (getN l p).2.2) else listGo l k (getN l p).2.1 (acc ++ [((getN l p).1 : Int)])
def getListN (l : List UInt8) (q m : Int) : List Int × Int × Int :=
  if (intN l q m).2.2 ≠ 0 then ([], (intN l q m).2.1, (intN l q m).2.2) else listGo l (intN l q m).1.toNat (intN l q m).2.1 []

/-- The list that a call has made: a slice of its own that reads as the numbers. -/
def GotList (w : World) (r : List Int × Int × Int) (e : Ending) (w' : World) : Prop :=
  ∃ v, e = .returned (.tuple #[v, .int .i64 r.2.1, .int .i64 r.2.2]) ∧ w'.ownsRow w.heap.size 22 1 v r.1.length (r.1.map (Value.int .u64)) ∧ Below w.heap.size w w'

theorem getN_move (l : List UInt8) (p : Int) (n q : Nat) (h : getN l p = (n, q, 0)) : 0 ≤ p ∧ p + 1 ≤ q ∧ q ≤ l.length ∧ n < 18446744073709551616 := by
  unfold getN at h
  by_cases hq : p < 0 ∨ p > l.length
  · rw [if_pos hq] at h; simp at h
  · rw [if_neg hq] at h
    obtain ⟨k, h1, h2, h3, h4⟩ := getGo_only _ _ _ _ h
    have := (putN_length n).1
    rw [← h4, List.length_take] at this
    rw [List.length_drop] at h2
    omega

theorem Try.infoU64 : (Try.prog.info? 22).map (fun i => (i.zero, i.size, i.bytes)) = some (some (.int .u64 0), 1, 8) := by kernel_rfl

def RRgl (s : ByteArray) (w : World) (many : Nat) (R : List Int × Int × Int) (v nx i : Value) (wr : World) : Prop :=
  ∃ (acc : List Int) (p : Nat), i = .int .i64 acc.length ∧ nx = .int .i64 p ∧ acc.length ≤ many ∧ acc.length ≤ p ∧ p ≤ s.size ∧ listGo s.data.toList (many - acc.length) p acc = R ∧
    wr.ownsRow w.heap.size 22 1 v acc.length (acc.map (Value.int .u64)) ∧ Below w.heap.size w wr

theorem rrgl_step (s : ByteArray) (many : Nat) (R : List Int × Int × Int) (acc : List Int) (p n q : Nat) (hk : acc.length < many) (h : listGo s.data.toList (many - acc.length) p acc = R) (hg : getN s.data.toList p = (n, q, 0)) :
    listGo s.data.toList (many - (acc ++ [(n : Int)]).length) q (acc ++ [(n : Int)]) = R := by
  rw [show many - acc.length = (many - (acc.length + 1)) + 1 by omega, listGo, hg] at h
  simpa using h
theorem rrgl_fail (s : ByteArray) (many : Nat) (R : List Int × Int × Int) (acc : List Int) (p n q e : Nat) (hk : acc.length < many) (h : listGo s.data.toList (many - acc.length) p acc = R) (hg : getN s.data.toList p = (n, q, e)) (he : e ≠ 0) :
    R = ([], (q : Int), (e : Int)) := by
  rw [show many - acc.length = (many - (acc.length + 1)) + 1 by omega, listGo, hg] at h
  rw [← h]; simp [he]
theorem rrgl_end (s : ByteArray) (many : Nat) (R : List Int × Int × Int) (acc : List Int) (p : Int) (hk : acc.length = many) (h : listGo s.data.toList (many - acc.length) p acc = R) : R = (acc, p, 0) := by
  rw [show many - acc.length = 0 by omega, listGo] at h; exact h.symm

theorem rrgl_next (s : ByteArray) (w : World) (many : Nat) (R : List Int × Int × Int) (acc : List Int) (p n q : Nat) (hk : acc.length < many) (h : listGo s.data.toList (many - acc.length) p acc = R) (hg : getN s.data.toList p = (n, q, 0)) (hp : acc.length ≤ p)
    (v : Value) (wr : World) (v' : Value) (w2 : World) (hown : wr.ownsRow w.heap.size 22 1 v acc.length (acc.map (Value.int .u64))) (hb : Below w.heap.size w wr)
    (h2 : w2.ownsRow w.heap.size 22 1 v' (acc.length + 1) (acc.map (Value.int .u64) ++ [.int .u64 n])) (hg2 : (wr.alloc (.cells #[.int .u64 n] 22)).grownBy w2 v.ownBlock) :
    RRgl s w many R v' (.int .i64 q) (.int .i64 ((acc.length : Int) + 1)) w2 := by
  obtain ⟨m1, m2, m3, m4⟩ := getN_move _ _ _ _ hg
  rw [show s.data.toList.length = s.size by simp] at m3
  refine ⟨acc ++ [(n : Int)], q, by simp, rfl, by simp; omega, by simp; omega, m3, rrgl_step s many R acc p n q hk h hg, by simpa using h2, ?_⟩
  exact (hb.alloc hb.size _).grown hg2 (by simp; have := hb.size; omega) (fun k e => (hown.lt k e).1)

theorem fin_list {w w' : World} {R : List Int × Int × Int} {v : Value} {a b : Int} (hb : Below w.heap.size w w') (hv : w'.ownsRow w.heap.size 22 1 v R.1.length (R.1.map (Value.int .u64))) (ha : a = R.2.1) (hc : b = R.2.2) :
    GotList w R (.returned (.tuple #[v, .int .i64 a, .int .i64 b])) w' := by
  subst ha; subst hc; exact ⟨v, rfl, hv, hb⟩
theorem fin_none {w w' : World} {R : List Int × Int × Int} {a b : Int} (hb : Below w.heap.size w w') (hR : R = ([], a, b)) : GotList w R (.returned (.tuple #[.slice none 0 0, .int .i64 a, .int .i64 b])) w' := by
  subst hR; exact ⟨_, rfl, World.ownsRow_nil _ _ _ _, hb⟩

set_option maxRecDepth 100000 in
set_option maxHeartbeats 1600000 in
theorem refGetList_any (s : ByteArray) (q m : Int) (w : World) (hs : s.size ≤ 1000000) (hq1 : -9223372036854775808 ≤ q) (hq2 : q ≤ 9223372036854775807) (hm2 : m ≤ 9223372036854775807) :
    Calls Try.prog 44 #[.string s, .int .i64 q, .int .i64 m] w (GotList w (getListN s.data.toList q m)) := by
  have hsm : s.size ≤ maxLen := by unfold maxLen; omega
  obtain ⟨⟨n, p, e⟩, hg⟩ : ∃ r, intN s.data.toList q m = r := ⟨_, rfl⟩
  have hok := intN_ok s.data.toList q m n p
  have cg : ∀ w, Calls Try.prog 23 #[.string s, .int .i64 q, .int .i64 m] w fun e' w' => e' = .returned (.tuple #[.int .i64 n, .int .i64 p, .int .i64 e]) ∧ w = w' := fun w => by
    have := refInt_any s q m w hsm hq1 hq2 hm2
    rw [hg] at this
    exact this
  have hl : s.data.toList.length = s.size := by simp
  obtain ⟨R, hR⟩ : ∃ R, R = getListN s.data.toList q m := ⟨_, rfl⟩
  rw [← hR]
  obtain ⟨i0, hi, hz0, hz1, hz2⟩ := info_parts Try.infoU64
  have Hi := Lib.hid hi; clear hi
  have Hz0 := Lib.hid hz0; clear hz0
  have Hz1 := Lib.hid hz1; clear hz1
  have Hz2 := Lib.hid hz2; clear hz2
  have Cg := Lib.hid cg; clear cg
  have Hg := Lib.hid hg; clear hg
  by_cases he : e = 0
  · subst he
    obtain ⟨o1, o2, o3, o4⟩ := hok Hg.out
    rw [hl] at o4
    obtain ⟨n, rfl⟩ := Int.eq_ofNat_of_zero_le o1
    obtain ⟨p, rfl⟩ := Int.eq_ofNat_of_zero_le o3
    clear hok o1 o3
    have hst : listGo s.data.toList n p [] = R := by rw [hR]; unfold getListN; rw [Hg.out]; simp
    clear hR hl
    have Hst := Lib.hid hst; clear hst
    have Hsm := Lib.hid hsm; clear hsm
    go_enter Try.func44, Try.ntmps44
    go_wp2_with (go_at_call 23; (with_reducible refine (Cg.out _).mono ?_); rintro e wb ⟨rfl, rfl⟩)
    go_loopw [10, 12, 13] (fun nx v i wr => RRgl s w n R v nx i wr) (fun _ _ i _ => n - (intOf i).toNat)
    case atStart => exact ⟨[], p, rfl, rfl, Nat.zero_le _, Nat.zero_le _, by omega, Hst.out, World.ownsRow_nil _ _ _ _, Below.refl _ _⟩
    case round =>
      obtain ⟨acc, p', rfl, rfl, hk, hkp, hps, hgo, hown, hb⟩ := hrel
      have Hgo := Lib.hid hgo; clear hgo
      have Hown := Lib.hid hown; clear hown
      by_cases hlt : acc.length < n
      · obtain ⟨⟨x, y, z⟩, hxyz⟩ : ∃ r, getN s.data.toList (p' : Int) = r := ⟨_, rfl⟩
        have cx : ∀ w, Calls Try.prog 21 #[.string s, .int .i64 p'] w fun e' w' => e' = .returned (.tuple #[.int .u64 x, .int .i64 y, .int .i64 z]) ∧ w = w' := fun w => by
          have := refGet_any s p' w Hsm.out
          rw [hxyz] at this
          exact this
        have Cx := Lib.hid cx; clear cx
        have Hx := Lib.hid hxyz; clear hxyz
        by_cases hz : z = 0
        · subst hz
          obtain ⟨m1, m2, m3, m4⟩ := getN_move _ _ _ _ Hx.out
          rw [show s.data.toList.length = s.size by simp] at m3
          have fin := fun v' w2 => rrgl_next s w n R acc p' x y hlt Hgo.out Hx.out hkp _ wr v' w2 Hown.out hb
          have Fin := Lib.hid fin; clear fin
          go_wp2_with (first
            | (go_at_call 21; (with_reducible refine (Cx.out _).mono ?_); rintro e wb ⟨rfl, rfl⟩)
            | (at_builtin; refine wpList_append_own _ rfl _ _ 54 rfl w.heap.size 22 i0 (.int .u64 0) 1 8 Try.underlying54 Hi.out Hz0.out Hz1.out Hz2.out rfl (by decide) _ acc.length _ rfl (Hown.out.alloc _) ⟨wr.heap.size, 0, none⟩ 1 1 [.int .u64 x] rfl rfl (cell_one_new _ _ _) (by simp [Value.oneCell']) (by unfold maxLen; omega) (by omega) (by have := hb.size; simp; omega) ?_; intro v' w2 hown2 hgrow2 _))
          go_roundw
          case rel => exact Fin.out _ _ hown2 hgrow2
          case measure => simp [intOf]; omega
        · have he' : ((z : Int) != 0) = true := by simp; omega
          have fin := rrgl_fail s n R acc p' x y z hlt Hgo.out Hx.out hz
          have Fin := Lib.hid fin; clear fin
          have Hz := Lib.hid hz; clear hz
          go_wp2_with (go_at_call 21; (with_reducible refine (Cx.out _).mono ?_); rintro e wb ⟨rfl, rfl⟩)
          go_ret3
          exact fin_none hb Fin.out
      · have fin := rrgl_end s n R acc p' (by omega) Hgo.out
        have Fin := Lib.hid fin; clear fin
        go_wp2
        go_ret3
        exact fin_list hb (by rw [Fin.out]; exact Hown.out) (by rw [Fin.out]) (by rw [Fin.out])
  · have hr : R = ([], p, e) := by rw [hR]; unfold getListN; rw [Hg.out]; simp [he]
    have Hr := Lib.hid hr; clear hr
    have he' : (e != 0) = true := by simp [he]
    have He := Lib.hid he; clear he hok hR
    go_enter Try.func44, Try.ntmps44
    go_wp2_with (go_at_call 23; (with_reducible refine (Cg.out _).mono ?_); rintro e wb ⟨rfl, rfl⟩)
    go_ret3
    exact fin_none (Below.refl _ _) Hr.out

def lenV : Value → Nat
  | .slice _ n _ => n
  | _ => 0
theorem owns_shape {w : World} {base : Nat} {e : TypeId} {size : Nat} {v : Value} {n : Nat} {xs : List Value} (h : w.ownsRow base e size v n xs) : ∃ a cap, v = .slice a n cap := by
  rcases h.2 with ⟨rfl, rfl⟩ | ⟨g, cap, _, rfl, _⟩
  · exact ⟨_, _, rfl⟩
  · exact ⟨_, _, rfl⟩

def RNgl (s : ByteArray) (w : World) (many : Nat) (R : List Int × Int × Int) (v nx er : Value) (wr : World) : Prop :=
  (∃ acc : List Int, er = .int .i64 0 ∧ RRgl s w many R v nx (.int .i64 acc.length) wr) ∨ (∃ y z : Int, er = .int .i64 z ∧ z ≠ 0 ∧ nx = .int .i64 y ∧ R = ([], y, z) ∧ Below w.heap.size w wr)

set_option maxRecDepth 100000 in
set_option maxHeartbeats 1600000 in
theorem numGetList_any (s : ByteArray) (q m : Int) (w : World) (hs : s.size ≤ 1000000) (hq1 : -9223372036854775808 ≤ q) (hq2 : q ≤ 9223372036854775807) (hm2 : m ≤ 9223372036854775807) :
    Calls Try.prog 39 #[.string s, .int .i64 q, .int .i64 m] w (GotList w (getListN s.data.toList q m)) := by
  have hsm : s.size ≤ maxLen := by unfold maxLen; omega
  obtain ⟨⟨n, p, e⟩, hg⟩ : ∃ r, intN s.data.toList q m = r := ⟨_, rfl⟩
  have hok := intN_ok s.data.toList q m n p
  have cg : ∀ w, Calls Try.prog 22 #[.string s, .int .i64 q, .int .i64 m] w fun e' w' => e' = .returned (.tuple #[.int .i64 n, .int .i64 p, .int .i64 e]) ∧ Below w.heap.size w w' := fun w => by
    have := numInt_any s q m w hsm hq1 hq2 hm2
    rw [hg] at this
    exact this
  have hl : s.data.toList.length = s.size := by simp
  obtain ⟨R, hR⟩ : ∃ R, R = getListN s.data.toList q m := ⟨_, rfl⟩
  rw [← hR]
  obtain ⟨i0, hi, hz0, hz1, hz2⟩ := info_parts Try.infoU64
  have Hi := Lib.hid hi; clear hi
  have Hz0 := Lib.hid hz0; clear hz0
  have Hz1 := Lib.hid hz1; clear hz1
  have Hz2 := Lib.hid hz2; clear hz2
  have Cg := Lib.hid cg; clear cg
  have Hsm := Lib.hid hsm; clear hsm
  have hst : ∀ wb, Below w.heap.size w wb → RNgl s w n.toNat R (.slice none 0 0) (.int .i64 p) (.int .i64 e) wb := by
    intro wb hb
    by_cases he : e = 0
    · subst he
      obtain ⟨o1, o2, o3, o4⟩ := hok hg
      rw [hl] at o4
      obtain ⟨p, rfl⟩ := Int.eq_ofNat_of_zero_le o3
      exact .inl ⟨[], rfl, [], p, rfl, rfl, Nat.zero_le _, Nat.zero_le _, by omega, by rw [hR]; unfold getListN; rw [hg]; simp, World.ownsRow_nil _ _ _ _, hb⟩
    · exact .inr ⟨p, e, rfl, he, rfl, by rw [hR]; unfold getListN; rw [hg]; simp [he], hb⟩
  have hn0 : e = 0 → 0 ≤ n := fun he => by subst he; exact (hok hg).1
  have Hst := Lib.hid hst; clear hst
  have Hn0 := Lib.hid hn0; clear hn0
  clear hok hR hl hg
  go_enter Try.func39, Try.ntmps39
  go_wp2_with (go_at_call 22; (with_reducible refine (Cg.out _).mono ?_); rintro e wb ⟨rfl, hb0⟩)
  go_loopw [6, 7, 8] (fun v nx er wr => RNgl s w n.toNat R v nx er wr) (fun v _ er _ => if intOf er = 0 then n.toNat + 1 - lenV v else 0)
  case atStart => exact Hst.out _ hb0
  case round =>
    rcases hrel with ⟨_, rfl, acc, p', hi0, rfl, hk, hkp, hps, hgo, hown, hb⟩ | ⟨y, z, rfl, hz, rfl, hR, hb⟩
    · clear hi0
      have Hgo := Lib.hid hgo; clear hgo
      obtain ⟨va, vc, rfl⟩ := owns_shape hown
      have Hown := Lib.hid hown; clear hown
      by_cases hlt : acc.length < n.toNat
      · have hlt' : (acc.length : Int) < n := by omega
        obtain ⟨⟨x, y, z⟩, hxyz⟩ : ∃ r, getN s.data.toList (p' : Int) = r := ⟨_, rfl⟩
        have cx : ∀ w, Calls Try.prog 17 #[.string s, .int .i64 p'] w fun e' w' => e' = .returned (.tuple #[.int .u64 x, .int .i64 y, .int .i64 z]) ∧ Below w.heap.size w w' := fun w => by
          have := numGet_any s p' w Hsm.out
          rw [hxyz] at this
          exact this
        have Cx := Lib.hid cx; clear cx
        have Hx := Lib.hid hxyz; clear hxyz
        by_cases hz : z = 0
        · subst hz
          obtain ⟨m1, m2, m3, m4⟩ := getN_move _ _ _ _ Hx.out
          rw [show s.data.toList.length = s.size by simp] at m3
          go_wp2_with fail
          refine (Cx.out _).mono ?_
          rintro e w1 ⟨rfl, hb1⟩
          have hown1 : w1.ownsRow w.heap.size 22 1 _ acc.length (acc.map (Value.int .u64)) := Hown.out.kept (row := none) ⟨hb1.os, hb1.tape, hb1.output, hb1.size, fun k hk _ => hb1.block k hk⟩ (by
            cases hvo : (Value.slice va acc.length vc).ownBlock with
            | none => exact .inl rfl
            | some k => exact .inr (by simp))
          have Hown1 := Lib.hid hown1; clear hown1
          have hbb := bt hb hb1
          have fin := fun v' w2 => rrgl_next s w n.toNat R acc p' x y hlt Hgo.out Hx.out hkp _ w1 v' w2 Hown1.out hbb
          have Fin := Lib.hid fin; clear fin
          go_wp2_with (at_builtin; refine wpList_append_own _ rfl _ _ 54 rfl w.heap.size 22 i0 (.int .u64 0) 1 8 Try.underlying54 Hi.out Hz0.out Hz1.out Hz2.out rfl (by decide) _ acc.length _ rfl (Hown1.out.alloc _) ⟨w1.heap.size, 0, none⟩ 1 1 [.int .u64 x] rfl rfl (cell_one_new _ _ _) (by simp [Value.oneCell']) (by unfold maxLen; omega) (by omega) (by have := hbb.size; simp; omega) ?_; intro v' w2 hown2 hgrow2 _)
          obtain ⟨va2, vc2, rfl⟩ := owns_shape hown2
          go_roundw
          case rel => exact .inl ⟨acc ++ [(x : Int)], rfl, by simpa using Fin.out _ _ hown2 hgrow2⟩
          case measure => simp [intOf, lenV]; omega
        · have he' : ((z : Int) == 0) = false := by simp; omega
          have fin := rrgl_fail s n.toNat R acc p' x y z hlt Hgo.out Hx.out hz
          have Fin := Lib.hid fin; clear fin
          have Hz := Lib.hid hz; clear hz
          go_wp2_with (go_at_call 17; (with_reducible refine (Cx.out _).mono ?_); rintro e w1 ⟨rfl, hb1⟩)
          go_roundw
          case rel => exact .inr ⟨y, z, rfl, by have := Hz.out; omega, rfl, Fin.out, bt hb hb1⟩
          case measure => have := Hz.out; simp [intOf, lenV, this]; omega
      · have hlt' : ¬ (acc.length : Int) < n := by omega
        have fin := rrgl_end s n.toNat R acc p' (by omega) Hgo.out
        have Fin := Lib.hid fin; clear fin
        go_wp2
        go_ret3
        exact fin_list hb (by rw [Fin.out]; exact Hown.out) (by rw [Fin.out]) (by rw [Fin.out])
    · have he' : (z == 0) = false := by simp [hz]
      have he2 : (z != 0) = true := by simp [hz]
      have Hz := Lib.hid hz; clear hz
      have HR := Lib.hid hR; clear hR
      go_wp2
      go_ret3
      exact fin_none hb HR.out
end Go.Proofs.Ytbdaiflghgihcaa
