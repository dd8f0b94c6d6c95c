/- Parts of a proof, printed by a program of mine out of my texts: Bytes, NumMath, NumRef, NumPut, NumPut2, NumRefGet, NumGet, NumInt, NumText. -/
import Derived.Lib.FrozenHead
import Derived.Lib.AppendStr
import Derived.WalkKit
import Derived.Lib.Strings
import Derived.Test.YthfmkkkdjgkaoaaGreatDoorMA
set_option linter.unusedSimpArgs false
set_option linter.unusedVariables false
namespace Go.Proofs.YthfmkkkdjgkaoaaGreatDoor
open Go.RowKit
def Free (cur : Array Value) (fz : Nat × Nat) : Prop := ∀ i, i < cur.size → ¬ (fz.1 ≤ i ∧ i < fz.2)
def OwnsB (w : World) (base : Nat) (e : TypeId) (v : Value) (g : Nat) (l : List UInt8) : Prop :=
  ∃ cap cur fz, v = .slice (some ⟨g, 0, none⟩) l.length cap ∧ base ≤ g ∧ w.heap[g]? = some (.cells cur e fz) ∧ Free cur fz ∧ l.length ≤ cap ∧ cap ≤ maxLen ∧ cur.size = cap ∧
    cur.toList.take l.length = l.map fun b => Value.int .u8 b.toNat
theorem OwnsB.lt {w : World} {base : Nat} {e : TypeId} {v : Value} {g : Nat} {l : List UInt8} (h : OwnsB w base e v g l) : g < w.heap.size := by
  obtain ⟨cap, cur, fz, _, _, hg, _⟩ := h
  exact (Array.getElem?_eq_some_iff.1 hg).1
theorem OwnsB.kept {w w' : World} {base : Nat} {e : TypeId} {v : Value} {g : Nat} {l : List UInt8} (h : OwnsB w base e v g l) (hk : w'.heap[g]? = w.heap[g]?) : OwnsB w' base e v g l := by
  obtain ⟨cap, cur, fz, h1, h2, hg, h3⟩ := h
  exact ⟨cap, cur, fz, h1, h2, hk.trans hg, h3⟩
theorem OwnsB.below {w w' : World} {base : Nat} {e : TypeId} {v : Value} {g : Nat} {l : List UInt8} (h : OwnsB w base e v g l) (hb : Below w.heap.size w w') : OwnsB w' base e v g l := h.kept (hb.block g h.lt)
theorem OwnsB.cell {w : World} {base : Nat} {e : TypeId} {v : Value} {g : Nat} {l : List UInt8} (h : OwnsB w base e v g l) (j : Nat) (hj : j < l.length) : w.cell? ⟨g, j, none⟩ = some (.int .u8 (l[j].toNat : Int)) := by
  obtain ⟨cap, cur, fz, h1, h2, hg, h3, h4, h5, h6, h7⟩ := h
  have h8 : (cur.toList.take l.length)[j]? = some (.int .u8 (l[j].toNat : Int)) := by rw [h7]; simp [hj]
  rw [List.getElem?_take_of_lt hj, Array.getElem?_toList] at h8
  simp [World.cell?, hg, h8]
end Go.Proofs.YthfmkkkdjgkaoaaGreatDoor
namespace Go.Proofs.YthfmkkkdjgkaoaaGreatDoor
def hi : Nat → Nat → List UInt8
  | 0, _ => []
  | k + 1, n => if n = 0 then [] else hi k (n / 128) ++ [UInt8.ofNat (128 + n % 128)]
def putN (n : Nat) : List UInt8 := hi 10 (n / 128) ++ [UInt8.ofNat (n % 128)]
theorem hi_zero (k : Nat) : hi k 0 = [] := by cases k <;> simp [hi]
theorem hi_length (k n : Nat) : (hi k n).length ≤ k := by
  induction k generalizing n with
  | zero => simp [hi]
  | succ k ih =>
    unfold hi; split
    · simp
    · have := ih (n / 128); simp; omega
theorem hi_fuel (k j n : Nat) (h : n < 128 ^ k) (h' : n < 128 ^ j) : hi k n = hi j n := by
  induction k generalizing j n with
  | zero => simp at h; subst h; simp [hi_zero]
  | succ k ih =>
    cases j with
    | zero => simp at h'; subst h'; simp [hi_zero]
    | succ j =>
      unfold hi
      split
      · rfl
      · rw [ih j (n / 128) (by rw [Nat.div_lt_iff_lt_mul (by omega)]; rw [Nat.pow_succ] at h; exact h) (by rw [Nat.div_lt_iff_lt_mul (by omega)]; rw [Nat.pow_succ] at h'; exact h')]
theorem hi_step (k n : Nat) (h : n ≠ 0) (hk : n < 128 ^ k) : hi k n = hi k (n / 128) ++ [UInt8.ofNat (128 + n % 128)] := by
  cases k with
  | zero => simp at hk; omega
  | succ k =>
    rw [hi_fuel (k + 1) (k + 2) n hk (Nat.lt_of_lt_of_le hk (Nat.pow_le_pow_right (by omega) (by omega)))]
    rw [hi]
    simp [h]
theorem putN_length (n : Nat) : 1 ≤ (putN n).length ∧ (putN n).length ≤ 11 := by
  unfold putN; have := hi_length 10 (n / 128); simp; omega
theorem ofNat_toNat (n : Nat) (h : n < 256) : (UInt8.ofNat n).toNat = n := by rw [UInt8.toNat_ofNat']; omega
end Go.Proofs.YthfmkkkdjgkaoaaGreatDoor
namespace Go.Proofs.YthfmkkkdjgkaoaaGreatDoor
open Go.RowKit
theorem size_start (n : Nat) : 1 + (hi 10 (n / 128)).length = (putN n).length := by unfold putN; simp; omega
theorem put_start (n : Nat) (b : UInt8) (hb : b = UInt8.ofNat (n % 128)) : hi 10 (n / 128) ++ [b] = putN n := by subst hb; rfl
theorem put_step (m : Nat) (l L : List UInt8) (h : m ≠ 0) (hm : m < 18446744073709551616) (he : hi 10 m ++ l = L) : hi 10 (m / 128) ++ (UInt8.ofNat (128 + m % 128) :: l) = L := by
  rw [hi_step 10 m h (by omega)] at he; rw [← he]; simp
set_option maxRecDepth 100000 in
set_option maxHeartbeats 400000 in
theorem refPut_any (n : Nat) (w : World) (hn : (n : Int) ≤ 18446744073709551615) :
    Calls Tryz.prog 97 #[.int .u64 n] w fun e w' => e = .returned (bstr (putN n)) ∧ Below w.heap.size w w' := by
  have hob := fun x w => one_byte (P := Tryz.prog) Tryz.underlying85 Tryz.underlying5 Tryz.underlying9 x w
  have h0 := put_start n _ rfl
  have H0 := Lib.hid h0; clear h0
  go_enter Tryz.func97, Tryz.ntmps97
  go_wp2
  go_loopw [0, 3] (fun a s wr => ∃ (m : Nat) (l : List UInt8), a = .int .u64 m ∧ s = bstr l ∧ m ≤ n ∧ hi 10 m ++ l = putN n ∧ Below w.heap.size w wr) (fun a _ _ => (intOf a).toNat)
  case atStart => exact ⟨n / 128, [UInt8.ofNat (n % 128)], by go_num, by simp [bstr], by omega, H0.out, (Below.refl _ _).alloc (Nat.le_refl _) _⟩
  case round =>
    obtain ⟨m, l, rfl, hs, hm, he, hb⟩ := hrel
    obtain rfl := hs
    have hl : l.length ≤ 11 := by have := putN_length n; rw [← he] at this; simp at this; omega
    have He := Lib.hid he; clear he
    by_cases h : m = 0
    · subst h
      unfold bstr
      go_wp2
      go_ret
      exact ⟨ret_str (by have := He.out; rw [hi_zero] at this; simpa using this), hb⟩
    · have h1 : 1 ≤ m := by omega
      unfold bstr
      go_wp2
      go_roundw
      case rel =>
        refine ⟨m / 128, UInt8.ofNat (128 + m % 128) :: l, by go_num, ?_, by omega, put_step m l _ h (by omega) He.out, hb.trans ((Below.refl _ _).alloc hb.size _)⟩
        exact vstr (by simp)
      case measure => simp [intOf]; omega
end Go.Proofs.YthfmkkkdjgkaoaaGreatDoor
namespace Go.Proofs.YthfmkkkdjgkaoaaGreatDoor
open Go.RowKit
attribute [local go_sem] Oper.semAt_some
def lead (n k : Nat) : Nat := n / 128 ^ k
theorem lead_succ (n k : Nat) : lead n (k + 1) = lead n k / 128 := by unfold lead; rw [Nat.pow_succ, Nat.div_div_eq_div_mul]
theorem lead_zero (n : Nat) : lead n 0 = n := by simp [lead]
theorem lead_le (n k : Nat) : lead n k ≤ n := Nat.div_le_self _ _
theorem hi_len_lead (n k : Nat) (hn : n < 18446744073709551616) (hk : k + (hi 10 (lead n k / 128)).length + 1 = (putN n).length) (h : 128 ≤ lead n k) :
    k + 1 + (hi 10 (lead n (k + 1) / 128)).length + 1 = (putN n).length := by
  have := lead_le n k
  rw [hi_step 10 (lead n k / 128) (by omega) (by omega)] at hk
  rw [lead_succ]; simp at hk; omega
def encs (n k : Nat) : Array Value := #[.int .i64 k, .int .u8 ((lead n k : Int) % 128)]
set_option maxRecDepth 100000 in
set_option maxHeartbeats 1000000 in
theorem groups1_in (F : Fence) (n : Nat) (hf : F.fn 119) (hro : F.round = none) (hn : 1 ≤ n) (Bn x : Nat) (hx : (x : Int) ≤ 18446744073709551615) (l : Nat) (J : Nat → World → Prop) (W : World)
    (hJ : ∀ k W v, J k W → J k (W.setCell ⟨Bn, 0, none⟩ v))
    (hY : ∀ k W1, J k W1 → k < (putN x).length → YieldAt F (n - 1) Tryz.prog l (encs x k) W1 fun e W' => e = .returned (.bool true) ∧ J (k + 1) W' ∧ W'.heap[Bn]? = W1.heap[Bn]?)
    (h0 : J 0 W) (hB : Boxed W Bn 33 (.int .u64 x)) :
    CallsIn F n Tryz.prog 119 (#[.func (.yield l) #[] #[]] ++ #[.pointer (some ⟨Bn, 0, none⟩)]) W fun e W' => (∃ v, e = .returned v) ∧ J (putN x).length W' := by
  have hlen := putN_length x
  refine callsIn_of_wp Tryz.func119 rfl hf ?_ hro
  simp only [Tryz.ntmps119, List.size_toArray, List.length_cons, List.length_nil, Nat.reduceAdd, Nat.reduceSub, Array.replicate_succ, Array.replicate_zero, List.push_toArray, List.append_toArray, List.nil_append, List.cons_append]
  gi_wp2
  gi_loopw [3] (fun i wr => ∃ k : Nat, i = .int .i64 k ∧ k + (hi 10 (lead x k / 128)).length + 1 = (putN x).length ∧ J k wr ∧ Boxed wr Bn 33 (.int .u64 (lead x k)))
    (fun i _ => 11 - (intOf i).toNat)
  case atStart => exact ⟨0, rfl, by rw [lead_zero]; have := size_start x; omega, h0, by rw [lead_zero]; exact hB⟩
  case round =>
    obtain ⟨k, rfl, hk, hJk, hb⟩ := hrel
    have hkl : k < (putN x).length := by omega
    have hll := lead_le x k
    obtain ⟨fn, tmps, assign, body, hy, hR⟩ := hY k wr hJk hkl
    unfold encs at hy
    have hc := hb.cell
    have hfr := hb.frozen
    have Hk := Lib.hid hk; clear hk
    gi_wp2
    refine hR.mono ?_
    rintro e W3 ⟨rfl, hJ3, hB3⟩
    have hb3 : Boxed W3 Bn 33 (.int .u64 (lead x k)) := hB3.trans hb
    clear hc hfr
    have hc := hb3.cell
    have hfr := hb3.frozen
    by_cases h128 : 128 ≤ lead x k
    · gi_wp2
      go_roundw
      case rel =>
        refine ⟨k + 1, by go_num, hi_len_lead x k (by omega) Hk.out h128, hJ _ _ _ hJ3, ?_⟩
        have := hb3.set (.int .u64 (lead x (k + 1)))
        rw [lead_succ] at this ⊢
        simpa using this
      case measure => simp [intOf]; omega
    · gi_wp2
      go_end0
      refine ⟨⟨_, rfl⟩, ?_⟩
      have : k + 1 = (putN x).length := by have := Hk.out; rw [show lead x k / 128 = 0 by omega, hi_zero] at this; simpa using this
      rw [← this]; exact hJ3
theorem groups_in (F : Fence) (n : Nat) (hf : F.fn 102) (hro : F.round = none) (x : Nat) (w : World) :
    CallsIn F n Tryz.prog 102 #[.int .u64 x] w fun e w' => e = .returned (.func (.func 119) #[] #[.pointer (some ⟨w.heap.size, 0, none⟩)]) ∧ w' = w.alloc (.cells #[.int .u64 x] 33) := by
  refine callsIn_of_wp Tryz.func102 rfl hf ?_ hro
  simp only [Tryz.ntmps102, List.size_toArray, List.length_cons, List.length_nil, Nat.reduceAdd, Nat.reduceSub, Array.replicate_succ, Array.replicate_zero, List.push_toArray, List.append_toArray, List.nil_append, List.cons_append]
  gi_wp2
  go_ret
  exact ⟨rfl, rfl⟩
set_option maxRecDepth 100000 in
set_option maxHeartbeats 1000000 in
theorem numSize_in (F : Fence) (n : Nat) (hf : F.fn 83) (hg : F.fn 102) (hg1 : F.fn 119) (hro : F.round = none) (hn : 3 ≤ n) (x : Nat) (hx : (x : Int) ≤ 18446744073709551615) (w : World) :
    CallsIn F n Tryz.prog 83 #[.int .u64 x] w fun e w' => e = .returned (.int .i64 ((putN x).length : Nat)) ∧ Below w.heap.size w w' := by
  have h1 : 1 ≤ n := by omega
  have hlen := putN_length x
  refine callsIn_of_wp_marks Tryz.func83 rfl hf ?_ hro
  simp only [Tryz.ntmps83, List.size_toArray, List.length_cons, List.length_nil, Nat.reduceAdd, Nat.reduceSub, Array.replicate_succ, Array.replicate_zero, List.push_toArray, List.append_toArray, List.nil_append, List.cons_append]
  gi_wp2_with (gi_at_call 102; refine (groups_in F (n - 1) hg hro _ _).mono ?_; rintro e w' ⟨rfl, rfl⟩)
  have hsz : ((w.alloc (Obj.cells #[Value.int IntKind.i64 0] 3)).alloc (Obj.cells #[Value.int IntKind.u64 ↑x] 33)).heap.size = w.heap.size + 2 := by simp
  have hb0 : Boxed (w.alloc (Obj.cells #[Value.int IntKind.i64 0] 3)) w.heap.size 3 (.int .i64 0) := Boxed.new _ _ _
  have hb1 : Boxed ((w.alloc (Obj.cells #[Value.int IntKind.i64 0] 3)).alloc (Obj.cells #[Value.int IntKind.u64 ↑x] 33)) (w.heap.size + 1) 33 (.int .u64 x) := by
    have := Boxed.new (w.alloc (Obj.cells #[Value.int IntKind.i64 0] 3)) 33 (.int .u64 x); rwa [World.size_alloc] at this
  refine rangeFunc_rounds hro h1 (gf := 119) (lb := #[.pointer (some ⟨w.heap.size + 1, 0, none⟩)]) rfl hg1 (enters_of Tryz.func119 (by kernel_rfl) rfl)
    (encs x) (fun _ => rfl) (putN x).length (w.heap.size + 1) (by simp)
    (fun k W => Boxed W w.heap.size 3 (.int .i64 k) ∧ Below w.heap.size w W)
    (fun k A B hs hk => ⟨hk.boxed hs.1 (by simp; omega) (by omega), hk.below hs.2 (by simp; omega) (by omega)⟩)
    ⟨hb0.alloc _, ((Below.refl _ _).alloc (Nat.le_refl _) _).alloc (by simp) _⟩
    (fun l J W hJ hY h0 hB => groups1_in F (n - 1) hg1 hro (by omega) (w.heap.size + 1) x hx l J W hJ hY h0 (hB.trans hb1))
    (fun k => { tmps := #[.int .u64 x, undef, .int .i64 0, .pointer (some ⟨w.heap.size, 0, none⟩), .int .i64 k, .int .u64 x, .func (.func 119) #[] #[.pointer (some ⟨w.heap.size + 1, 0, none⟩)], .int .i64 k, .int .u8 ((lead x k : Int) % 128), undef, undef, undef], defers := [] }) ?assign ?body ?done
  case assign =>
    intro l k W K hK
    dsimp only [encs]
    gi_wp2
    exact hK
  case body =>
    rintro l k W ⟨hb, hB⟩ hlt
    have hc := hb.cell
    have hfr := hb.frozen
    gi_wp2
    refine ⟨KeepsOthers.setCell _ _ _, Below.heap_setCell _ _ _ _ (by show _ ≠ w.heap.size; omega), ?_, hB.setCell (p := ⟨w.heap.size, 0, none⟩) (Nat.le_refl _) _⟩
    have := hb.set (.int .i64 ((k + 1 : Nat) : Int))
    simpa using this
  case done =>
    rintro D W hD ⟨hb, hB⟩ hK
    have hc := hb.cell
    have hfr := hb.frozen
    gi_wp2
    refine ⟨by simp, .inl ⟨_, _, rfl, run_takeDeferred hK, ?_⟩⟩
    exact ⟨_, results_tmp rfl _ _ _, rfl, hB.trans (belowK_b (w := w) (Nat.le_refl _) W D _ _ (by simp at hD; omega) hK rfl rfl)⟩
theorem numSize_any (x : Nat) (hx : (x : Int) ≤ 18446744073709551615) (w : World) :
    Calls Tryz.prog 83 #[.int .u64 x] w fun e w' => e = .returned (.int .i64 ((putN x).length : Nat)) ∧ Below w.heap.size w w' :=
  (callsIn_wide (n := 3)).1 (numSize_in Fence.wide 3 trivial trivial trivial rfl (by omega) x hx w)
end Go.Proofs.YthfmkkkdjgkaoaaGreatDoor
namespace Go.Proofs.YthfmkkkdjgkaoaaGreatDoor
open Go.RowKit
attribute [local go_sem] Oper.semAt_some
def tl (x : Nat) : Nat → List UInt8
  | 0 => []
  | k + 1 => (if k = 0 then UInt8.ofNat (x % 128) else UInt8.ofNat (128 + lead x k % 128)) :: tl x k
theorem tl_length (x k : Nat) : (tl x k).length = k := by
  induction k with
  | zero => rfl
  | succ k ih => simp [tl, ih]
theorem tl_put (x k : Nat) (hx : x < 18446744073709551616) (h1 : 1 ≤ k) (hk : k ≤ (putN x).length) : hi 10 (lead x k) ++ tl x k = putN x := by
  induction k with
  | zero => omega
  | succ k ih =>
    by_cases h0 : k = 0
    · subst h0; simp [tl, lead_succ, lead_zero, putN]
    · have ih := ih (by omega) (by omega)
      have hl := lead_le x k
      have hne : lead x k ≠ 0 := by
        intro e
        rw [e, hi_zero, List.nil_append] at ih
        have := congrArg List.length ih; rw [tl_length] at this; omega
      rw [lead_succ, tl, if_neg h0, ← ih, hi_step 10 (lead x k) hne (by omega)]
      simp
theorem tl_all (x : Nat) (hx : x < 18446744073709551616) : tl x (putN x).length = putN x := by
  have h := tl_put x (putN x).length hx (putN_length x).1 (Nat.le_refl _)
  have hl := congrArg List.length h
  rw [List.length_append, tl_length] at hl
  rw [List.length_eq_zero_iff.1 (show (hi 10 (lead x (putN x).length)).length = 0 by omega), List.nil_append] at h
  exact h
theorem putN_length10 (x : Nat) (hx : x < 18446744073709551616) : (putN x).length ≤ 10 := by
  unfold putN; rw [hi_fuel 10 9 (x / 128) (by omega) (by omega)]
  have := hi_length 9 (x / 128); simp; omega
def formAt (x k : Nat) : Array Value := (List.replicate (10 - k) (Value.int .u8 0) ++ (tl x k).map (fun b => Value.int .u8 b.toNat)).toArray
theorem formAt_zero (x : Nat) : formAt x 0 = #[.int .u8 0, .int .u8 0, .int .u8 0, .int .u8 0, .int .u8 0, .int .u8 0, .int .u8 0, .int .u8 0, .int .u8 0, .int .u8 0] := by
  simp [formAt, tl, List.replicate]
theorem formAt_succ (x k : Nat) (hk : k < 10) (v : Int) (hv : v = ((if k = 0 then UInt8.ofNat (x % 128) else UInt8.ofNat (128 + lead x k % 128)).toNat : Nat)) : (formAt x k).setIfInBounds (9 - k) (.int .u8 v) = formAt x (k + 1) := by
  subst hv
  unfold formAt
  rw [List.setIfInBounds_toArray, tl]
  congr 1
  rw [List.set_append_left _ _ (by simp; omega), show 10 - k = (9 - k) + 1 by omega, List.replicate_succ', List.set_append_right _ _ (by simp), show 10 - (k + 1) = 9 - k by omega]
  simp
theorem setRow {W : World} {b i : Nat} {arr : Array Value} {t : TypeId} (v : Value) (h : W.heap[b]? = some (.cells arr t (0, 0))) : (W.setCell ⟨b, i, none⟩ v).heap[b]? = some (.cells (arr.setIfInBounds i v) t (0, 0)) := by
  obtain ⟨hlt, hk⟩ := Array.getElem?_eq_some_iff.1 h
  show (W.heap.modify b _)[b]? = _
  rw [Array.getElem?_eq_getElem (by rw [Array.size_modify]; exact hlt), Array.getElem_modify_self, hk]
  rfl
theorem row_cell {W : World} {b i : Nat} {arr : Array Value} {t : TypeId} {v : Value} (h : W.heap[b]? = some (.cells arr t (0, 0))) (hv : arr[i]? = some v) : W.cell? ⟨b, i, none⟩ = some v ∧ W.frozen? ⟨b, i, none⟩ = false := by
  simp [World.cell?, World.frozen?, h, hv]
theorem formAt_old (x k : Nat) (hk : k < 10) : (formAt x k)[9 - k]? = some (.int .u8 0) := by
  unfold formAt
  rw [List.getElem?_toArray, List.getElem?_append_left (by simp; omega), List.getElem?_replicate, if_pos (by omega)]
theorem formAt_end (x i : Nat) (hx : x < 18446744073709551616) (hi : i < (putN x).length) : (formAt x (putN x).length)[10 - (putN x).length + i]? = some (.int .u8 ((putN x)[i].toNat : Int)) := by
  unfold formAt
  rw [tl_all x hx, List.getElem?_toArray, List.getElem?_append_right (by simp)]
  simp [hi]
set_option maxRecDepth 100000 in
set_option maxHeartbeats 1000000 in
theorem numPut_in (F : Fence) (n : Nat) (hf : F.fn 101) (hg : F.fn 102) (hg1 : F.fn 119) (hro : F.round = none) (hn : 3 ≤ n) (x : Nat) (hx : (x : Int) ≤ 18446744073709551615) (w : World) :
    CallsIn F n Tryz.prog 101 #[.int .u64 x] w fun e w' => e = .returned (bstr (putN x)) ∧ Below w.heap.size w w' := by
  have h1 : 1 ≤ n := by omega
  have hlen := putN_length x
  refine callsIn_of_wp_marks Tryz.func101 rfl hf ?_ hro
  simp only [Tryz.ntmps101, List.size_toArray, List.length_cons, List.length_nil, Nat.reduceAdd, Nat.reduceSub, Array.replicate_succ, Array.replicate_zero, List.push_toArray, List.append_toArray, List.nil_append, List.cons_append]
  gi_wp2_with (gi_at_call 102; refine (groups_in F (n - 1) hg hro _ _).mono ?_; rintro e w' ⟨rfl, rfl⟩)
  have hL10 : (putN x).length ≤ 10 := putN_length10 x (by omega)
  obtain ⟨w0, hw0, hz0, hB0, hF0, hA0, hN0⟩ : ∃ w0, w0 = (((w.alloc (Obj.cells #[Value.int IntKind.u8 0, Value.int IntKind.u8 0, Value.int IntKind.u8 0, Value.int IntKind.u8 0, Value.int IntKind.u8 0, Value.int IntKind.u8 0, Value.int IntKind.u8 0, Value.int IntKind.u8 0, Value.int IntKind.u8 0, Value.int IntKind.u8 0] 178)).alloc
          (Obj.cells #[Value.int IntKind.i64 10] 3)).alloc (Obj.cells #[Value.int IntKind.u64 ↑x] 33)) ∧ w0.heap.size = w.heap.size + 3 ∧ Below w.heap.size w w0 ∧
      w0.heap[w.heap.size]? = some (.cells (formAt x 0) 178 (0, 0)) ∧ Boxed w0 (w.heap.size + 1) 3 (.int .i64 10) ∧ Boxed w0 (w.heap.size + 2) 33 (.int .u64 x) := by
    refine ⟨_, rfl, by simp, (((Below.refl _ _).alloc (Nat.le_refl _) _).alloc (by simp) _).alloc (by simp; omega) _, ?_, ?_, ?_⟩
    · rw [formAt_zero]
      exact (Below.heap_alloc _ _ _ (by simp; omega)).trans ((Below.heap_alloc _ _ _ (by simp)).trans (World.alloc_heap_new w _))
    · have := World.alloc_heap_new (w.alloc (Obj.cells #[Value.int IntKind.u8 0, Value.int IntKind.u8 0, Value.int IntKind.u8 0, Value.int IntKind.u8 0, Value.int IntKind.u8 0, Value.int IntKind.u8 0, Value.int IntKind.u8 0, Value.int IntKind.u8 0, Value.int IntKind.u8 0, Value.int IntKind.u8 0] 178)) (Obj.cells #[Value.int IntKind.i64 10] 3)
      rw [World.size_alloc] at this
      exact (Below.heap_alloc _ _ _ (by simp)).trans this
    · have := World.alloc_heap_new ((w.alloc (Obj.cells #[Value.int IntKind.u8 0, Value.int IntKind.u8 0, Value.int IntKind.u8 0, Value.int IntKind.u8 0, Value.int IntKind.u8 0, Value.int IntKind.u8 0, Value.int IntKind.u8 0, Value.int IntKind.u8 0, Value.int IntKind.u8 0, Value.int IntKind.u8 0] 178)).alloc (Obj.cells #[Value.int IntKind.i64 10] 3)) (Obj.cells #[Value.int IntKind.u64 x] 33)
      rw [World.size_alloc, World.size_alloc] at this
      exact this
  rw [← hw0]
  clear hw0
  refine rangeFunc_rounds hro h1 (gf := 119) (lb := #[.pointer (some ⟨w.heap.size + 2, 0, none⟩)]) rfl hg1 (enters_of Tryz.func119 (by kernel_rfl) rfl)
    (encs x) (fun _ => rfl) (putN x).length (w.heap.size + 2) (by omega)
    (fun k W => (Boxed W (w.heap.size + 1) 3 (.int .i64 (10 - (k : Int))) ∧ W.heap[w.heap.size]? = some (.cells (formAt x k) 178 (0, 0))) ∧ Below w.heap.size w W)
    (fun k A B hs hk => ⟨⟨hk.boxed hs.1.1 (by omega) (by omega), (hk.block _ (by omega) (by omega)).trans hs.1.2⟩, hk.below hs.2 (by omega) (by omega)⟩)
    ⟨⟨hA0, hF0⟩, hB0⟩
    (fun l J W hJ hY h0 hB => groups1_in F (n - 1) hg1 hro (by omega) (w.heap.size + 2) x hx l J W hJ hY h0 (hB.trans hN0))
    (fun k => { tmps := #[.int .u64 x, undef, .string ⟨#[]⟩, .pointer (some ⟨w.heap.size, 0, none⟩), .pointer (some ⟨w.heap.size + 1, 0, none⟩), .int .i64 k, .int .u8 ((lead x k : Int) % 128), .int .u64 x, .func (.func 119) #[] #[.pointer (some ⟨w.heap.size + 2, 0, none⟩)], .int .i64 k, .int .u8 ((lead x k : Int) % 128), undef, undef, undef, undef, undef, undef, undef, undef, undef, undef, undef, undef, undef, undef, undef], defers := [] }) ?assign ?body ?done
  case assign =>
    intro l k W K hK
    dsimp only [encs]
    gi_wp2
    exact hK
  case body =>
    rintro l k W ⟨⟨hb, hr⟩, hB⟩ hlt
    obtain ⟨hrc, hrf⟩ := row_cell hr (formAt_old x k (by omega))
    rw [show 9 - k = 10 - k - 1 by omega] at hrc hrf
    have hc := hb.cell
    have hfr := hb.frozen
    have hor : bits .or .u8 ((lead x k : Int) % 128) 128 = (lead x k : Int) % 128 + 128 := u8_or128_right _ (by omega) (by omega)
    have Hr := Lib.hid hr; clear hr
    have Hb := Lib.hid hb; clear hb
    by_cases h0 : k = 0
    · have hk0 : ¬ 0 < k := by omega
      have H0 := Lib.hid h0; clear h0
      gi_wp2
      refine ⟨(KeepsOthers.setCell _ _ _).trans (KeepsOthers.setCell _ _ _), ?_, ⟨?_, ?_⟩, (hB.setCell (p := ⟨w.heap.size + 1, 0, none⟩) (by simp) _).setCell (p := ⟨w.heap.size, 10 - k - 1, none⟩) (Nat.le_refl _) _⟩
      · exact (Below.heap_setCell _ _ _ _ (by show _ ≠ w.heap.size; omega)).trans (Below.heap_setCell _ _ _ _ (by show _ ≠ w.heap.size + 1; omega))
      · refine (Below.heap_setCell _ _ _ _ (by show _ ≠ w.heap.size; omega)).trans ?_
        have := Hb.out.set (.int .i64 (10 - ((k + 1 : Nat) : Int)))
        rw [show (10 : Int) - ((k + 1 : Nat) : Int) = 10 - (k : Int) - 1 by omega] at this ⊢
        exact this
      · have h2 : (W.setCell ⟨w.heap.size + 1, 0, none⟩ (.int .i64 (10 - (k : Int) - 1))).heap[w.heap.size]? = some (.cells (formAt x k) 178 (0, 0)) := (Below.heap_setCell _ _ _ _ (by show _ ≠ w.heap.size + 1; omega)).trans Hr.out
        have := setRow (i := 10 - k - 1) (.int .u8 ((lead x k : Int) % 128)) h2
        rw [this, show 10 - k - 1 = 9 - k by omega, formAt_succ x k (by omega) _ (by rw [if_pos H0.out, H0.out, lead_zero, ofNat_toNat _ (by omega)]; omega)]
    · have hk0 : 0 < k := by omega
      have H0 := Lib.hid h0; clear h0
      gi_wp2
      refine ⟨((KeepsOthers.setCell _ _ _).trans (KeepsOthers.setCell _ _ _)).trans (KeepsOthers.setCell _ _ _), ?_, ⟨?_, ?_⟩, ((hB.setCell (p := ⟨w.heap.size + 1, 0, none⟩) (by simp) _).setCell (p := ⟨w.heap.size, 10 - k - 1, none⟩) (Nat.le_refl _) _).setCell (p := ⟨w.heap.size, 10 - k - 1, none⟩) (Nat.le_refl _) _⟩
      · exact (Below.heap_setCell _ _ _ _ (by show _ ≠ w.heap.size; omega)).trans ((Below.heap_setCell _ _ _ _ (by show _ ≠ w.heap.size; omega)).trans (Below.heap_setCell _ _ _ _ (by show _ ≠ w.heap.size + 1; omega)))
      · refine (Below.heap_setCell _ _ _ _ (by show _ ≠ w.heap.size; omega)).trans ((Below.heap_setCell _ _ _ _ (by show _ ≠ w.heap.size; omega)).trans ?_)
        have := Hb.out.set (.int .i64 (10 - ((k + 1 : Nat) : Int)))
        rw [show (10 : Int) - ((k + 1 : Nat) : Int) = 10 - (k : Int) - 1 by omega] at this ⊢
        exact this
      · have h2 : (W.setCell ⟨w.heap.size + 1, 0, none⟩ (.int .i64 (10 - (k : Int) - 1))).heap[w.heap.size]? = some (.cells (formAt x k) 178 (0, 0)) := (Below.heap_setCell _ _ _ _ (by show _ ≠ w.heap.size + 1; omega)).trans Hr.out
        have h3 := setRow (i := 10 - k - 1) (.int .u8 ((lead x k : Int) % 128)) h2
        have := setRow (i := 10 - k - 1) (.int .u8 ((lead x k : Int) % 128 + 128)) h3
        rw [this, Array.setIfInBounds_setIfInBounds, show 10 - k - 1 = 9 - k by omega, formAt_succ x k (by omega) _ (by rw [if_neg H0.out, ofNat_toNat _ (by omega)]; omega)]
  case done =>
    rintro D W hD ⟨⟨hb, hr⟩, hB⟩ hK
    have hc := hb.cell
    have hfr := hb.frozen
    obtain ⟨L, hL⟩ : ∃ L, L = (putN x).length := ⟨_, rfl⟩
    have hsl : (Instr.sliceAt 178 (.pointer (some ⟨w.heap.size, 0, none⟩)) (some (.int .i64 (10 - (L : Int)))) none none).run Tryz.prog W = .ok (.slice (some ⟨w.heap.size, 10 - L, none⟩) L L) W := by
      have ha : Tryz.prog.arrayLen 178 = 10 := by kernel_rfl
      have he : Tryz.prog.elem 178 = 5 := by kernel_rfl
      have hs : ∀ w, (sizeOf 5).run Tryz.prog w = .ok 1 w := fun _ => by kernel_rfl
      rw [run_sliceAt_array_l W 178 _ (by kernel_rfl) .i64 _ (by omega) (by rw [ha]; omega), ha, he, hs]
      have e1 : ((10 : Int) - (L : Int)).toNat = 10 - L := by omega
      simp only [Result.andThen, slicedAt, e1]
      rw [if_neg (by omega), show 10 - (10 - L) = L by omega]
      simp [Addr.add]
      omega
    have hcv : (convert 85 9 (.slice (some ⟨w.heap.size, 10 - L, none⟩) L L)).run Tryz.prog W = .ok (bstr (putN x)) W := by
      have := run_convert_bytes_back (P := Tryz.prog) W 85 9 5 ⟨w.heap.size, 10 - L, none⟩ L (putN x) Tryz.underlying85 Tryz.underlying5 Tryz.underlying9 (fun j hj => by
        have := (row_cell hr (formAt_end x j (by omega) hj)).1
        rw [← hL] at this
        by_cases hj0 : j = 0
        · subst hj0; simpa [Addr.add] using this
        · simpa [Addr.add, hj0] using this)
      rw [← hL] at this
      exact this
    rw [← hL] at hc hb hr
    clear hr
    have HL := Lib.hid hL; clear hL
    gi_wp2
    refine ⟨by simp, .inl ⟨_, _, rfl, run_takeDeferred hK, ?_⟩⟩
    exact ⟨_, results_tmp rfl _ _ _, rfl, hB.trans (belowK_b (w := w) (Nat.le_refl _) W D _ _ (by omega) hK rfl rfl)⟩
theorem numPut_any (x : Nat) (hx : (x : Int) ≤ 18446744073709551615) (w : World) :
    Calls Tryz.prog 101 #[.int .u64 x] w fun e w' => e = .returned (bstr (putN x)) ∧ Below w.heap.size w w' :=
  (callsIn_wide (n := 3)).1 (numPut_in Fence.wide 3 trivial trivial trivial rfl (by omega) x hx w)
end Go.Proofs.YthfmkkkdjgkaoaaGreatDoor
namespace Go.Proofs.YthfmkkkdjgkaoaaGreatDoor
open Go.RowKit
def putTextN (l : List UInt8) : List UInt8 := putN l.length ++ l
theorem bsize (l : List UInt8) : (⟨l.toArray⟩ : ByteArray).size = l.length := by simp [ByteArray.size]
set_option maxRecDepth 100000 in
theorem refPutText_any (t : ByteArray) (w : World) (ht : t.size ≤ 100000) :
    Calls Tryz.prog 79 #[.string t] w fun e w' => e = .returned (bstr (putTextN t.data.toList)) ∧ Below w.heap.size w w' := by
  obtain ⟨p, hp⟩ : ∃ p : ByteArray, p = ⟨(putN t.size).toArray⟩ := ⟨_, rfl⟩
  have cp : ∀ w, Calls Tryz.prog 97 #[.int .u64 t.size] w fun e w' => e = .returned (.string p) ∧ Below w.heap.size w w' := fun w => by rw [hp]; exact refPut_any t.size w (by omega)
  have hps : p.size ≤ 11 := by rw [hp, bsize]; exact (putN_length _).2
  have fin : Ending.returned (.string (p ++ t)) = .returned (bstr (putTextN t.data.toList)) := ret_str (by rw [hp]; simp [putTextN])
  have Fin := Lib.hid fin; clear fin
  clear hp
  have Cp := Lib.hid cp; clear cp
  go_enter Tryz.func79, Tryz.ntmps79
  go_wp2_with (go_at_call 97; (with_reducible refine (Cp.out _).mono ?_); rintro e wb ⟨rfl, hb2⟩)
  go_ret
  exact ⟨Fin.out, hb2⟩
end Go.Proofs.YthfmkkkdjgkaoaaGreatDoor
