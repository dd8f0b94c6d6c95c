/- The sum of a text, CRC-32C: in plain numbers, and the walks of both sides. -/
import Derived.Test.YtiphddlakbbfiaaDoorBlk
import Derived.Lib.LaidTab
import Derived.Lib.AppendIntMem
import Derived.Laws.BitsAllLaws
namespace Go.Proofs.YtiphddlakbbfiaaDoor
set_option linter.unusedVariables false
open Go.RowKit

/-! ### Plain -/
/-- The register one bit later. -/
def down (x : Nat) : Nat := if x % 2 = 1 then x / 2 ^^^ 2197175160 else x / 2
def downs : Nat → Nat → Nat
  | 0, x => x
  | n + 1, x => down (downs n x)
/-- The register one byte later. -/
def byteN (r b : Nat) : Nat := downs 8 (r ^^^ b)
def crcGo (l : List UInt8) (r : Nat) : Nat := l.foldl (fun r b => byteN r b.toNat) r
def crcN (l : List UInt8) : Nat := crcGo l 4294967295 ^^^ 4294967295
def sumTab : List Int := [0, 274646895, 549293790, 820201905, 1098587580, 1361435347, 1640403810, 1905808397, 2197175160, 2460548119, 2722870694, 2987750089, 3280807620, 3553878443, 3811616794, 4084100981]
def crcT (i : Nat) : Nat := (sumTab.getD i 0).toNat

theorem down_xor (a b : Nat) : down (a ^^^ b) = down a ^^^ down b := by
  unfold down
  have h := @Nat.xor_mod_two_eq_one a b
  rw [Nat.xor_div_two]
  by_cases ha : a % 2 = 1 <;> by_cases hb : b % 2 = 1
  · rw [if_neg (by rw [h]; simp [ha, hb]), if_pos ha, if_pos hb]
    rw [Nat.xor_assoc, Nat.xor_comm (b / 2), ← Nat.xor_assoc 2197175160, Nat.xor_self, Nat.zero_xor]
  · rw [if_pos (by rw [h]; simp [ha, hb]), if_pos ha, if_neg hb]
    rw [Nat.xor_assoc, Nat.xor_comm (b / 2), ← Nat.xor_assoc]
  · rw [if_pos (by rw [h]; simp [ha, hb]), if_neg ha, if_pos hb]
    rw [Nat.xor_assoc]
  · rw [if_neg (by rw [h]; simp [ha, hb]), if_neg ha, if_neg hb]
theorem downs_xor (n a b : Nat) : downs n (a ^^^ b) = downs n a ^^^ downs n b := by
  induction n with
  | zero => rfl
  | succ n ih => simp only [downs, ih, down_xor]
theorem downs_add (m n x : Nat) : downs (m + n) x = downs m (downs n x) := by
  induction m with
  | zero => simp [downs]
  | succ m ih => rw [show m + 1 + n = m + n + 1 by omega]; simp only [downs, ih]
theorem down_even (m : Nat) : down (2 * m) = m := by
  unfold down; rw [if_neg (by omega)]; omega
theorem downs_four (q : Nat) : downs 4 (16 * q) = q := by
  simp only [downs]
  rw [show 16 * q = 2 * (2 * (2 * (2 * q))) by omega, down_even, down_even, down_even, down_even]
theorem split16 (x : Nat) : 16 * (x / 16) ^^^ x % 16 = x := by
  apply Nat.eq_of_testBit_eq
  intro i
  rw [Nat.testBit_xor, show 16 * (x / 16) = 2 ^ 4 * (x / 2 ^ 4) by rfl, show x % 16 = x % 2 ^ 4 by rfl, Nat.testBit_two_pow_mul, Nat.testBit_mod_two_pow, Nat.testBit_div_two_pow]
  by_cases h : i < 4
  · simp [h, show ¬ 4 ≤ i by omega]
  · simp [h, show 4 ≤ i by omega, show 4 + (i - 4) = i by omega]
theorem tab_down : ∀ i, i < 16 → downs 4 i = crcT i := by decide
theorem downs4 (x : Nat) : downs 4 x = x / 16 ^^^ crcT (x % 16) := by
  conv => lhs; rw [← split16 x]
  rw [downs_xor, downs_four, tab_down _ (by omega)]
theorem byteN_tab (r b : Nat) : byteN r b = (let x := r ^^^ b; let y := x / 16 ^^^ crcT (x % 16); y / 16 ^^^ crcT (y % 16)) := by
  unfold byteN
  rw [show 8 = 4 + 4 by rfl, downs_add, downs4 (r ^^^ b), downs4]
theorem down_lt {x : Nat} (h : x < 4294967296) : down x < 4294967296 := by
  unfold down
  split
  · exact Nat.xor_lt_two_pow (n := 32) (by omega) (by omega)
  · omega
theorem downs_lt {x : Nat} (n : Nat) (h : x < 4294967296) : downs n x < 4294967296 := by
  induction n with
  | zero => exact h
  | succ n ih => exact down_lt ih
theorem byteN_lt {r b : Nat} (h : r < 4294967296) (hb : b < 256) : byteN r b < 4294967296 :=
  downs_lt 8 (Nat.xor_lt_two_pow (n := 32) (by omega) (by omega))
theorem crcGo_lt (l : List UInt8) : ∀ {r : Nat}, r < 4294967296 → crcGo l r < 4294967296 := by
  induction l with
  | nil => exact fun h => h
  | cons c l ih => exact fun h => ih (byteN_lt h c.toNat_lt)
theorem crcN_lt (l : List UInt8) : crcN l < 4294967296 := Nat.xor_lt_two_pow (n := 32) (crcGo_lt l (by decide)) (by decide)
theorem crcGo_append (a b : List UInt8) (r : Nat) : crcGo (a ++ b) r = crcGo b (crcGo a r) := by simp [crcGo, List.foldl_append]
theorem crcGo_take (l : List UInt8) (r i : Nat) (h : i < l.length) : crcGo (l.take (i + 1)) r = byteN (crcGo (l.take i) r) (l[i].toNat) := by
  rw [List.take_succ_eq_append_getElem h, crcGo_append]; rfl

/-! ### The table -/
abbrev sumNm : String := "packhorse/sum.table"
/-- The table holds in the world w and in all above it. -/
def STab (w : World) : Prop := Lib.TabBelow Tryd.prog w.heap.size w sumNm .u32 sumTab
theorem STab.on {w w' : World} (h : STab w) (hb : RowKit.Below w.heap.size w w') : STab w' := Lib.tabBelow_of_tabIs (Lib.TabBelow.on h hb).here
theorem stab_of {w : World} (h : Lib.TabIs Tryd.prog w sumNm .u32 sumTab) : STab w := Lib.tabBelow_of_tabIs h
theorem STab.cell {w : World} (h : STab w) (i : Nat) (hi : i < 16) : w.cell? ⟨1, i, none⟩ = some (.int .u32 (crcT i : Nat)) := by
  have h1 := Lib.TabIs.cell (Lib.TabBelow.here h) (g := 1) (by kernel_rfl) i hi
  rw [h1]
  have h2 : ∀ i, i < 16 → sumTab.getD i 0 = ((crcT i : Nat) : Int) := by decide
  rw [h2 i hi]
theorem crcT_lt : ∀ i, i < 16 → crcT i < 4294967296 := by decide

/-! ### Walks -/
set_option maxRecDepth 100000 in
theorem byte32_any (r b : Nat) (hr : r < 4294967296) (hb : b < 256) (w : World) (hT : STab w) :
    Calls Tryd.prog 67 #[.int .u32 (r : Int), .int .u8 (b : Int)] w fun e w' => e = .returned (.int .u32 (byteN r b : Nat)) ∧ w = w' := by
  rw [byteN_tab]
  dsimp only
  have e1 := u32_xor_nat r b hr (by omega)
  have hx : r ^^^ b < 4294967296 := Nat.xor_lt_two_pow (n := 32) (by omega) (by omega)
  obtain ⟨x, hxx⟩ : ∃ x, r ^^^ b = x := ⟨_, rfl⟩
  rw [hxx] at e1 hx ⊢
  have e2 := u32_and_nat x 15 hx (by omega)
  rw [show x &&& 15 = x % 16 from Nat.and_two_pow_sub_one_eq_mod x 4] at e2
  have c1 := hT.cell (x % 16) (by omega)
  have t1 := crcT_lt (x % 16) (by omega)
  have i1 : x % 16 < 16 := by omega
  obtain ⟨i, hi⟩ : ∃ i, x % 16 = i := ⟨_, rfl⟩
  rw [hi] at e2 c1 t1 i1 ⊢
  have e3 := u32_xor_nat (x / 16) (crcT i) (by omega) t1
  have hy : x / 16 ^^^ crcT i < 4294967296 := Nat.xor_lt_two_pow (n := 32) (by omega) (by omega)
  obtain ⟨y, hyy⟩ : ∃ y, x / 16 ^^^ crcT i = y := ⟨_, rfl⟩
  rw [hyy] at e3 hy ⊢
  have e4 := u32_and_nat y 15 hy (by omega)
  rw [show y &&& 15 = y % 16 from Nat.and_two_pow_sub_one_eq_mod y 4] at e4
  have c2 := hT.cell (y % 16) (by omega)
  have t2 := crcT_lt (y % 16) (by omega)
  have i2 : y % 16 < 16 := by omega
  obtain ⟨j, hj⟩ : ∃ j, y % 16 = j := ⟨_, rfl⟩
  rw [hj] at e4 c2 t2 i2 ⊢
  have e5 := u32_xor_nat (y / 16) (crcT j) (by omega) t2
  have e0 : IntKind.u32.wrap (b : Int) = b := by rw [IntKind.wrap_u32']; omega
  push_cast at e2 e3 e4 e5
  clear hxx hi hyy hj
  go_enter Tryd.func67, Tryd.ntmps67
  go_wp2
  go_ret
  exact ⟨rfl, rfl⟩
set_option maxRecDepth 100000 in
theorem refDown_any (x : Nat) (hx : x < 4294967296) (w : World) :
    Calls Tryd.prog 68 #[.int .u32 (x : Int)] w fun e w' => e = .returned (.int .u32 (down x : Nat)) ∧ w = w' := by
  by_cases h : x % 2 = 1
  · rw [show down x = x / 2 ^^^ 2197175160 from if_pos h]
    have e1 : bits .xor .u32 ((x : Int) / 2) 2197175160 = ((x / 2 ^^^ 2197175160 : Nat) : Int) := u32_xor_nat (x / 2) 2197175160 (by omega) (by omega)
    obtain ⟨y, hy⟩ : ∃ y, x / 2 ^^^ 2197175160 = y := ⟨_, rfl⟩
    rw [hy] at e1 ⊢
    clear hy
    go_enter Tryd.func68, Tryd.ntmps68
    go_wp2
    go_ret
    exact ⟨rfl, rfl⟩
  · rw [show down x = x / 2 from if_neg h]
    go_enter Tryd.func68, Tryd.ntmps68
    go_wp2
    go_ret
    exact ⟨ret_int (by omega), rfl⟩
set_option maxRecDepth 100000 in
theorem refByte32_any (r b : Nat) (hr : r < 4294967296) (hb : b < 256) (w : World) :
    Calls Tryd.prog 58 #[.int .u32 (r : Int), .int .u8 (b : Int)] w fun e w' => e = .returned (.int .u32 (byteN r b : Nat)) ∧ w = w' := by
  unfold byteN
  have e1 := u32_xor_nat r b hr (by omega)
  have hx : r ^^^ b < 4294967296 := Nat.xor_lt_two_pow (n := 32) (by omega) (by omega)
  obtain ⟨x, hxx⟩ : ∃ x, r ^^^ b = x := ⟨_, rfl⟩
  rw [hxx] at e1 hx ⊢
  have e0 : IntKind.u32.wrap (b : Int) = b := by rw [IntKind.wrap_u32']; omega
  clear hxx
  go_enter Tryd.func58, Tryd.ntmps58
  go_wp2
  go_loopw [0, 5] (fun xx ii wr => ∃ i : Nat, ii = .int .i64 i ∧ i ≤ 8 ∧ xx = .int .u32 (downs i x : Nat) ∧ w = wr) (fun _ ii _ => 8 - (intOf ii).toNat)
  case atStart => exact ⟨0, rfl, by omega, rfl, rfl⟩
  case round =>
    obtain ⟨i, rfl, hi, rfl, rfl⟩ := hrel
    have hd := downs_lt i hx
    by_cases h : i < 8
    · have g := refDown_any (downs i x) hd w
      rw [show down (downs i x) = downs (i + 1) x from rfl] at g
      replace g := Lib.hid g
      obtain ⟨z, hz⟩ : ∃ z, downs (i + 1) x = z := ⟨_, rfl⟩
      obtain ⟨y, hy⟩ : ∃ y, downs i x = y := ⟨_, rfl⟩
      rw [hz, hy] at g
      rw [hy] at hd ⊢
      have Hz := Lib.hid hz; clear hz hy
      go_wp2_with (go_at_call 68; (with_reducible refine g.out.mono ?_); rintro e wx ⟨rfl, rfl⟩)
      go_roundw
      case rel => exact ⟨i + 1, by go_num, by omega, by rw [Hz.out], by trivial⟩
      case measure => simp [intOf]; omega
    · obtain rfl : i = 8 := by omega
      go_wp2
      go_ret
      exact ⟨rfl, rfl⟩

set_option maxRecDepth 100000 in
theorem crc32_any (s : ByteArray) (hs : s.size ≤ 1000000) (w : World) (hT : STab w) :
    Calls Tryd.prog 52 #[.string s] w fun e w' => e = .returned (.int .u32 (crcN s.data.toList : Nat)) ∧ w = w' := by
  obtain ⟨cr, hcr⟩ : ∃ r, crcN s.data.toList = r := ⟨_, rfl⟩
  rw [hcr]
  have Hcr := Lib.hid hcr; clear hcr
  replace hT := Lib.hid hT
  go_enter Tryd.func52, Tryd.ntmps52
  go_wp2
  go_loopw [3, 7] (fun xx ii wr => ∃ i : Nat, ii = .int .i64 i ∧ i ≤ s.size ∧ xx = .int .u32 (crcGo (s.data.toList.take i) 4294967295 : Nat) ∧ w = wr) (fun _ ii _ => s.size - (intOf ii).toNat)
  case atStart => exact ⟨0, rfl, by omega, rfl, rfl⟩
  case round =>
    obtain ⟨i, rfl, hi, rfl, rfl⟩ := hrel
    have hd := crcGo_lt (s.data.toList.take i) (r := 4294967295) (by decide)
    by_cases h : i < s.size
    · have hl : i < s.data.toList.length := by simpa using h
      have hz := crcGo_take s.data.toList 4294967295 i hl
      rw [show s.data.toList[i]'hl = s[i]'h from rfl] at hz
      obtain ⟨z, hz'⟩ : ∃ z, crcGo (s.data.toList.take (i + 1)) 4294967295 = z := ⟨_, rfl⟩
      obtain ⟨y, hy⟩ : ∃ y, crcGo (s.data.toList.take i) 4294967295 = y := ⟨_, rfl⟩
      rw [hy] at hd hz ⊢
      rw [hz'] at hz
      have g := byte32_any y (s[i]'h).toNat hd (s[i]'h).toNat_lt w hT.out
      rw [← hz] at g
      replace g := Lib.hid g
      have Hz := Lib.hid hz'; clear hz' hy hz hl
      go_wp2_with (go_at_call 67; (with_reducible refine g.out.mono ?_); rintro e wx ⟨rfl, rfl⟩)
      go_roundw
      case rel => exact ⟨i + 1, by go_num, by omega, by rw [Hz.out], by trivial⟩
      case measure => simp [intOf]; omega
    · obtain rfl : i = s.size := by omega
      rw [List.take_of_length_le (by simp)] at hd ⊢
      have e1 := u32_xor_nat 4294967295 (crcGo s.data.toList 4294967295) (by omega) hd
      rw [Nat.xor_comm] at e1
      rw [show crcGo s.data.toList 4294967295 ^^^ 4294967295 = cr from Hcr.out] at e1
      obtain ⟨y, hy⟩ : ∃ y, crcGo s.data.toList 4294967295 = y := ⟨_, rfl⟩
      rw [hy] at e1 hd ⊢
      replace e1 : bits .xor .u32 4294967295 (y : Int) = (cr : Int) := e1
      clear hy
      go_wp2
      go_ret
      exact ⟨ret_int e1, rfl⟩
set_option maxRecDepth 100000 in
theorem refCrc32_any (s : ByteArray) (hs : s.size ≤ 1000000) (w : World) :
    Calls Tryd.prog 35 #[.string s] w fun e w' => e = .returned (.int .u32 (crcN s.data.toList : Nat)) ∧ w = w' := by
  obtain ⟨cr, hcr⟩ : ∃ r, crcN s.data.toList = r := ⟨_, rfl⟩
  rw [hcr]
  have Hcr := Lib.hid hcr; clear hcr
  go_enter Tryd.func35, Tryd.ntmps35
  go_wp2
  go_loopw [3, 4] (fun xx ii wr => ∃ i : Nat, ii = .int .i64 i ∧ i ≤ s.size ∧ xx = .int .u32 (crcGo (s.data.toList.take i) 4294967295 : Nat) ∧ w = wr) (fun _ ii _ => s.size - (intOf ii).toNat)
  case atStart => exact ⟨0, rfl, by omega, rfl, rfl⟩
  case round =>
    obtain ⟨i, rfl, hi, rfl, rfl⟩ := hrel
    have hd := crcGo_lt (s.data.toList.take i) (r := 4294967295) (by decide)
    by_cases h : i < s.size
    · have hl : i < s.data.toList.length := by simpa using h
      have hz := crcGo_take s.data.toList 4294967295 i hl
      rw [show s.data.toList[i]'hl = s[i]'h from rfl] at hz
      obtain ⟨z, hz'⟩ : ∃ z, crcGo (s.data.toList.take (i + 1)) 4294967295 = z := ⟨_, rfl⟩
      obtain ⟨y, hy⟩ : ∃ y, crcGo (s.data.toList.take i) 4294967295 = y := ⟨_, rfl⟩
      rw [hy] at hd hz ⊢
      rw [hz'] at hz
      have g := refByte32_any y (s[i]'h).toNat hd (s[i]'h).toNat_lt w
      rw [← hz] at g
      replace g := Lib.hid g
      have Hz := Lib.hid hz'; clear hz' hy hz hl
      go_wp2_with (go_at_call 58; (with_reducible refine g.out.mono ?_); rintro e wx ⟨rfl, rfl⟩)
      go_roundw
      case rel => exact ⟨i + 1, by go_num, by omega, by rw [Hz.out], by trivial⟩
      case measure => simp [intOf]; omega
    · obtain rfl : i = s.size := by omega
      rw [List.take_of_length_le (by simp)] at hd ⊢
      have e1 := u32_xor_nat (crcGo s.data.toList 4294967295) 4294967295 hd (by omega)
      rw [show crcGo s.data.toList 4294967295 ^^^ 4294967295 = cr from Hcr.out] at e1
      obtain ⟨y, hy⟩ : ∃ y, crcGo s.data.toList 4294967295 = y := ⟨_, rfl⟩
      rw [hy] at e1 hd ⊢
      replace e1 : bits .xor .u32 (y : Int) 4294967295 = (cr : Int) := e1
      clear hy
      go_wp2
      go_ret
      exact ⟨rfl, rfl⟩
end Go.Proofs.YtiphddlakbbfiaaDoor
