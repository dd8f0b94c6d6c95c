/- Parts of a proof, printed by a program of mine out of my texts: WiSum, WiSeal, WiMath, WiNums, WiFront. -/
import Derived.Lib.LaidTab
import Derived.Lib.AppendIntMem
import Derived.Laws.BitsAllLaws
import Derived.OwnWalk
import Derived.Laws.OwnMore
import Derived.Maps.AppendAt
import Derived.Test.YthfmkkkdjgkaoaaGreatDoorMA
import Derived.Test.YthfmkkkdjgkaoaaGreatDoorMB
import Derived.Test.YthfmkkkdjgkaoaaGreatDoorMN
set_option linter.unusedSimpArgs false
set_option linter.unusedVariables false
namespace Go.Proofs.YthfmkkkdjgkaoaaGreatDoor
open Go.RowKit
def down (x : Nat) : Nat := if x % 2 = 1 then x / 2 ^^^ 2197175160 else x / 2
def downs : Nat → Nat → Nat
  | 0, x => x
  | n + 1, x => down (downs n x)
def byteN (r b : Nat) : Nat := downs 8 (r ^^^ b)
def crcGo (l : List UInt8) (r : Nat) : Nat := l.foldl (fun r b => byteN r b.toNat) r
def crcN (l : List UInt8) : Nat := crcGo l 4294967295 ^^^ 4294967295
def sumTab : List Int := [0, 274646895, 549293790, 820201905, 1098587580, 1361435347, 1640403810, 1905808397, 2197175160, 2460548119, 2722870694, 2987750089, 3280807620, 3553878443, 3811616794, 4084100981]
theorem down_lt {x : Nat} (h : x < 4294967296) : down x < 4294967296 := by
  unfold down
  split
  · exact Nat.xor_lt_two_pow (n := 32) (by omega) (by omega)
  · omega
theorem downs_lt {x : Nat} (n : Nat) (h : x < 4294967296) : downs n x < 4294967296 := by
  induction n with
  | zero => exact h
  | succ n ih => exact down_lt ih
theorem byteN_lt {r b : Nat} (h : r < 4294967296) (hb : b < 256) : byteN r b < 4294967296 :=
  downs_lt 8 (Nat.xor_lt_two_pow (n := 32) (by omega) (by omega))
theorem crcGo_lt (l : List UInt8) : ∀ {r : Nat}, r < 4294967296 → crcGo l r < 4294967296 := by
  induction l with
  | nil => exact fun h => h
  | cons c l ih => exact fun h => ih (byteN_lt h c.toNat_lt)
theorem crcN_lt (l : List UInt8) : crcN l < 4294967296 := Nat.xor_lt_two_pow (n := 32) (crcGo_lt l (by decide)) (by decide)
theorem crcGo_append (a b : List UInt8) (r : Nat) : crcGo (a ++ b) r = crcGo b (crcGo a r) := by simp [crcGo, List.foldl_append]
theorem crcGo_take (l : List UInt8) (r i : Nat) (h : i < l.length) : crcGo (l.take (i + 1)) r = byteN (crcGo (l.take i) r) (l[i].toNat) := by
  rw [List.take_succ_eq_append_getElem h, crcGo_append]; rfl
abbrev sumNm : String := "packhorse/sum.table"
def STab (w : World) : Prop := Lib.TabBelow Tryz.prog w.heap.size w sumNm .u32 sumTab
theorem STab.on {w w' : World} (h : STab w) (hb : RowKit.Below w.heap.size w w') : STab w' := Lib.tabBelow_of_tabIs (Lib.TabBelow.on h hb).here
set_option maxRecDepth 100000 in
theorem refDown_any (x : Nat) (hx : x < 4294967296) (w : World) :
    Calls Tryz.prog 118 #[.int .u32 (x : Int)] w fun e w' => e = .returned (.int .u32 (down x : Nat)) ∧ w = w' := by
  by_cases h : x % 2 = 1
  · rw [show down x = x / 2 ^^^ 2197175160 from if_pos h]
    have e1 : bits .xor .u32 ((x : Int) / 2) 2197175160 = ((x / 2 ^^^ 2197175160 : Nat) : Int) := u32_xor_nat (x / 2) 2197175160 (by omega) (by omega)
    obtain ⟨y, hy⟩ : ∃ y, x / 2 ^^^ 2197175160 = y := ⟨_, rfl⟩
    rw [hy] at e1 ⊢
    clear hy
    go_enter Tryz.func118, Tryz.ntmps118
    go_wp2
    go_ret
    exact ⟨rfl, rfl⟩
  · rw [show down x = x / 2 from if_neg h]
    go_enter Tryz.func118, Tryz.ntmps118
    go_wp2
    go_ret
    exact ⟨ret_int (by omega), rfl⟩
set_option maxRecDepth 100000 in
theorem refByte32_any (r b : Nat) (hr : r < 4294967296) (hb : b < 256) (w : World) :
    Calls Tryz.prog 98 #[.int .u32 (r : Int), .int .u8 (b : Int)] w fun e w' => e = .returned (.int .u32 (byteN r b : Nat)) ∧ w = w' := by
  unfold byteN
  have e1 := u32_xor_nat r b hr (by omega)
  have hx : r ^^^ b < 4294967296 := Nat.xor_lt_two_pow (n := 32) (by omega) (by omega)
  obtain ⟨x, hxx⟩ : ∃ x, r ^^^ b = x := ⟨_, rfl⟩
  rw [hxx] at e1 hx ⊢
  have e0 : IntKind.u32.wrap (b : Int) = b := by rw [IntKind.wrap_u32']; omega
  clear hxx
  go_enter Tryz.func98, Tryz.ntmps98
  go_wp2
  go_loopw [0, 5] (fun xx ii wr => ∃ i : Nat, ii = .int .i64 i ∧ i ≤ 8 ∧ xx = .int .u32 (downs i x : Nat) ∧ w = wr) (fun _ ii _ => 8 - (intOf ii).toNat)
  case atStart => exact ⟨0, rfl, by omega, rfl, rfl⟩
  case round =>
    obtain ⟨i, rfl, hi, rfl, rfl⟩ := hrel
    have hd := downs_lt i hx
    by_cases h : i < 8
    · have g := refDown_any (downs i x) hd w
      rw [show down (downs i x) = downs (i + 1) x from rfl] at g
      replace g := Lib.hid g
      obtain ⟨z, hz⟩ : ∃ z, downs (i + 1) x = z := ⟨_, rfl⟩
      obtain ⟨y, hy⟩ : ∃ y, downs i x = y := ⟨_, rfl⟩
      rw [hz, hy] at g
      rw [hy] at hd ⊢
      have Hz := Lib.hid hz; clear hz hy
      go_wp2_with (go_at_call 118; (with_reducible refine g.out.mono ?_); rintro e wx ⟨rfl, rfl⟩)
      go_roundw
      case rel => exact ⟨i + 1, by go_num, by omega, by rw [Hz.out], by trivial⟩
      case measure => simp [intOf]; omega
    · obtain rfl : i = 8 := by omega
      go_wp2
      go_ret
      exact ⟨rfl, rfl⟩
set_option maxRecDepth 100000 in
theorem refCrc32_any (s : ByteArray) (hs : s.size ≤ 1000000) (w : World) :
    Calls Tryz.prog 81 #[.string s] w fun e w' => e = .returned (.int .u32 (crcN s.data.toList : Nat)) ∧ w = w' := by
  obtain ⟨cr, hcr⟩ : ∃ r, crcN s.data.toList = r := ⟨_, rfl⟩
  rw [hcr]
  have Hcr := Lib.hid hcr; clear hcr
  go_enter Tryz.func81, Tryz.ntmps81
  go_wp2
  go_loopw [3, 4] (fun xx ii wr => ∃ i : Nat, ii = .int .i64 i ∧ i ≤ s.size ∧ xx = .int .u32 (crcGo (s.data.toList.take i) 4294967295 : Nat) ∧ w = wr) (fun _ ii _ => s.size - (intOf ii).toNat)
  case atStart => exact ⟨0, rfl, by omega, rfl, rfl⟩
  case round =>
    obtain ⟨i, rfl, hi, rfl, rfl⟩ := hrel
    have hd := crcGo_lt (s.data.toList.take i) (r := 4294967295) (by decide)
    by_cases h : i < s.size
    · have hl : i < s.data.toList.length := by simpa using h
      have hz := crcGo_take s.data.toList 4294967295 i hl
      rw [show s.data.toList[i]'hl = s[i]'h from rfl] at hz
      obtain ⟨z, hz'⟩ : ∃ z, crcGo (s.data.toList.take (i + 1)) 4294967295 = z := ⟨_, rfl⟩
      obtain ⟨y, hy⟩ : ∃ y, crcGo (s.data.toList.take i) 4294967295 = y := ⟨_, rfl⟩
      rw [hy] at hd hz ⊢
      rw [hz'] at hz
      have g := refByte32_any y (s[i]'h).toNat hd (s[i]'h).toNat_lt w
      rw [← hz] at g
      replace g := Lib.hid g
      have Hz := Lib.hid hz'; clear hz' hy hz hl
      go_wp2_with (go_at_call 98; (with_reducible refine g.out.mono ?_); rintro e wx ⟨rfl, rfl⟩)
      go_roundw
      case rel => exact ⟨i + 1, by go_num, by omega, by rw [Hz.out], by trivial⟩
      case measure => simp [intOf]; omega
    · obtain rfl : i = s.size := by omega
      rw [List.take_of_length_le (by simp)] at hd ⊢
      have e1 := u32_xor_nat (crcGo s.data.toList 4294967295) 4294967295 hd (by omega)
      rw [show crcGo s.data.toList 4294967295 ^^^ 4294967295 = cr from Hcr.out] at e1
      obtain ⟨y, hy⟩ : ∃ y, crcGo s.data.toList 4294967295 = y := ⟨_, rfl⟩
      rw [hy] at e1 hd ⊢
      replace e1 : bits .xor .u32 (y : Int) 4294967295 = (cr : Int) := e1
      clear hy
      go_wp2
      go_ret
      exact ⟨rfl, rfl⟩
end Go.Proofs.YthfmkkkdjgkaoaaGreatDoor
namespace Go.Proofs.YthfmkkkdjgkaoaaGreatDoor
open Go.RowKit
def four (x : Nat) : List UInt8 := [UInt8.ofNat (x / 16777216), UInt8.ofNat (x / 65536), UInt8.ofNat (x / 256), UInt8.ofNat x]
def sealL (l : List UInt8) : List UInt8 := l ++ four (crcN l)
theorem u8_of (n : Nat) : IntKind.u8.wrap (n : Int) = ((UInt8.ofNat n).toNat : Int) := by
  rw [IntKind.wrap_u8', UInt8.toNat_ofNat']; omega
theorem Tryz.infoU8 : (Tryz.prog.info? 5).map (fun i => (i.zero, i.size, i.bytes)) = some (some (.int .u8 0), 1, 1) := by kernel_rfl
theorem four_bytes {P : Program} {src dst e : TypeId} (hs : P.underlying src = some (.slice e)) (he : P.underlying e = some (.int .u8)) (hd : P.underlying dst = some .string) (b0 b1 b2 b3 : UInt8) (w : World) :
    (convert src dst (.slice (some ⟨w.heap.size, 0, none⟩) 4 4)).run P (w.alloc (.cells #[.int .u8 (b0.toNat : Int), .int .u8 (b1.toNat : Int), .int .u8 (b2.toNat : Int), .int .u8 (b3.toNat : Int)] e)) = .ok (bstr [b0, b1, b2, b3]) (w.alloc (.cells #[.int .u8 (b0.toNat : Int), .int .u8 (b1.toNat : Int), .int .u8 (b2.toNat : Int), .int .u8 (b3.toNat : Int)] e)) := by
  refine run_convert_bytes_back _ _ _ e ⟨w.heap.size, 0, none⟩ 4 [b0, b1, b2, b3] hs he hd fun j hj => ?_
  rw [Addr.add_lit, Nat.zero_add]
  have h := heap_alloc_new w (.cells #[.int .u8 (b0.toNat : Int), .int .u8 (b1.toNat : Int), .int .u8 (b2.toNat : Int), .int .u8 (b3.toNat : Int)] e)
  simp only [World.cell?, h]
  match j, hj with
  | 0, _ => rfl
  | 1, _ => rfl
  | 2, _ => rfl
  | 3, _ => rfl
set_option maxRecDepth 100000 in
set_option maxHeartbeats 400000 in
theorem refFour_any (x : Nat) (hx : x < 4294967296) (w : World) :
    Calls Tryz.prog 80 #[.int .u32 (x : Int)] w fun e w' => e = .returned (bstr (four x)) ∧ Below w.heap.size w w' := by
  have q0 : IntKind.u8.wrap ((x : Int) / 16777216) = ((UInt8.ofNat (x / 16777216)).toNat : Int) := u8_of (x / 16777216)
  have q1 : IntKind.u8.wrap ((x : Int) / 65536) = ((UInt8.ofNat (x / 65536)).toNat : Int) := u8_of (x / 65536)
  have q2 : IntKind.u8.wrap ((x : Int) / 256) = ((UInt8.ofNat (x / 256)).toNat : Int) := u8_of (x / 256)
  have q3 : IntKind.u8.wrap (x : Int) = ((UInt8.ofNat x).toNat : Int) := u8_of x
  unfold four
  obtain ⟨b0, h0⟩ : ∃ b, UInt8.ofNat (x / 16777216) = b := ⟨_, rfl⟩
  obtain ⟨b1, h1⟩ : ∃ b, UInt8.ofNat (x / 65536) = b := ⟨_, rfl⟩
  obtain ⟨b2, h2⟩ : ∃ b, UInt8.ofNat (x / 256) = b := ⟨_, rfl⟩
  obtain ⟨b3, h3⟩ : ∃ b, UInt8.ofNat x = b := ⟨_, rfl⟩
  rw [h0] at q0 ⊢; rw [h1] at q1 ⊢; rw [h2] at q2 ⊢; rw [h3] at q3 ⊢
  clear h0 h1 h2 h3
  have hf := fun w => four_bytes (P := Tryz.prog) Tryz.underlying85 Tryz.underlying5 Tryz.underlying9 b0 b1 b2 b3 w
  go_enter Tryz.func80, Tryz.ntmps80
  go_wp2
  go_ret
  exact ⟨rfl, (Below.refl _ _).alloc (Nat.le_refl _) _⟩
end Go.Proofs.YthfmkkkdjgkaoaaGreatDoor
namespace Go.Proofs.YthfmkkkdjgkaoaaGreatDoor
open Go.RowKit
def wholeB (of to : Int) (n : Nat) : Bool := decide (of = 0 ∧ to = (n : Int))
def frontL (no sq of de pr bo li to : Nat) (wh : Bool) : List UInt8 :=
  UInt8.ofNat (176 + pr + if wh then 4 else 0) :: (putN no ++ putN sq ++ putN de ++ putN bo ++ putN li ++ if wh then [] else putN of ++ putN to)
def encL (no sq of de pr bo li to : Nat) (da : List UInt8) : List UInt8 :=
  sealL (frontL no sq of de pr bo li to (wholeB of to da.length) ++ putTextN da)
structure Dr where
  no : Int
  sq : Int
  of : Int
  de : Int
  pr : Int
  bo : Int
  li : Int
  to : Int
  da : List UInt8
  err : Int
  fat : Int
def Dr.bad (e a : Int) : Dr := ⟨0, 0, 0, 0, 0, 0, 0, 0, [], e, a⟩
theorem four_len (x : Nat) : (four x).length = 4 := rfl
theorem buC_nat {no sq of de pr bo li to n : Nat} (h : buC no sq of de pr bo li to n = 0) : 1 ≤ no ∧ no ≤ 16 ∧ sq ≤ 1099511627776 ∧ of ≤ 19999 ∧ 1 ≤ de ∧ de ≤ 16 ∧ pr ≤ 2 ∧ bo ≤ 1099511627776 ∧ 1 ≤ li ∧ li ≤ 1048576 ∧ 1 ≤ to ∧ to ≤ 20000 ∧ 1 ≤ n ∧ n ≤ 1000 ∧ of + n ≤ to := by
  obtain ⟨⟨a1, a2, a3, a4, a5⟩, ⟨b1, b2, b3, b4, b5, b6, b7, b8, b9, b10⟩, c1, c2, c3⟩ := buC_ok h
  omega
def frLen (no sq of de pr bo li to : Nat) (wh : Bool) : Nat := (frontL no sq of de pr bo li to wh).length
def szN (F n : Nat) : Nat := F + (putN n).length + n + 4
theorem encL_len (no sq of de pr bo li to : Nat) (da : List UInt8) : (encL no sq of de pr bo li to da).length = szN (frLen no sq of de pr bo li to (wholeB of to da.length)) da.length := by
  unfold encL sealL szN frLen putTextN
  simp [four_len]; omega
theorem frLen_le (no sq of de pr bo li to : Nat) (wh : Bool) : 6 ≤ frLen no sq of de pr bo li to wh ∧ frLen no sq of de pr bo li to wh ≤ 78 := by
  unfold frLen frontL
  have a1 := putN_length no
  have a2 := putN_length sq
  have a3 := putN_length of
  have a4 := putN_length de
  have a5 := putN_length bo
  have a6 := putN_length li
  have a7 := putN_length to
  cases wh <;> simp <;> omega
end Go.Proofs.YthfmkkkdjgkaoaaGreatDoor
namespace Go.Proofs.YthfmkkkdjgkaoaaGreatDoor
open Go.RowKit
def PtrRow (w : World) (b : Nat) (ns : List Nat) : Prop :=
  b < w.heap.size ∧ ∀ k (hk : k < ns.length), ∃ g o, g < w.heap.size ∧ w.cell? ⟨b, k, none⟩ = some (.pointer (some ⟨g, o, none⟩)) ∧ w.cell? ⟨g, o, none⟩ = some (.int .i64 (ns[k] : Nat))
theorem PtrRow.below {w w' : World} {b : Nat} {ns : List Nat} (h : PtrRow w b ns) (hb : Below w.heap.size w w') : PtrRow w' b ns := by
  refine ⟨Nat.lt_of_lt_of_le h.1 hb.size, fun k hk => ?_⟩
  obtain ⟨g, o, h1, h2, h3⟩ := h.2 k hk
  have e : ∀ x y, x < w.heap.size → w'.cell? ⟨x, y, none⟩ = w.cell? ⟨x, y, none⟩ := fun x y hx => by
    simp only [World.cell?, hb.block x hx]
  exact ⟨g, o, Nat.lt_of_lt_of_le h1 hb.size, by rw [e _ _ h.1]; exact h2, by rw [e _ _ h1]; exact h3⟩
def putAll (ns : List Nat) : List UInt8 := ns.flatMap putN
theorem putAll_len (ns : List Nat) : (putAll ns).length ≤ 11 * ns.length := by
  induction ns with
  | nil => simp [putAll]
  | cons n ns ih => have := (putN_length n).2; simp [putAll] at *; omega
theorem putAll_take (ns : List Nat) (k : Nat) (hk : k < ns.length) : putAll (ns.take (k + 1)) = putAll (ns.take k) ++ putN ns[k] := by
  unfold putAll
  rw [List.take_succ_eq_append_getElem hk, List.flatMap_append]
  simp only [List.flatMap_cons, List.flatMap_nil, List.append_nil]
set_option maxRecDepth 100000 in
theorem numbers_any (b : Nat) (ns : List Nat) (hn : ns.length ≤ 100) (hbd : ∀ n ∈ ns, n < 9223372036854775808) (w : World) (hp : PtrRow w b ns) :
    Calls Tryz.prog 100 #[.slice (some ⟨b, 0, none⟩) ns.length ns.length] w fun e w' => e = .returned (bstr (putAll ns)) ∧ Below w.heap.size w w' := by
  have HP := Lib.hid hp; clear hp
  have HB := Lib.hid hbd; clear hbd
  go_enter Tryz.func100, Tryz.ntmps100
  go_wp2
  go_loopw [3, 8] (fun s ii wr => ∃ k : Nat, ii = .int .i64 k ∧ k ≤ ns.length ∧ s = bstr (putAll (ns.take k)) ∧ Below w.heap.size w wr) (fun _ ii _ => ns.length - (intOf ii).toNat)
  case atStart => exact ⟨0, rfl, by omega, rfl, Below.refl _ _⟩
  case round =>
    obtain ⟨k, rfl, hk, rfl, hb⟩ := hrel
    by_cases h : k < ns.length
    · obtain ⟨g, o, h1, h2, h3⟩ := (HP.out.below hb).2 k h
      have hx := HB.out _ (List.getElem_mem h)
      have hl := putAll_len (ns.take k)
      have hs := putAll_take ns k h
      have hl2 : (putAll (ns.take k)).length ≤ 1100 := by rw [List.length_take] at hl; omega
      obtain ⟨x, hx'⟩ : ∃ x, ns[k] = x := ⟨_, rfl⟩
      rw [hx'] at h3 hx hs
      have hcv : IntKind.u64.wrap (x : Int) = (x : Int) := IntWalk.u64_in _ (by omega)
      obtain ⟨p, hp⟩ : ∃ p : ByteArray, p = ⟨(putN x).toArray⟩ := ⟨_, rfl⟩
      obtain ⟨q, hq⟩ : ∃ q : ByteArray, q = ⟨(putAll (ns.take k)).toArray⟩ := ⟨_, rfl⟩
      have cp : ∀ w, Calls Tryz.prog 101 #[.int .u64 x] w fun e w' => e = .returned (.string p) ∧ Below w.heap.size w w' := fun w => by rw [hp]; exact numPut_any x (by omega) w
      have hps : p.size ≤ 11 := by rw [hp, bsize]; exact (putN_length _).2
      have hqs : q.size ≤ 1100 := by rw [hq, bsize]; exact hl2
      have fin : Value.string (q ++ p) = bstr (putAll (ns.take (k + 1))) := vstr (by rw [hp, hq, hs]; simp)
      have Fin := Lib.hid fin; clear fin hs hl hl2
      rw [show bstr (putAll (ns.take k)) = .string q by rw [hq]; rfl]
      clear hp hq hx'
      have Cp := Lib.hid cp; clear cp
      go_wp2_with (go_at_call 101; (with_reducible refine (Cp.out _).mono ?_); rintro e wb ⟨rfl, hb2⟩)
      go_roundw
      case rel => exact ⟨k + 1, by go_num, by omega, Fin.out, bt hb hb2⟩
      case measure => simp [intOf]; omega
    · obtain rfl : k = ns.length := by omega
      rw [List.take_of_length_le (by omega)]
      go_wp2
      go_ret
      exact ⟨rfl, hb⟩
end Go.Proofs.YthfmkkkdjgkaoaaGreatDoor
namespace Go.Proofs.YthfmkkkdjgkaoaaGreatDoor
open Go.RowKit
set_option maxRecDepth 100000 in
set_option maxHeartbeats 800000 in
theorem whole_any (no sq of de pr bo li to : Int) (da : ByteArray) (hda : da.size ≤ maxLen) (w : World) :
    Calls Tryz.prog 99 #[buv no sq of de pr bo li to da] w fun e w' => e = .returned (.bool (wholeB of to da.size)) ∧ Below w.heap.size w w' := by
  unfold maxLen at hda
  unfold wholeB
  by_cases h1 : of = 0
  · subst h1
    by_cases h2 : to = (da.size : Int)
    · rw [show decide ((0 : Int) = 0 ∧ to = (da.size : Int)) = true by simp [h2]]
      subst h2
      go_enter Tryz.func99, Tryz.ntmps99
      go_wp2
      go_ret
      exact ⟨rfl, by (repeat (first | (with_reducible assumption) | (with_reducible exact Below.refl _ _) | (with_reducible refine beld_drew ?_) | ((with_reducible refine bset' ?_ ?_); (first | (focus (dsimp only; assumption)) | (focus (simp; done)) | (focus (dsimp only; omega)))) | (with_reducible refine belt_alloc ?_) | ((with_reducible refine zeroed_below' ?_ ?_); (first | (focus (simp; done)) | (focus (dsimp only; omega)))) | (with_reducible refine bt ?_ (by assumption))))⟩
    · rw [show decide ((0 : Int) = 0 ∧ to = (da.size : Int)) = false by simp [h2]]
      have e2 : (to == (da.size : Int)) = false := by simp [h2]
      go_enter Tryz.func99, Tryz.ntmps99
      go_wp2
      go_ret
      exact ⟨rfl, by (repeat (first | (with_reducible assumption) | (with_reducible exact Below.refl _ _) | (with_reducible refine beld_drew ?_) | ((with_reducible refine bset' ?_ ?_); (first | (focus (dsimp only; assumption)) | (focus (simp; done)) | (focus (dsimp only; omega)))) | (with_reducible refine belt_alloc ?_) | ((with_reducible refine zeroed_below' ?_ ?_); (first | (focus (simp; done)) | (focus (dsimp only; omega)))) | (with_reducible refine bt ?_ (by assumption))))⟩
  · rw [show decide (of = 0 ∧ to = (da.size : Int)) = false by simp [h1]]
    have e1 : (of == 0) = false := by simp [h1]
    go_enter Tryz.func99, Tryz.ntmps99
    go_wp2
    go_ret
    exact ⟨rfl, by (repeat (first | (with_reducible assumption) | (with_reducible exact Below.refl _ _) | (with_reducible refine beld_drew ?_) | ((with_reducible refine bset' ?_ ?_); (first | (focus (dsimp only; assumption)) | (focus (simp; done)) | (focus (dsimp only; omega)))) | (with_reducible refine belt_alloc ?_) | ((with_reducible refine zeroed_below' ?_ ?_); (first | (focus (simp; done)) | (focus (dsimp only; omega)))) | (with_reducible refine bt ?_ (by assumption))))⟩
set_option maxRecDepth 100000 in
set_option maxHeartbeats 800000 in
theorem refWhole_any (no sq of de pr bo li to : Int) (da : ByteArray) (hda : da.size ≤ maxLen) (w : World) :
    Calls Tryz.prog 96 #[buv no sq of de pr bo li to da] w fun e w' => e = .returned (.bool (wholeB of to da.size)) ∧ Below w.heap.size w w' := by
  unfold maxLen at hda
  unfold wholeB
  by_cases h1 : of = 0
  · subst h1
    by_cases h2 : to = (da.size : Int)
    · rw [show decide ((0 : Int) = 0 ∧ to = (da.size : Int)) = true by simp [h2]]
      subst h2
      go_enter Tryz.func96, Tryz.ntmps96
      go_wp2
      go_ret
      exact ⟨rfl, by (repeat (first | (with_reducible assumption) | (with_reducible exact Below.refl _ _) | (with_reducible refine beld_drew ?_) | ((with_reducible refine bset' ?_ ?_); (first | (focus (dsimp only; assumption)) | (focus (simp; done)) | (focus (dsimp only; omega)))) | (with_reducible refine belt_alloc ?_) | ((with_reducible refine zeroed_below' ?_ ?_); (first | (focus (simp; done)) | (focus (dsimp only; omega)))) | (with_reducible refine bt ?_ (by assumption))))⟩
    · rw [show decide ((0 : Int) = 0 ∧ to = (da.size : Int)) = false by simp [h2]]
      have e2 : (to == (da.size : Int)) = false := by simp [h2]
      go_enter Tryz.func96, Tryz.ntmps96
      go_wp2
      go_ret
      exact ⟨rfl, by (repeat (first | (with_reducible assumption) | (with_reducible exact Below.refl _ _) | (with_reducible refine beld_drew ?_) | ((with_reducible refine bset' ?_ ?_); (first | (focus (dsimp only; assumption)) | (focus (simp; done)) | (focus (dsimp only; omega)))) | (with_reducible refine belt_alloc ?_) | ((with_reducible refine zeroed_below' ?_ ?_); (first | (focus (simp; done)) | (focus (dsimp only; omega)))) | (with_reducible refine bt ?_ (by assumption))))⟩
  · rw [show decide (of = 0 ∧ to = (da.size : Int)) = false by simp [h1]]
    have e1 : (of == 0) = false := by simp [h1]
    go_enter Tryz.func96, Tryz.ntmps96
    go_wp2
    go_ret
    exact ⟨rfl, by (repeat (first | (with_reducible assumption) | (with_reducible exact Below.refl _ _) | (with_reducible refine beld_drew ?_) | ((with_reducible refine bset' ?_ ?_); (first | (focus (dsimp only; assumption)) | (focus (simp; done)) | (focus (dsimp only; omega)))) | (with_reducible refine belt_alloc ?_) | ((with_reducible refine zeroed_below' ?_ ?_); (first | (focus (simp; done)) | (focus (dsimp only; omega)))) | (with_reducible refine bt ?_ (by assumption))))⟩
theorem refPut_str (n : Nat) (hn : n < 9223372036854775808) : ∃ p : ByteArray, p.data.toList = putN n ∧ p.size ≤ 11 ∧ ∀ w, Calls Tryz.prog 97 #[.int .u64 (n : Int)] w fun e w' => e = .returned (.string p) ∧ Below w.heap.size w w' :=
  ⟨⟨(putN n).toArray⟩, rfl, by rw [bsize]; exact (putN_length n).2, fun w => refPut_any n w (by omega)⟩
theorem numPut_str (n : Nat) (hn : n < 9223372036854775808) : ∃ p : ByteArray, p.data.toList = putN n ∧ p.size ≤ 11 ∧ ∀ w, Calls Tryz.prog 101 #[.int .u64 (n : Int)] w fun e w' => e = .returned (.string p) ∧ Below w.heap.size w w' :=
  ⟨⟨(putN n).toArray⟩, rfl, by rw [bsize]; exact (putN_length n).2, fun w => numPut_any n (by omega) w⟩
set_option maxRecDepth 100000 in
set_option maxHeartbeats 3200000 in
theorem refFront_whole (no sq of de pr bo li to : Nat) (da : ByteArray) (hda : da.size ≤ maxLen) (h1 : no < 9223372036854775808) (h2 : sq < 9223372036854775808) (h3 : of < 9223372036854775808) (h4 : de < 9223372036854775808) (h5 : pr ≤ 2) (h6 : bo < 9223372036854775808) (h7 : li < 9223372036854775808) (h8 : to < 9223372036854775808)
    (hw : wholeB of to da.size = true) (w : World) :
    Calls Tryz.prog 78 #[buv no sq of de pr bo li to da] w fun e w' => e = .returned (bstr (frontL no sq of de pr bo li to true)) ∧ Below w.heap.size w w' := by
  have g1 := fun w => refWhole_any no sq of de pr bo li to da hda w
  rw [hw] at g1
  replace g1 := Lib.hid g1
  obtain ⟨p1, y1, z1, c1⟩ := refPut_str no h1
  obtain ⟨p2, y2, z2, c2⟩ := refPut_str sq h2
  obtain ⟨p3, y3, z3, c3⟩ := refPut_str de h4
  obtain ⟨p4, y4, z4, c4⟩ := refPut_str bo h6
  obtain ⟨p5, y5, z5, c5⟩ := refPut_str li h7
  replace c1 := Lib.hid c1; replace c2 := Lib.hid c2; replace c3 := Lib.hid c3; replace c4 := Lib.hid c4; replace c5 := Lib.hid c5
  have q1 : IntKind.u64.wrap (no : Int) = (no : Int) := IntWalk.u64_in _ (by omega)
  have q3 : IntKind.u64.wrap (de : Int) = (de : Int) := IntWalk.u64_in _ (by omega)
  have q4 : IntKind.u64.wrap (bo : Int) = (bo : Int) := IntWalk.u64_in _ (by omega)
  have q5 : IntKind.u64.wrap (li : Int) = (li : Int) := IntWalk.u64_in _ (by omega)
  have q0 : IntKind.u8.wrap (176 + (pr : Int) + 4) = ((180 + pr : Nat) : Int) := by rw [IntKind.wrap_u8']; omega
  have hob := fun x w => one_byte (P := Tryz.prog) Tryz.underlying85 Tryz.underlying5 Tryz.underlying9 x w
  obtain ⟨R, hR⟩ : ∃ R, frontL no sq of de pr bo li to true = R := ⟨_, rfl⟩
  rw [hR]
  have fin : ∀ b : UInt8, b = UInt8.ofNat (180 + pr) → bstr R = .string (((((⟨#[b]⟩ ++ p1) ++ p2) ++ p3) ++ p4) ++ p5) := fun b hb => by
    rw [← hR, hb]
    refine (vstr ?_).symm
    simp [frontL, y1, y2, y3, y4, y5, show 176 + pr + 4 = 180 + pr by omega]
  have u8p : 180 + UInt8.ofNat pr = UInt8.ofNat (180 + pr) := by rw [UInt8.ofNat_add]; rfl
  have Fin := Lib.hid fin
  replace u8p := Lib.hid u8p
  clear fin hR y1 y2 y3 y4 y5 hw
  go_enter Tryz.func78, Tryz.ntmps78
  go_wp2_with fail
  (with_reducible refine (g1.out _).mono ?_)
  rintro e w1 ⟨rfl, hw1⟩
  have kk1 : blk w1 (w.heap.size) = some #[.int .i64 (no : Int), .int .u64 (sq : Int), .int .i64 (of : Int), .int .i64 (de : Int), .int .i64 (pr : Int), .int .i64 (bo : Int), .int .i64 (li : Int), .int .i64 (to : Int), .string da] := (by (apply blk_to; (focus (repeat (first | (with_reducible assumption) | (with_reducible apply blk_drew) | (with_reducible apply blk_set) | ((with_reducible apply blk_other'); (first | (focus (dsimp only; assumption)) | (focus (simp; done)) | (focus (dsimp only; omega)))) | ((with_reducible apply blk_alloc_new); (first | (with_reducible rfl) | (focus (simp; done)) | (focus (simp; omega)))) | (with_reducible apply blk_alloc) | ((with_reducible apply blk_below); (with_reducible assumption))))); rfl))
  have kn1 := kn kk1
  have bw1 : Below w.heap.size w w1 := (by (repeat (first | (with_reducible assumption) | (with_reducible exact Below.refl _ _) | (with_reducible refine beld_drew ?_) | ((with_reducible refine bset' ?_ ?_); (first | (focus (dsimp only; assumption)) | (focus (simp; done)) | (focus (dsimp only; omega)))) | (with_reducible refine belt_alloc ?_) | ((with_reducible refine zeroed_below' ?_ ?_); (first | (focus (simp; done)) | (focus (dsimp only; omega)))) | (with_reducible refine bt ?_ (by assumption)))))
  have sw1 := bw1.size
  clear hw1
  go_wp2_with fail
  refine wp_region_in (by kernel_rfl) (by kernel_rfl) ?_
  intro W0_2 hE_2 hN_2
  have bW0_2 : Below w.heap.size w W0_2 := (by rw [hE_2.out]; (repeat (first | (with_reducible assumption) | (with_reducible exact Below.refl _ _) | (with_reducible refine beld_drew ?_) | ((with_reducible refine bset' ?_ ?_); (first | (focus (dsimp only; assumption)) | (focus (simp; done)) | (focus (dsimp only; omega)))) | (with_reducible refine belt_alloc ?_) | ((with_reducible refine zeroed_below' ?_ ?_); (first | (focus (simp; done)) | (focus (dsimp only; omega)))) | (with_reducible refine bt ?_ (by assumption)))))
  have kk3 : blk W0_2 (w.heap.size) = some #[.int .i64 (no : Int), .int .u64 (sq : Int), .int .i64 (of : Int), .int .i64 (de : Int), .int .i64 (pr : Int), .int .i64 (bo : Int), .int .i64 (li : Int), .int .i64 (to : Int), .string da] := (by rw [hE_2.out]; (apply blk_to; (focus (repeat (first | (with_reducible assumption) | (with_reducible apply blk_drew) | (with_reducible apply blk_set) | ((with_reducible apply blk_other'); (first | (focus (dsimp only; assumption)) | (focus (simp; done)) | (focus (dsimp only; omega)))) | ((with_reducible apply blk_alloc_new); (first | (with_reducible rfl) | (focus (simp; done)) | (focus (simp; omega)))) | (with_reducible apply blk_alloc) | ((with_reducible apply blk_below); (with_reducible assumption))))); rfl))
  clear kk1 kn1
  have kn3 := calm_kn kk3
  clear hE_2
  repeat (go_big_quiet_step ((first | (go_at_call 97; (with_reducible refine Class.go _ (c1.out _))) | (go_at_call 97; (with_reducible refine Class.go _ (c2.out _))) | (go_at_call 97; (with_reducible refine Class.go _ (c3.out _))) | (go_at_call 97; (with_reducible refine Class.go _ (c4.out _))) | (go_at_call 97; (with_reducible refine Class.go _ (c5.out _))))))
  refine wpQuiet_nil ?_
  rintro _ ⟨x_2, rfl⟩
  have hx_2 : Calm W0_2 x_2.wd := x_2.ok
  have bw2 : Below w.heap.size w x_2.wd := bt bW0_2 hx_2
  clear kn3; replace kk3 := blk_below hx_2 kk3; have kn3 := kn kk3
  clear hx_2 bW0_2 hN_2 bw1
  generalize x_2.wd = w2 at *
  have sw2 := bw2.size
  go_wp2_with fail
  (with_reducible refine (g1.out _).mono ?_)
  rintro e w3 ⟨rfl, hw3⟩
  have kk4 : blk w3 (w.heap.size) = some #[.int .i64 (no : Int), .int .u64 (sq : Int), .int .i64 (of : Int), .int .i64 (de : Int), .int .i64 (pr : Int), .int .i64 (bo : Int), .int .i64 (li : Int), .int .i64 (to : Int), .string da] := (by (apply blk_to; (focus (repeat (first | (with_reducible assumption) | (with_reducible apply blk_drew) | (with_reducible apply blk_set) | ((with_reducible apply blk_other'); (first | (focus (dsimp only; assumption)) | (focus (simp; done)) | (focus (dsimp only; omega)))) | ((with_reducible apply blk_alloc_new); (first | (with_reducible rfl) | (focus (simp; done)) | (focus (simp; omega)))) | (with_reducible apply blk_alloc) | ((with_reducible apply blk_below); (with_reducible assumption))))); rfl))
  clear kk3 kn3
  have kn4 := kn kk4
  have bw3 : Below w.heap.size w w3 := (by (repeat (first | (with_reducible assumption) | (with_reducible exact Below.refl _ _) | (with_reducible refine beld_drew ?_) | ((with_reducible refine bset' ?_ ?_); (first | (focus (dsimp only; assumption)) | (focus (simp; done)) | (focus (dsimp only; omega)))) | (with_reducible refine belt_alloc ?_) | ((with_reducible refine zeroed_below' ?_ ?_); (first | (focus (simp; done)) | (focus (dsimp only; omega)))) | (with_reducible refine bt ?_ (by assumption)))))
  have sw3 := bw3.size
  clear hw3 bw2
  go_wp2
  go_ret
  exact ⟨(congrArg Ending.returned (Fin.out _ u8p.out)).symm, by (repeat (first | (with_reducible assumption) | (with_reducible exact Below.refl _ _) | (with_reducible refine beld_drew ?_) | ((with_reducible refine bset' ?_ ?_); (first | (focus (dsimp only; assumption)) | (focus (simp; done)) | (focus (dsimp only; omega)))) | (with_reducible refine belt_alloc ?_) | ((with_reducible refine zeroed_below' ?_ ?_); (first | (focus (simp; done)) | (focus (dsimp only; omega)))) | (with_reducible refine bt ?_ (by assumption))))⟩
set_option maxRecDepth 100000 in
set_option maxHeartbeats 3200000 in
theorem refFront_part (no sq of de pr bo li to : Nat) (da : ByteArray) (hda : da.size ≤ maxLen) (h1 : no < 9223372036854775808) (h2 : sq < 9223372036854775808) (h3 : of < 9223372036854775808) (h4 : de < 9223372036854775808) (h5 : pr ≤ 2) (h6 : bo < 9223372036854775808) (h7 : li < 9223372036854775808) (h8 : to < 9223372036854775808)
    (hw : wholeB of to da.size = false) (w : World) :
    Calls Tryz.prog 78 #[buv no sq of de pr bo li to da] w fun e w' => e = .returned (bstr (frontL no sq of de pr bo li to false)) ∧ Below w.heap.size w w' := by
  have g1 := fun w => refWhole_any no sq of de pr bo li to da hda w
  rw [hw] at g1
  replace g1 := Lib.hid g1
  obtain ⟨p1, y1, z1, c1⟩ := refPut_str no h1
  obtain ⟨p2, y2, z2, c2⟩ := refPut_str sq h2
  obtain ⟨p3, y3, z3, c3⟩ := refPut_str de h4
  obtain ⟨p4, y4, z4, c4⟩ := refPut_str bo h6
  obtain ⟨p5, y5, z5, c5⟩ := refPut_str li h7
  obtain ⟨p6, y6, z6, c6⟩ := refPut_str of h3
  obtain ⟨p7, y7, z7, c7⟩ := refPut_str to h8
  replace c1 := Lib.hid c1; replace c2 := Lib.hid c2; replace c3 := Lib.hid c3; replace c4 := Lib.hid c4; replace c5 := Lib.hid c5; replace c6 := Lib.hid c6; replace c7 := Lib.hid c7
  have q1 : IntKind.u64.wrap (no : Int) = (no : Int) := IntWalk.u64_in _ (by omega)
  have q3 : IntKind.u64.wrap (de : Int) = (de : Int) := IntWalk.u64_in _ (by omega)
  have q4 : IntKind.u64.wrap (bo : Int) = (bo : Int) := IntWalk.u64_in _ (by omega)
  have q5 : IntKind.u64.wrap (li : Int) = (li : Int) := IntWalk.u64_in _ (by omega)
  have q6 : IntKind.u64.wrap (of : Int) = (of : Int) := IntWalk.u64_in _ (by omega)
  have q7 : IntKind.u64.wrap (to : Int) = (to : Int) := IntWalk.u64_in _ (by omega)
  have q0 : IntKind.u8.wrap (176 + (pr : Int)) = ((176 + pr : Nat) : Int) := by rw [IntKind.wrap_u8']; omega
  have hob := fun x w => one_byte (P := Tryz.prog) Tryz.underlying85 Tryz.underlying5 Tryz.underlying9 x w
  obtain ⟨R, hR⟩ : ∃ R, frontL no sq of de pr bo li to false = R := ⟨_, rfl⟩
  rw [hR]
  have fin : ∀ b : UInt8, b = UInt8.ofNat (176 + pr) → bstr R = .string (((((((⟨#[b]⟩ ++ p1) ++ p2) ++ p3) ++ p4) ++ p5) ++ p6) ++ p7) := fun b hb => by
    rw [← hR, hb]
    refine (vstr ?_).symm
    simp [frontL, y1, y2, y3, y4, y5, y6, y7]
  have u8p : 176 + UInt8.ofNat pr = UInt8.ofNat (176 + pr) := by rw [UInt8.ofNat_add]; rfl
  have Fin := Lib.hid fin
  replace u8p := Lib.hid u8p
  clear fin hR y1 y2 y3 y4 y5 y6 y7 hw
  go_enter Tryz.func78, Tryz.ntmps78
  go_wp2_with fail
  (with_reducible refine (g1.out _).mono ?_)
  rintro e w1 ⟨rfl, hw1⟩
  have kk5 : blk w1 (w.heap.size) = some #[.int .i64 (no : Int), .int .u64 (sq : Int), .int .i64 (of : Int), .int .i64 (de : Int), .int .i64 (pr : Int), .int .i64 (bo : Int), .int .i64 (li : Int), .int .i64 (to : Int), .string da] := (by (apply blk_to; (focus (repeat (first | (with_reducible assumption) | (with_reducible apply blk_drew) | (with_reducible apply blk_set) | ((with_reducible apply blk_other'); (first | (focus (dsimp only; assumption)) | (focus (simp; done)) | (focus (dsimp only; omega)))) | ((with_reducible apply blk_alloc_new); (first | (with_reducible rfl) | (focus (simp; done)) | (focus (simp; omega)))) | (with_reducible apply blk_alloc) | ((with_reducible apply blk_below); (with_reducible assumption))))); rfl))
  have kn5 := kn kk5
  have bw1 : Below w.heap.size w w1 := (by (repeat (first | (with_reducible assumption) | (with_reducible exact Below.refl _ _) | (with_reducible refine beld_drew ?_) | ((with_reducible refine bset' ?_ ?_); (first | (focus (dsimp only; assumption)) | (focus (simp; done)) | (focus (dsimp only; omega)))) | (with_reducible refine belt_alloc ?_) | ((with_reducible refine zeroed_below' ?_ ?_); (first | (focus (simp; done)) | (focus (dsimp only; omega)))) | (with_reducible refine bt ?_ (by assumption)))))
  have sw1 := bw1.size
  clear hw1
  go_wp2_with fail
  refine wp_region_in (by kernel_rfl) (by kernel_rfl) ?_
  intro W0_6 hE_6 hN_6
  have bW0_6 : Below w.heap.size w W0_6 := (by rw [hE_6.out]; (repeat (first | (with_reducible assumption) | (with_reducible exact Below.refl _ _) | (with_reducible refine beld_drew ?_) | ((with_reducible refine bset' ?_ ?_); (first | (focus (dsimp only; assumption)) | (focus (simp; done)) | (focus (dsimp only; omega)))) | (with_reducible refine belt_alloc ?_) | ((with_reducible refine zeroed_below' ?_ ?_); (first | (focus (simp; done)) | (focus (dsimp only; omega)))) | (with_reducible refine bt ?_ (by assumption)))))
  have kk7 : blk W0_6 (w.heap.size) = some #[.int .i64 (no : Int), .int .u64 (sq : Int), .int .i64 (of : Int), .int .i64 (de : Int), .int .i64 (pr : Int), .int .i64 (bo : Int), .int .i64 (li : Int), .int .i64 (to : Int), .string da] := (by rw [hE_6.out]; (apply blk_to; (focus (repeat (first | (with_reducible assumption) | (with_reducible apply blk_drew) | (with_reducible apply blk_set) | ((with_reducible apply blk_other'); (first | (focus (dsimp only; assumption)) | (focus (simp; done)) | (focus (dsimp only; omega)))) | ((with_reducible apply blk_alloc_new); (first | (with_reducible rfl) | (focus (simp; done)) | (focus (simp; omega)))) | (with_reducible apply blk_alloc) | ((with_reducible apply blk_below); (with_reducible assumption))))); rfl))
  clear kk5 kn5
  have kn7 := calm_kn kk7
  clear hE_6
  repeat (go_big_quiet_step ((first | (go_at_call 97; (with_reducible refine Class.go _ (c1.out _))) | (go_at_call 97; (with_reducible refine Class.go _ (c2.out _))) | (go_at_call 97; (with_reducible refine Class.go _ (c3.out _))) | (go_at_call 97; (with_reducible refine Class.go _ (c4.out _))) | (go_at_call 97; (with_reducible refine Class.go _ (c5.out _))))))
  refine wpQuiet_nil ?_
  rintro _ ⟨x_6, rfl⟩
  have hx_6 : Calm W0_6 x_6.wd := x_6.ok
  have bw2 : Below w.heap.size w x_6.wd := bt bW0_6 hx_6
  clear kn7; replace kk7 := blk_below hx_6 kk7; have kn7 := kn kk7
  clear hx_6 bW0_6 hN_6 bw1
  generalize x_6.wd = w2 at *
  have sw2 := bw2.size
  go_wp2_with fail
  (with_reducible refine (g1.out _).mono ?_)
  rintro e w3 ⟨rfl, hw3⟩
  have kk8 : blk w3 (w.heap.size) = some #[.int .i64 (no : Int), .int .u64 (sq : Int), .int .i64 (of : Int), .int .i64 (de : Int), .int .i64 (pr : Int), .int .i64 (bo : Int), .int .i64 (li : Int), .int .i64 (to : Int), .string da] := (by (apply blk_to; (focus (repeat (first | (with_reducible assumption) | (with_reducible apply blk_drew) | (with_reducible apply blk_set) | ((with_reducible apply blk_other'); (first | (focus (dsimp only; assumption)) | (focus (simp; done)) | (focus (dsimp only; omega)))) | ((with_reducible apply blk_alloc_new); (first | (with_reducible rfl) | (focus (simp; done)) | (focus (simp; omega)))) | (with_reducible apply blk_alloc) | ((with_reducible apply blk_below); (with_reducible assumption))))); rfl))
  clear kk7 kn7
  have kn8 := kn kk8
  have bw3 : Below w.heap.size w w3 := (by (repeat (first | (with_reducible assumption) | (with_reducible exact Below.refl _ _) | (with_reducible refine beld_drew ?_) | ((with_reducible refine bset' ?_ ?_); (first | (focus (dsimp only; assumption)) | (focus (simp; done)) | (focus (dsimp only; omega)))) | (with_reducible refine belt_alloc ?_) | ((with_reducible refine zeroed_below' ?_ ?_); (first | (focus (simp; done)) | (focus (dsimp only; omega)))) | (with_reducible refine bt ?_ (by assumption)))))
  have sw3 := bw3.size
  clear hw3 bw2
  go_wp2_with fail
  refine wp_region_in (by kernel_rfl) (by kernel_rfl) ?_
  intro W0_9 hE_9 hN_9
  have bW0_9 : Below w.heap.size w W0_9 := (by rw [hE_9.out]; (repeat (first | (with_reducible assumption) | (with_reducible exact Below.refl _ _) | (with_reducible refine beld_drew ?_) | ((with_reducible refine bset' ?_ ?_); (first | (focus (dsimp only; assumption)) | (focus (simp; done)) | (focus (dsimp only; omega)))) | (with_reducible refine belt_alloc ?_) | ((with_reducible refine zeroed_below' ?_ ?_); (first | (focus (simp; done)) | (focus (dsimp only; omega)))) | (with_reducible refine bt ?_ (by assumption)))))
  have kk10 : blk W0_9 (w.heap.size) = some #[.int .i64 (no : Int), .int .u64 (sq : Int), .int .i64 (of : Int), .int .i64 (de : Int), .int .i64 (pr : Int), .int .i64 (bo : Int), .int .i64 (li : Int), .int .i64 (to : Int), .string da] := (by rw [hE_9.out]; (apply blk_to; (focus (repeat (first | (with_reducible assumption) | (with_reducible apply blk_drew) | (with_reducible apply blk_set) | ((with_reducible apply blk_other'); (first | (focus (dsimp only; assumption)) | (focus (simp; done)) | (focus (dsimp only; omega)))) | ((with_reducible apply blk_alloc_new); (first | (with_reducible rfl) | (focus (simp; done)) | (focus (simp; omega)))) | (with_reducible apply blk_alloc) | ((with_reducible apply blk_below); (with_reducible assumption))))); rfl))
  clear kk8 kn8
  have kn10 := calm_kn kk10
  clear hE_9
  repeat (go_big_quiet_step ((first | (go_at_call 97; (with_reducible refine Class.go _ (c6.out _))) | (go_at_call 97; (with_reducible refine Class.go _ (c7.out _))))))
  refine wpQuiet_nil ?_
  rintro _ ⟨x_9, rfl⟩
  have hx_9 : Calm W0_9 x_9.wd := x_9.ok
  have bw4 : Below w.heap.size w x_9.wd := bt bW0_9 hx_9
  clear kn10; replace kk10 := blk_below hx_9 kk10; have kn10 := kn kk10
  clear hx_9 bW0_9 hN_9 bw3
  generalize x_9.wd = w4 at *
  have sw4 := bw4.size
  go_wp2
  go_ret
  exact ⟨(congrArg Ending.returned (Fin.out _ u8p.out)).symm, by (repeat (first | (with_reducible assumption) | (with_reducible exact Below.refl _ _) | (with_reducible refine beld_drew ?_) | ((with_reducible refine bset' ?_ ?_); (first | (focus (dsimp only; assumption)) | (focus (simp; done)) | (focus (dsimp only; omega)))) | (with_reducible refine belt_alloc ?_) | ((with_reducible refine zeroed_below' ?_ ?_); (first | (focus (simp; done)) | (focus (dsimp only; omega)))) | (with_reducible refine bt ?_ (by assumption))))⟩
end Go.Proofs.YthfmkkkdjgkaoaaGreatDoor
