/- The four bytes of a sum, and sealed texts. -/
import Derived.Test.YtiphddlakbbfiaaDoorWiSum
import Derived.Test.YtiphddlakbbfiaaDoorBytes
import Derived.OwnWalk
import Derived.Laws.OwnMore
import Derived.Maps.AppendAt
namespace Go.Proofs.YtiphddlakbbfiaaDoor
set_option linter.unusedVariables false
open Go.RowKit

/-- The four bytes of a sum, the great end first. -/
def four (x : Nat) : List UInt8 := [UInt8.ofNat (x / 16777216), UInt8.ofNat (x / 65536), UInt8.ofNat (x / 256), UInt8.ofNat x]
def sealL (l : List UInt8) : List UInt8 := l ++ four (crcN l)
theorem u8_of (n : Nat) : IntKind.u8.wrap (n : Int) = ((UInt8.ofNat n).toNat : Int) := by
  rw [IntKind.wrap_u8', UInt8.toNat_ofNat']; omega
theorem Tryd.infoU8 : (Tryd.prog.info? 5).map (fun i => (i.zero, i.size, i.bytes)) = some (some (.int .u8 0), 1, 1) := by kernel_rfl

set_option maxRecDepth 100000 in
theorem size32_any (x : Nat) (w : World) :
    Calls Tryd.prog 66 #[.int .u32 (x : Int)] w fun e w' => e = .returned (.int .i64 4) ∧ w = w' := by
  go_enter Tryd.func66, Tryd.ntmps66
  iterate 17 go_step
  rw [show bits BinOp.xor IntKind.u32 (if IntKind.u32.signed = true then -1 else IntKind.u32.max) 0 = 4294967295 by decide]
  go_wp2
  go_ret
  exact ⟨rfl, rfl⟩
set_option maxRecDepth 100000 in
set_option maxHeartbeats 1600000 in
theorem text_any (x : Nat) (hx : x < 4294967296) (w : World) :
    Calls Tryd.prog 51 #[.int .u32 (x : Int)] w fun e w' => e = .returned (bstr (four x)) ∧ Below w.heap.size w w' := by
  obtain ⟨i0, hi, hz0, hz1, hz2⟩ := info_parts Tryd.infoU8
  have Hi := Lib.hid hi; clear hi
  have Hz0 := Lib.hid hz0; clear hz0
  have Hz1 := Lib.hid hz1; clear hz1
  have Hz2 := Lib.hid hz2; clear hz2
  have q0 : IntKind.u8.wrap ((x : Int) / 16777216) = ((UInt8.ofNat (x / 16777216)).toNat : Int) := u8_of (x / 16777216)
  have q1 : IntKind.u8.wrap ((x : Int) / 65536) = ((UInt8.ofNat (x / 65536)).toNat : Int) := u8_of (x / 65536)
  have q2 : IntKind.u8.wrap ((x : Int) / 256) = ((UInt8.ofNat (x / 256)).toNat : Int) := u8_of (x / 256)
  have q3 : IntKind.u8.wrap (x : Int) = ((UInt8.ofNat x).toNat : Int) := u8_of x
  obtain ⟨L, hL⟩ : ∃ L, four x = L := ⟨_, rfl⟩
  unfold four at hL
  rw [show four x = L from hL]
  obtain ⟨b0, h0⟩ : ∃ b, UInt8.ofNat (x / 16777216) = b := ⟨_, rfl⟩
  obtain ⟨b1, h1⟩ : ∃ b, UInt8.ofNat (x / 65536) = b := ⟨_, rfl⟩
  obtain ⟨b2, h2⟩ : ∃ b, UInt8.ofNat (x / 256) = b := ⟨_, rfl⟩
  obtain ⟨b3, h3⟩ : ∃ b, UInt8.ofNat x = b := ⟨_, rfl⟩
  rw [h0] at q0 hL; rw [h1] at q1 hL; rw [h2] at q2 hL; rw [h3] at q3 hL
  subst hL
  clear h0 h1 h2 h3
  have gs := Lib.hid (size32_any x w)
  go_enter Tryd.func51, Tryd.ntmps51
  go_wp2_with (go_at_call 66; (with_reducible refine gs.out.mono ?_); rintro e wx ⟨rfl, rfl⟩)
  go_loopw [3, 4] (fun v ii wr => ∃ j : Nat, ii = .int .i64 (3 - (j : Int)) ∧ j ≤ 4 ∧ wr.ownsRow w.heap.size 5 1 v j ((([b0, b1, b2, b3] : List UInt8).take j).map fun b => Value.int .u8 (b.toNat : Int)) ∧ Below w.heap.size w wr) (fun _ ii _ => (intOf ii + 1).toNat)
  case atStart => exact ⟨0, rfl, by omega, World.ownsRow_nil _ _ _ _, Below.refl _ _⟩
  case round =>
    obtain ⟨j, rfl, hj, hown, hb⟩ := hrel
    have Hown := Lib.hid hown; clear hown
    have hbs := hb.size
    match j, hj with
    | 0, _ =>
      go_wp2_with (at_builtin; refine wpList_append_own _ rfl _ _ 43 rfl w.heap.size 5 i0 (.int .u8 0) 1 1 Tryd.underlying43 Hi.out Hz0.out Hz1.out Hz2.out rfl (by decide) _ 0 _ rfl (Hown.out.alloc _) ⟨wr.heap.size, 0, none⟩ 1 1 [.int .u8 (b0.toNat : Int)] rfl rfl (cell_one_new _ _ _) (by simp [Value.oneCell']) (by unfold maxLen; omega) (by omega) (by simp; omega) ?_; intro v' w2 hown2 hgrow2 _)
      go_roundw
      case rel => exact ⟨1, by go_num, by omega, hown2, (hb.alloc hb.size _).grown hgrow2 (by simp; omega) (fun k e => (Hown.out.lt k e).1)⟩
      case measure => simp [intOf]
    | 1, _ =>
      go_wp2_with (at_builtin; refine wpList_append_own _ rfl _ _ 43 rfl w.heap.size 5 i0 (.int .u8 0) 1 1 Tryd.underlying43 Hi.out Hz0.out Hz1.out Hz2.out rfl (by decide) _ 1 _ rfl (Hown.out.alloc _) ⟨wr.heap.size, 0, none⟩ 1 1 [.int .u8 (b1.toNat : Int)] rfl rfl (cell_one_new _ _ _) (by simp [Value.oneCell']) (by unfold maxLen; omega) (by omega) (by simp; omega) ?_; intro v' w2 hown2 hgrow2 _)
      go_roundw
      case rel => exact ⟨2, by go_num, by omega, hown2, (hb.alloc hb.size _).grown hgrow2 (by simp; omega) (fun k e => (Hown.out.lt k e).1)⟩
      case measure => simp [intOf]
    | 2, _ =>
      go_wp2_with (at_builtin; refine wpList_append_own _ rfl _ _ 43 rfl w.heap.size 5 i0 (.int .u8 0) 1 1 Tryd.underlying43 Hi.out Hz0.out Hz1.out Hz2.out rfl (by decide) _ 2 _ rfl (Hown.out.alloc _) ⟨wr.heap.size, 0, none⟩ 1 1 [.int .u8 (b2.toNat : Int)] rfl rfl (cell_one_new _ _ _) (by simp [Value.oneCell']) (by unfold maxLen; omega) (by omega) (by simp; omega) ?_; intro v' w2 hown2 hgrow2 _)
      go_roundw
      case rel => exact ⟨3, by go_num, by omega, hown2, (hb.alloc hb.size _).grown hgrow2 (by simp; omega) (fun k e => (Hown.out.lt k e).1)⟩
      case measure => simp [intOf]
    | 3, _ =>
      go_wp2_with (at_builtin; refine wpList_append_own _ rfl _ _ 43 rfl w.heap.size 5 i0 (.int .u8 0) 1 1 Tryd.underlying43 Hi.out Hz0.out Hz1.out Hz2.out rfl (by decide) _ 3 _ rfl (Hown.out.alloc _) ⟨wr.heap.size, 0, none⟩ 1 1 [.int .u8 (b3.toNat : Int)] rfl rfl (cell_one_new _ _ _) (by simp [Value.oneCell']) (by unfold maxLen; omega) (by omega) (by simp; omega) ?_; intro v' w2 hown2 hgrow2 _)
      go_roundw
      case rel => exact ⟨4, by go_num, by omega, hown2, (hb.alloc hb.size _).grown hgrow2 (by simp; omega) (fun k e => (Hown.out.lt k e).1)⟩
      case measure => simp [intOf]
    | 4, _ =>
      obtain ⟨g, cap, rfl, hc⟩ : ∃ g cap, u3 = .slice (some ⟨g, 0, none⟩) 4 cap ∧ (convert 43 9 (.slice (some ⟨g, 0, none⟩) 4 cap)).run Tryd.prog wr = .ok (bstr [b0, b1, b2, b3]) wr := by
        rcases Hown.out.2 with ⟨_, h⟩ | ⟨g, cap, cur, rfl, h⟩
        · exact absurd h (by decide)
        · refine ⟨g, cap, rfl, ?_⟩
          refine run_convert_bytes_back wr _ _ 5 ⟨g, 0, none⟩ cap [b0, b1, b2, b3] Tryd.underlying43 Tryd.underlying5 Tryd.underlying9 fun j hj => ?_
          rw [Addr.add_lit, Nat.zero_add, Hown.out.cellAt j (by simpa using hj)]
          match j, hj with
          | 0, _ => rfl
          | 1, _ => rfl
          | 2, _ => rfl
          | 3, _ => rfl
      go_wp2
      go_ret
      exact ⟨rfl, hb⟩
set_option maxRecDepth 100000 in
set_option maxHeartbeats 400000 in
theorem seal32_any (s : ByteArray) (hs : s.size ≤ 1000000) (w : World) (hT : STab w) :
    Calls Tryd.prog 28 #[.string s] w fun e w' => e = .returned (bstr (sealL s.data.toList)) ∧ Below w.heap.size w w' := by
  have g1 := crc32_any s hs w hT
  have g2 := fun w => text_any (crcN s.data.toList) (crcN_lt _) w
  have hl : (four (crcN s.data.toList)).length = 4 := rfl
  obtain ⟨c, hc⟩ : ∃ c, crcN s.data.toList = c := ⟨_, rfl⟩
  rw [hc] at g1 g2 hl
  obtain ⟨p, hp⟩ : ∃ p : ByteArray, p = ⟨(four c).toArray⟩ := ⟨_, rfl⟩
  have cp : ∀ w, Calls Tryd.prog 51 #[.int .u32 (c : Int)] w fun e w' => e = .returned (.string p) ∧ Below w.heap.size w w' := fun w => by rw [hp]; exact g2 w
  have hps : p.size = 4 := by rw [hp]; exact hl
  have fin : Ending.returned (.string (s ++ p)) = .returned (bstr (sealL s.data.toList)) := ret_str (by rw [hp]; simp [sealL, hc])
  have Fin := Lib.hid fin; clear fin hp g2 hl hc
  replace g1 := Lib.hid g1; replace cp := Lib.hid cp
  go_enter Tryd.func28, Tryd.ntmps28
  go_wp2_with (first | (go_at_call 52; (with_reducible refine g1.out.mono ?_); rintro e wx ⟨rfl, rfl⟩) | (go_at_call 51; (with_reducible refine (cp.out _).mono ?_); rintro e wb ⟨rfl, hb2⟩))
  go_ret
  exact ⟨Fin.out, hb2⟩

/-- 'string' of a row of four bytes that has just been built. -/
theorem four_bytes {P : Program} {src dst e : TypeId} (hs : P.underlying src = some (.slice e)) (he : P.underlying e = some (.int .u8)) (hd : P.underlying dst = some .string) (b0 b1 b2 b3 : UInt8) (w : World) :
    (convert src dst (.slice (some ⟨w.heap.size, 0, none⟩) 4 4)).run P (w.alloc (.cells #[.int .u8 (b0.toNat : Int), .int .u8 (b1.toNat : Int), .int .u8 (b2.toNat : Int), .int .u8 (b3.toNat : Int)] e)) = .ok (bstr [b0, b1, b2, b3]) (w.alloc (.cells #[.int .u8 (b0.toNat : Int), .int .u8 (b1.toNat : Int), .int .u8 (b2.toNat : Int), .int .u8 (b3.toNat : Int)] e)) := by
  refine run_convert_bytes_back _ _ _ e ⟨w.heap.size, 0, none⟩ 4 [b0, b1, b2, b3] hs he hd fun j hj => ?_
  rw [Addr.add_lit, Nat.zero_add]
  have h := heap_alloc_new w (.cells #[.int .u8 (b0.toNat : Int), .int .u8 (b1.toNat : Int), .int .u8 (b2.toNat : Int), .int .u8 (b3.toNat : Int)] e)
  simp only [World.cell?, h]
  match j, hj with
  | 0, _ => rfl
  | 1, _ => rfl
  | 2, _ => rfl
  | 3, _ => rfl
set_option maxRecDepth 100000 in
set_option maxHeartbeats 400000 in
theorem refFour_any (x : Nat) (hx : x < 4294967296) (w : World) :
    Calls Tryd.prog 34 #[.int .u32 (x : Int)] w fun e w' => e = .returned (bstr (four x)) ∧ Below w.heap.size w w' := by
  have q0 : IntKind.u8.wrap ((x : Int) / 16777216) = ((UInt8.ofNat (x / 16777216)).toNat : Int) := u8_of (x / 16777216)
  have q1 : IntKind.u8.wrap ((x : Int) / 65536) = ((UInt8.ofNat (x / 65536)).toNat : Int) := u8_of (x / 65536)
  have q2 : IntKind.u8.wrap ((x : Int) / 256) = ((UInt8.ofNat (x / 256)).toNat : Int) := u8_of (x / 256)
  have q3 : IntKind.u8.wrap (x : Int) = ((UInt8.ofNat x).toNat : Int) := u8_of x
  unfold four
  obtain ⟨b0, h0⟩ : ∃ b, UInt8.ofNat (x / 16777216) = b := ⟨_, rfl⟩
  obtain ⟨b1, h1⟩ : ∃ b, UInt8.ofNat (x / 65536) = b := ⟨_, rfl⟩
  obtain ⟨b2, h2⟩ : ∃ b, UInt8.ofNat (x / 256) = b := ⟨_, rfl⟩
  obtain ⟨b3, h3⟩ : ∃ b, UInt8.ofNat x = b := ⟨_, rfl⟩
  rw [h0] at q0 ⊢; rw [h1] at q1 ⊢; rw [h2] at q2 ⊢; rw [h3] at q3 ⊢
  clear h0 h1 h2 h3
  have hf := fun w => four_bytes (P := Tryd.prog) Tryd.underlying43 Tryd.underlying5 Tryd.underlying9 b0 b1 b2 b3 w
  go_enter Tryd.func34, Tryd.ntmps34
  go_wp2
  go_ret
  exact ⟨rfl, (Below.refl _ _).alloc (Nat.le_refl _) _⟩
end Go.Proofs.YtiphddlakbbfiaaDoor
