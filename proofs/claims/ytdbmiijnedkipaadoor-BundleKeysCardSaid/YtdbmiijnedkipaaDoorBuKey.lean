/- The key of an ID: strconv.FormatUint, Key, and the reference's digits and Key. -/
import Derived.Test.YtdbmiijnedkipaaDoorBuCheck2
import Derived.Test.YtdbmiijnedkipaaDoorReg
import Derived.Test.YtdbmiijnedkipaaDoorRows
import Derived.Test.YtdbmiijnedkipaaDoorShelf
import Derived.Lib.AppendIntMem
import Derived.Lib.ItoaLen
namespace Go.Proofs.YtdbmiijnedkipaaDoor
set_option linter.unusedVariables false
open Go.RowKit Go.Sort
open Go.Lib (decDigits nDigits)

/-- The decimal numeral of a number. -/
def decB (u : Nat) : ByteArray := ⟨(decDigits u).toArray⟩
theorem decB_size (u : Nat) (h : u < 18446744073709551616) : 1 ≤ (decB u).size ∧ (decB u).size ≤ 20 := by
  have e : (decB u).size = nDigits u := by show (decDigits u).toArray.size = _; simp [Lib.decDigits_length]
  rw [e]
  by_cases h0 : u = 0
  · subst h0; rw [nDigits]; simp
  · have := Lib.numDigits_eq u (by omega) h
    constructor
    · rw [nDigits]; split <;> omega
    · split at this <;> omega
theorem decB_small (u : Nat) (h : u < 10) : decB u = ⟨#[UInt8.ofNat (48 + u)]⟩ := by
  unfold decB; rw [decDigits, dif_pos h]
theorem decB_step (u : Nat) (h : ¬ u < 10) : decB u = decB (u / 10) ++ ⟨#[48 + UInt8.ofNat (u % 10)]⟩ := by
  unfold decB
  rw [decDigits, dif_neg h]
  apply ByteArray.ext
  simp

set_option maxRecDepth 100000 in
set_option maxHeartbeats 1600000 in
theorem refDigits_any (n : Nat) : ∀ (u : Nat) (w : World), u < 10 ^ (n + 1) → u < 18446744073709551616 →
    Calls Tryd.prog 50 #[.int .u64 (u : Int)] w fun e w' => e = .returned (.string (decB u)) ∧ Below w.heap.size w w' := by
  have hob := fun x w => one_byte (P := Tryd.prog) Tryd.underlying65 Tryd.underlying5 Tryd.underlying9 x w
  have small : ∀ (u : Nat) (w : World), u < 10 → Calls Tryd.prog 50 #[.int .u64 (u : Int)] w fun e w' => e = .returned (.string (decB u)) ∧ Below w.heap.size w w' := by
    intro u w h
    have e := decB_small u h
    obtain ⟨s, hs⟩ : ∃ s, decB u = s := ⟨_, rfl⟩
    rw [hs] at e ⊢
    have E := Lib.hid e; clear e hs
    go_enter Tryd.func50, Tryd.ntmps50
    go_wp2
    go_ret
    exact ⟨by rw [E.out]; rfl, by (repeat (first | (with_reducible assumption) | (with_reducible exact Below.refl _ _) | (with_reducible refine beld_drew ?_) | ((with_reducible refine bset' ?_ ?_); (first | (focus (dsimp only; assumption)) | (focus (simp; done)) | (focus (dsimp only; omega)))) | (with_reducible refine belt_alloc ?_) | ((with_reducible refine zeroed_below' ?_ ?_); (first | (focus (simp; done)) | (focus (dsimp only; omega)))) | (with_reducible refine bt ?_ (by assumption))))⟩
  induction n with
  | zero => intro u w h _; exact small u w (by simpa using h)
  | succ n ih =>
    intro u w h hu
    by_cases h10 : u < 10
    · exact small u w h10
    · have e := decB_step u h10
      have g1 := fun w => ih (u / 10) w (by rw [Nat.pow_succ] at h; omega) (by omega)
      have hz := decB_size (u / 10) (by omega)
      obtain ⟨s, hs⟩ : ∃ s, decB u = s := ⟨_, rfl⟩
      obtain ⟨t, ht⟩ : ∃ s, decB (u / 10) = s := ⟨_, rfl⟩
      rw [hs] at e ⊢
      rw [ht] at e g1 hz
      have E := Lib.hid e
      rw [show ((u / 10 : Nat) : Int) = (u : Int) / 10 by omega] at g1
      replace g1 := Lib.hid g1
      clear e hs ht ih small h
      have m0 : IntKind.u64.wrap ((u : Int) / 10) = (u : Int) / 10 := IntWalk.u64_in _ (by omega)
      have m1 : (u : Int).tmod 10 = (u : Int) % 10 := Int.tmod_eq_emod_of_nonneg (by omega)
      have m2 : IntKind.u64.wrap (48 + (u : Int) % 10) = 48 + (u : Int) % 10 := IntWalk.u64_in _ (by omega)
      have m3 : IntKind.u8.wrap (48 + (u : Int) % 10) = 48 + (u : Int) % 10 := IntWalk.u8_in _ (by omega)
      go_enter Tryd.func50, Tryd.ntmps50
      go_wp2_with fail
      have hcv := byte_at (P := Tryd.prog) Tryd.underlying65 Tryd.underlying5 Tryd.underlying9
      go_region_with (go_at_call 50; (with_reducible refine (g1.out _).mono ?_); rintro e w1 ⟨rfl, h1⟩; have hc1 := h1.cell (p := ⟨w.heap.size, 0, none⟩))
      all_goals (go_wp2; go_ret; exact ⟨by rw [E.out]; rfl, by (repeat (first | (with_reducible assumption) | (with_reducible exact Below.refl _ _) | (with_reducible refine beld_drew ?_) | ((with_reducible refine bset' ?_ ?_); (first | (focus (dsimp only; assumption)) | (focus (simp; done)) | (focus (dsimp only; omega)))) | (with_reducible refine belt_alloc ?_) | ((with_reducible refine zeroed_below' ?_ ?_); (first | (focus (simp; done)) | (focus (dsimp only; omega)))) | (with_reducible refine bt ?_ (by assumption))))⟩)

/-- The name of the table of powers, as the row lists it. -/
abbrev tabNm : String := Rows.bundleKeysRow.named.getD 0 default

theorem below_put (w : World) (o : Obj) (dk : Array UInt8) (k : Nat) : RowKit.Below w.heap.size w ((putRow (fun (b : UInt8) => Value.int .u8 (b.toNat : Int)) (w.alloc o) w.heap.size 0 dk).drewN k) := by
  rw [alloc_eq_grow]
  obtain ⟨os', _, e⟩ := putRow_grow_new (fun (b : UInt8) => Value.int .u8 (b.toNat : Int)) w #[o] w.heap.size 0 dk (Nat.le_refl _)
  rw [e]
  exact Lib.below_grow _ w (Nat.le_refl _) k os'
set_option maxRecDepth 100000 in
set_option maxHeartbeats 6400000 in
theorem formatUint_big (u : Nat) (hu0 : ¬ u < 100) (hu64 : u < 18446744073709551616) (w : World) (htab : Lib.TabIs Tryd.prog w tabNm .u64 Lib.pow10Tab) :
    Calls Tryd.prog 57 #[.int .u64 u, .int .i64 10] w fun e w' => e = .returned (.string (decB u)) ∧ RowKit.Below w.heap.size w w' := by
  have hu1 : 1 ≤ u := by omega
  have hnd20 : nDigits u ≤ 20 := by have := Lib.numDigits_eq u hu1 hu64; split at this <;> omega
  have hal : Tryd.prog.arrayLen 89 = 24 := by simp [Program.arrayLen, Tryd.underlying89]
  have hsl : ∀ W, (Instr.sliceAt 89 (.pointer (some ⟨w.heap.size, 0, none⟩)) none (some (.int .i64 (nDigits u : Int))) none).run Tryd.prog W = .ok (.slice (some ⟨w.heap.size, 0, none⟩) (nDigits u) 24) W := fun W => by
    rw [run_sliceAt_array_h W 89 ⟨w.heap.size, 0, none⟩ (by simp [Program.arrayLen, Program.elem, Tryd.underlying89]) .i64 (nDigits u : Int) (by omega) (by rw [hal]; omega)]
    go_simp
  have hH0 := Lib.holds_zero0 w 89 (nDigits u) (by omega)
  have hfmt := Tryd.internal_strconv_formatBase10 w.heap.size 0 24 u (Array.replicate (nDigits u) 0) (w.alloc (.cells Lib.zeros24 89)) hH0 (by rw [Array.size_replicate]; exact Lib.lt_pow_nDigits u) hu64 (by rw [Array.size_replicate]; omega)
  rw [Array.size_replicate] at hfmt
  have HH0 := Lib.hid hH0
  have Hb := Lib.hid (fun dk k => below_put w (.cells Lib.zeros24 89) dk k)
  have hlt : ¬ (u : Int) < 100 := by omega
  have hub : (u : Int) ≤ 18446744073709551615 := by omega
  clear hH0 hal
  go_enter Tryd.func57, Tryd.ntmps57
  go_wp2_with (first
    | (go_at_call 63; refine (Tryd.internal_strconv_numDigits u hu1 hu64 _ (Lib.tabIs_alloc htab _)).mono ?_; rintro e w' ⟨rfl, rfl⟩))
  go_at_call 64
  refine hfmt.mono ?_
  rintro e w' ⟨rfl, k, v', dk, rfl, hF⟩
  have hcv : (convert 65 9 (.slice (some ⟨w.heap.size, 0, none⟩) (nDigits u) 24)).run Tryd.prog ((putRow (fun (b : UInt8) => Value.int .u8 (b.toNat : Int)) (w.alloc (.cells Lib.zeros24 89)) w.heap.size 0 dk).drewN k) = .ok (.string (decB u)) ((putRow (fun (b : UInt8) => Value.int .u8 (b.toNat : Int)) (w.alloc (.cells Lib.zeros24 89)) w.heap.size 0 dk).drewN k) := by
    have h := run_convert_bytes_back (P := Tryd.prog) ((putRow (fun (b : UInt8) => Value.int .u8 (b.toNat : Int)) (w.alloc (.cells Lib.zeros24 89)) w.heap.size 0 dk).drewN k) 65 9 5 ⟨w.heap.size, 0, none⟩ 24 (decDigits u) Tryd.underlying65 Tryd.underlying5 Tryd.underlying9 (fun j hj => by
      rw [Lib.row_is_numeral hF j hj, Lib.add_plain, World.cell?_drewN]
      exact cell?_putRow (fun (b : UInt8) => Value.int .u8 (b.toNat : Int)) _ w.heap.size 0 _ dk HH0.out (by rw [hF.size, Array.size_replicate]) j (by rw [hF.size]; rw [Lib.decDigits_length] at hj; exact hj))
    rw [Lib.decDigits_length] at h
    exact h
  go_wp2
  go_ret
  exact ⟨rfl, Hb.out dk k⟩

theorem small_dec (u : Nat) (hu : u < 100) (w : World) : Calls Tryd.prog 62 #[.int .i64 (u : Int)] w fun e w' => e = .returned (.string (decB u)) ∧ w = w' :=
  (Tryd.internal_strconv_small u hu w).mono fun e w' ⟨he, hw⟩ => ⟨he, hw.symm⟩
set_option maxRecDepth 100000 in
set_option maxHeartbeats 800000 in
theorem formatUint_any (u : Nat) (hu64 : u < 18446744073709551616) (w : World) (htab : Lib.TabIs Tryd.prog w tabNm .u64 Lib.pow10Tab) :
    Calls Tryd.prog 49 #[.int .u64 u, .int .i64 10] w fun e w' => e = .returned (.string (decB u)) ∧ RowKit.Below w.heap.size w w' := by
  by_cases h : u < 100
  · have Hs := Lib.hid (small_dec u h)
    obtain ⟨s, hs⟩ : ∃ s, decB u = s := ⟨_, rfl⟩
    rw [hs] at Hs ⊢
    clear hs htab
    go_enter Tryd.func49, Tryd.ntmps49
    go_wp2_with (first | (go_at_call 62; (with_reducible refine (Hs.out _).mono ?_); rintro e wx ⟨rfl, rfl⟩) | go_in)
    go_ret
    exact ⟨rfl, Below.refl _ _⟩
  · have Hs := Lib.hid (formatUint_big u h hu64 w htab)
    obtain ⟨s, hs⟩ : ∃ s, decB u = s := ⟨_, rfl⟩
    rw [hs] at Hs ⊢
    clear hs htab
    go_enter Tryd.func49, Tryd.ntmps49
    go_wp2_with (go_at_call 57; (with_reducible refine Hs.out.mono ?_); rintro e wx ⟨rfl, hx⟩)
    go_ret
    exact ⟨rfl, hx⟩
theorem itoa_any (u : Nat) (hu : u < 9223372036854775808) (w : World) (htab : Lib.TabIs Tryd.prog w tabNm .u64 Lib.pow10Tab) :
    Calls Tryd.prog 48 #[.int .i64 (u : Int)] w fun e w' => e = .returned (.string (decB u)) ∧ RowKit.Below w.heap.size w w' :=
  (Tryd.strconv_Itoa (u : Int) (by omega) (by omega) w htab).mono fun e w' ⟨he, k, os, hw⟩ => ⟨by rw [he, Lib.itoa_nonneg]; rfl, by rw [hw]; exact Lib.below_grow _ w (Nat.le_refl _) k os⟩

/-- The table holds in the world w and in all above it. -/
def Tab (w : World) : Prop := Lib.TabBelow Tryd.prog w.heap.size w tabNm .u64 Lib.pow10Tab
theorem Tab.at {w w' : World} (h : Tab w) (hb : RowKit.Below w.heap.size w w') : Lib.TabIs Tryd.prog w' tabNm .u64 Lib.pow10Tab := (Lib.TabBelow.on h hb).here
theorem Tab.on {w w' : World} (h : Tab w) (hb : RowKit.Below w.heap.size w w') : Tab w' := Lib.tabBelow_of_tabIs (h.at hb)
theorem tab_of {w : World} (h : Lib.TabIs Tryd.prog w tabNm .u64 Lib.pow10Tab) : Tab w := Lib.tabBelow_of_tabIs h

/-- The key of a valid ID. -/
def keyB (no sq of : Int) : ByteArray := decB no.toNat ++ ⟨#[46]⟩ ++ decB sq.toNat ++ ⟨#[46]⟩ ++ decB of.toNat
def keyC (no sq of : Int) : ByteArray × Int := if idC no sq of = 0 then (keyB no sq of, 0) else (⟨#[]⟩, idC no sq of)
set_option maxRecDepth 100000 in
set_option maxHeartbeats 1600000 in
theorem key_any (no sq of : Int) (hsq : 0 ≤ sq) (w : World) (htab : Tab w) :
    Calls Tryd.prog 29 #[idv no sq of] w fun e w' => e = .returned (.tuple #[.string (keyC no sq of).1, .int .i64 (keyC no sq of).2]) ∧ RowKit.Below w.heap.size w w' := by
  have Hc := fun w => checkID_any no sq of w
  rcases idC_cases no sq of with ⟨h0, h⟩ | ⟨h0, h⟩ <;> rw [h0] at Hc <;> replace Hc := Lib.hid Hc
  · obtain ⟨h1, h2, h3, h4, h5⟩ := h
    rw [show keyC no sq of = (keyB no sq of, 0) from if_pos h0]
    obtain ⟨n, rfl⟩ := Int.eq_ofNat_of_zero_le (show 0 ≤ no by omega)
    obtain ⟨s, rfl⟩ := Int.eq_ofNat_of_zero_le hsq
    obtain ⟨o, rfl⟩ := Int.eq_ofNat_of_zero_le h4
    have g1 := fun w ht => itoa_any n (by omega) w ht
    have g2 := fun w ht => formatUint_any s (by omega) w ht
    have g3 := fun w ht => itoa_any o (by omega) w ht
    have z1 := (decB_size n (by omega)).2
    have z2 := (decB_size s (by omega)).2
    have z3 := (decB_size o (by omega)).2
    have HT : Hid (∀ W, RowKit.Below w.heap.size w W → Lib.TabIs Tryd.prog W tabNm .u64 Lib.pow10Tab) := fun W hW => htab.at hW
    unfold keyB
    simp only [Int.toNat_natCast]
    obtain ⟨x, hx⟩ : ∃ x, decB n = x := ⟨_, rfl⟩
    obtain ⟨y, hy⟩ : ∃ x, decB s = x := ⟨_, rfl⟩
    obtain ⟨z, hz⟩ : ∃ x, decB o = x := ⟨_, rfl⟩
    rw [hx] at g1 z1; rw [hy] at g2 z2; rw [hz] at g3 z3
    rw [hx, hy, hz]
    replace g1 := Lib.hid g1; replace g2 := Lib.hid g2; replace g3 := Lib.hid g3
    clear hx hy hz htab h0 h1 h2 h3 h4 h5
    go_enter Tryd.func29, Tryd.ntmps29
    go_wp2_with (go_at_call 17; (with_reducible refine (Hc.out _).mono ?_); rintro e wb ⟨rfl, hb⟩; have kk5 : blk wb (w.heap.size) = some #[.int .i64 (n : Int), .int .u64 (s : Int), .int .i64 (o : Int)] := (by (apply blk_to; (focus (repeat (first | (with_reducible assumption) | (with_reducible apply blk_drew) | (with_reducible apply blk_set) | ((with_reducible apply blk_other'); (first | (focus (dsimp only; assumption)) | (focus (simp; done)) | (focus (dsimp only; omega)))) | ((with_reducible apply blk_alloc_new); (first | (with_reducible rfl) | (focus (simp; done)) | (focus (simp; omega)))) | (with_reducible apply blk_alloc) | ((with_reducible apply blk_below); (with_reducible assumption))))); rfl)); have kn5 := kn kk5)
    refine wp_region_in (by kernel_rfl) (by kernel_rfl) ?_
    intro W0_1 hE_1 hN_1
    have bW0_1 : Below w.heap.size w W0_1 := (by rw [hE_1.out]; (repeat (first | (with_reducible assumption) | (with_reducible exact Below.refl _ _) | (with_reducible refine beld_drew ?_) | ((with_reducible refine bset' ?_ ?_); (first | (focus (dsimp only; assumption)) | (focus (simp; done)) | (focus (dsimp only; omega)))) | (with_reducible refine belt_alloc ?_) | ((with_reducible refine zeroed_below' ?_ ?_); (first | (focus (simp; done)) | (focus (dsimp only; omega)))) | (with_reducible refine bt ?_ (by assumption)))))
    have kk2 : blk W0_1 (w.heap.size) = some #[.int .i64 (n : Int), .int .u64 (s : Int), .int .i64 (o : Int)] := (by rw [hE_1.out]; (apply blk_to; (focus (repeat (first | (with_reducible assumption) | (with_reducible apply blk_drew) | (with_reducible apply blk_set) | ((with_reducible apply blk_other'); (first | (focus (dsimp only; assumption)) | (focus (simp; done)) | (focus (dsimp only; omega)))) | ((with_reducible apply blk_alloc_new); (first | (with_reducible rfl) | (focus (simp; done)) | (focus (simp; omega)))) | (with_reducible apply blk_alloc) | ((with_reducible apply blk_below); (with_reducible assumption))))); rfl))
    have kn2 := calm_kn kk2
    clear hE_1
    repeat (go_big_quiet_step ((first | (go_at_call 48; (with_reducible refine Class.go _ (g1.out _ ?_)); exact HT.out _ (bt (by assumption) (Class.ok _))) | (go_at_call 49; (with_reducible refine Class.go _ (g2.out _ ?_)); exact HT.out _ (bt (by assumption) (Class.ok _))) | (go_at_call 48; (with_reducible refine Class.go _ (g3.out _ ?_)); exact HT.out _ (bt (by assumption) (Class.ok _))))))
    refine wpQuiet_nil ?_
    rintro _ ⟨x_1, rfl⟩
    have hx_1 : Calm W0_1 x_1.wd := x_1.ok
    have bwn : Below w.heap.size w x_1.wd := bt bW0_1 hx_1
    clear kn2; replace kk2 := blk_below hx_1 kk2; have kn2 := kn kk2
    clear hx_1 bW0_1 hN_1
    generalize x_1.wd = wn at *
    go_wp2
    go_ret2
    exact ⟨rfl, bwn⟩
  · rw [show keyC no sq of = (⟨#[]⟩, 2) by unfold keyC; rw [if_neg (by rw [h0]; decide), h0]]
    clear h h0 htab
    go_enter Tryd.func29, Tryd.ntmps29
    go_wp2_with (go_at_call 17; (with_reducible refine (Hc.out _).mono ?_); rintro e wb ⟨rfl, hb⟩; have kk6 : blk wb (w.heap.size) = some #[.int .i64 no, .int .u64 sq, .int .i64 of] := (by (apply blk_to; (focus (repeat (first | (with_reducible assumption) | (with_reducible apply blk_drew) | (with_reducible apply blk_set) | ((with_reducible apply blk_other'); (first | (focus (dsimp only; assumption)) | (focus (simp; done)) | (focus (dsimp only; omega)))) | ((with_reducible apply blk_alloc_new); (first | (with_reducible rfl) | (focus (simp; done)) | (focus (simp; omega)))) | (with_reducible apply blk_alloc) | ((with_reducible apply blk_below); (with_reducible assumption))))); rfl)); have kn6 := kn kk6)
    go_ret2
    exact ⟨rfl, bta hb⟩
set_option maxRecDepth 100000 in
set_option maxHeartbeats 1600000 in
theorem refKey_any (no sq of : Int) (hsq : 0 ≤ sq) (w : World) :
    Calls Tryd.prog 30 #[idv no sq of] w fun e w' => e = .returned (.tuple #[.string (keyC no sq of).1, .int .i64 (keyC no sq of).2]) ∧ RowKit.Below w.heap.size w w' := by
  have Hc := fun w => refCheckID_any no sq of w
  rcases idC_cases no sq of with ⟨h0, h⟩ | ⟨h0, h⟩ <;> rw [h0] at Hc <;> replace Hc := Lib.hid Hc
  · obtain ⟨h1, h2, h3, h4, h5⟩ := h
    rw [show keyC no sq of = (keyB no sq of, 0) from if_pos h0]
    obtain ⟨n, rfl⟩ := Int.eq_ofNat_of_zero_le (show 0 ≤ no by omega)
    obtain ⟨s, rfl⟩ := Int.eq_ofNat_of_zero_le hsq
    obtain ⟨o, rfl⟩ := Int.eq_ofNat_of_zero_le h4
    have g1 := fun w => refDigits_any 1 n w (by omega) (by omega)
    have g2 := fun w => refDigits_any 12 s w (by omega) (by omega)
    have g3 := fun w => refDigits_any 4 o w (by omega) (by omega)
    have z1 := (decB_size n (by omega)).2
    have z2 := (decB_size s (by omega)).2
    have z3 := (decB_size o (by omega)).2
    have n1 : (n : Int) ≤ 16 := h2
    have o1 : (o : Int) ≤ 19999 := h5
    unfold keyB
    simp only [Int.toNat_natCast]
    obtain ⟨x, hx⟩ : ∃ x, decB n = x := ⟨_, rfl⟩
    obtain ⟨y, hy⟩ : ∃ x, decB s = x := ⟨_, rfl⟩
    obtain ⟨z, hz⟩ : ∃ x, decB o = x := ⟨_, rfl⟩
    rw [hx] at g1 z1; rw [hy] at g2 z2; rw [hz] at g3 z3
    rw [hx, hy, hz]
    replace g1 := Lib.hid g1; replace g2 := Lib.hid g2; replace g3 := Lib.hid g3
    have m1 : IntKind.u64.wrap (n : Int) = n := IntWalk.u64_in _ (by omega)
    have m3 : IntKind.u64.wrap (o : Int) = o := IntWalk.u64_in _ (by omega)
    clear hx hy hz h0 h1 h2 h3 h4 h5
    go_enter Tryd.func30, Tryd.ntmps30
    go_wp2_with (go_at_call 18; (with_reducible refine (Hc.out _).mono ?_); rintro e wb ⟨rfl, hb⟩; have kk7 : blk wb (w.heap.size) = some #[.int .i64 (n : Int), .int .u64 (s : Int), .int .i64 (o : Int)] := (by (apply blk_to; (focus (repeat (first | (with_reducible assumption) | (with_reducible apply blk_drew) | (with_reducible apply blk_set) | ((with_reducible apply blk_other'); (first | (focus (dsimp only; assumption)) | (focus (simp; done)) | (focus (dsimp only; omega)))) | ((with_reducible apply blk_alloc_new); (first | (with_reducible rfl) | (focus (simp; done)) | (focus (simp; omega)))) | (with_reducible apply blk_alloc) | ((with_reducible apply blk_below); (with_reducible assumption))))); rfl)); have kn7 := kn kk7)
    refine wp_region_in (by kernel_rfl) (by kernel_rfl) ?_
    intro W0_3 hE_3 hN_3
    have bW0_3 : Below w.heap.size w W0_3 := (by rw [hE_3.out]; (repeat (first | (with_reducible assumption) | (with_reducible exact Below.refl _ _) | (with_reducible refine beld_drew ?_) | ((with_reducible refine bset' ?_ ?_); (first | (focus (dsimp only; assumption)) | (focus (simp; done)) | (focus (dsimp only; omega)))) | (with_reducible refine belt_alloc ?_) | ((with_reducible refine zeroed_below' ?_ ?_); (first | (focus (simp; done)) | (focus (dsimp only; omega)))) | (with_reducible refine bt ?_ (by assumption)))))
    have kk4 : blk W0_3 (w.heap.size) = some #[.int .i64 (n : Int), .int .u64 (s : Int), .int .i64 (o : Int)] := (by rw [hE_3.out]; (apply blk_to; (focus (repeat (first | (with_reducible assumption) | (with_reducible apply blk_drew) | (with_reducible apply blk_set) | ((with_reducible apply blk_other'); (first | (focus (dsimp only; assumption)) | (focus (simp; done)) | (focus (dsimp only; omega)))) | ((with_reducible apply blk_alloc_new); (first | (with_reducible rfl) | (focus (simp; done)) | (focus (simp; omega)))) | (with_reducible apply blk_alloc) | ((with_reducible apply blk_below); (with_reducible assumption))))); rfl))
    have kn4 := calm_kn kk4
    clear hE_3
    repeat (go_big_quiet_step ((first | (go_at_call 50; (with_reducible refine Class.go _ (g1.out _))) | (go_at_call 50; (with_reducible refine Class.go _ (g2.out _))) | (go_at_call 50; (with_reducible refine Class.go _ (g3.out _))))))
    refine wpQuiet_nil ?_
    rintro _ ⟨x_3, rfl⟩
    have hx_3 : Calm W0_3 x_3.wd := x_3.ok
    have bwn : Below w.heap.size w x_3.wd := bt bW0_3 hx_3
    clear kn4; replace kk4 := blk_below hx_3 kk4; have kn4 := kn kk4
    clear hx_3 bW0_3 hN_3
    generalize x_3.wd = wn at *
    go_wp2
    go_ret2
    exact ⟨rfl, bwn⟩
  · rw [show keyC no sq of = (⟨#[]⟩, 2) by unfold keyC; rw [if_neg (by rw [h0]; decide), h0]]
    clear h h0
    go_enter Tryd.func30, Tryd.ntmps30
    go_wp2_with (go_at_call 18; (with_reducible refine (Hc.out _).mono ?_); rintro e wb ⟨rfl, hb⟩; have kk8 : blk wb (w.heap.size) = some #[.int .i64 no, .int .u64 sq, .int .i64 of] := (by (apply blk_to; (focus (repeat (first | (with_reducible assumption) | (with_reducible apply blk_drew) | (with_reducible apply blk_set) | ((with_reducible apply blk_other'); (first | (focus (dsimp only; assumption)) | (focus (simp; done)) | (focus (dsimp only; omega)))) | ((with_reducible apply blk_alloc_new); (first | (with_reducible rfl) | (focus (simp; done)) | (focus (simp; omega)))) | (with_reducible apply blk_alloc) | ((with_reducible apply blk_below); (with_reducible assumption))))); rfl)); have kn8 := kn kk8)
    go_ret2
    exact ⟨rfl, bta hb⟩
end Go.Proofs.YtdbmiijnedkipaaDoor
