/- Keys are read back. -/
import Derived.Test.YtdbmiijnedkipaaDoorBuLaw4
import Derived.Test.YtdbmiijnedkipaaDoorBuParse2
import Derived.Test.YtdbmiijnedkipaaDoorBuKey
import Derived.Test.YtdbmiijnedkipaaDoorBuKit
namespace Go.Proofs.YtdbmiijnedkipaaDoor
set_option linter.unusedVariables false
open Go.RowKit
open Go.Lib (decDigits nDigits)

theorem set_set_nat (l : List Nat) (i a b : Nat) : (l.set i a).set i b = l.set i b := by simp [List.set_set]
theorem runK_dec (u : Nat) : ∀ (k : Nat) (P D : List Nat), k ≤ 2 → P.length = 3 → D.length = 3 → P.getD k 0 = 0 → D.getD k 0 = 0 → nDigits u ≤ 13 → runK (decDigits u) (k, P, D) = some (k, P.set k u, D.set k (nDigits u)) := by
  induction u using Nat.strongRecOn with
  | _ u ih =>
    intro k P D hk hP hD h0 h1 hn
    by_cases h : u < 10
    · rw [decDigits, dif_pos h, nDigits, dif_pos h]
      have hc : (UInt8.ofNat (48 + u)).toNat = 48 + u := by simp; omega
      simp only [runK, stepK, hc, h0, h1]
      rw [if_neg (by omega), if_neg (by omega), if_neg (by omega)]
      simp only [Option.bind_some]
      rw [show 10 * 0 + (48 + u - 48) = u by omega]
    · rw [nDigits, dif_neg h] at hn ⊢
      rw [decDigits, dif_neg h, runK_append, ih (u / 10) (by omega) k P D hk hP hD h0 h1 (by omega)]
      have hc : (UInt8.ofNat (48 + u % 10)).toNat = 48 + u % 10 := by simp; omega
      have e1 : (P.set k (u / 10)).getD k 0 = u / 10 := by rw [getD_set_nat, if_pos ⟨rfl, by omega⟩]
      have e2 : (D.set k (nDigits (u / 10))).getD k 0 = nDigits (u / 10) := by rw [getD_set_nat, if_pos ⟨rfl, by omega⟩]
      simp only [Option.bind_some, runK, stepK, hc, e1, e2]
      rw [if_neg (by omega), if_neg (by omega), if_neg (by omega)]
      simp only [Option.bind_some, set_set_nat]
      rw [show 10 * (u / 10) + (48 + u % 10 - 48) = u by omega]
theorem nDigits_pos (u : Nat) : 1 ≤ nDigits u := by rw [nDigits]; split <;> omega
theorem nDigits_le : ∀ (n u : Nat), u < 10 ^ (n + 1) → nDigits u ≤ n + 1
  | 0, u, h => by rw [nDigits, dif_pos (by simpa using h)]; omega
  | n + 1, u, h => by
    by_cases h2 : u < 10
    · rw [nDigits, dif_pos h2]; omega
    · rw [nDigits, dif_neg h2]
      have := nDigits_le n (u / 10) (by rw [Nat.pow_succ] at h; omega)
      omega
theorem keyB_list (a b c : Nat) : (keyB a b c).data.toList = decDigits a ++ 46 :: (decDigits b ++ 46 :: decDigits c) := by
  simp [keyB, decB, ByteArray.data_append]
theorem parseK_key (a b c : Nat) (ha : a < 10000000000000) (hb : b < 10000000000000) (hc : c < 10000000000000) : parseK (keyB a b c).data.toList = some (a, b, c) := by
  have na := nDigits_le 12 a (by omega)
  have nb := nDigits_le 12 b (by omega)
  have nc := nDigits_le 12 c (by omega)
  have pa := nDigits_pos a
  have pb := nDigits_pos b
  have pc := nDigits_pos c
  rw [keyB_list]
  unfold parseK k0
  rw [runK_append, runK_dec a 0 _ _ (by omega) rfl rfl rfl rfl na]
  simp only [Option.bind_some, runK, stepK]
  rw [if_pos (by decide), if_neg (by omega)]
  simp only [Option.bind_some, List.set_cons_zero]
  rw [runK_append, runK_dec b 1 _ _ (by omega) rfl rfl rfl rfl nb]
  simp only [Option.bind_some, runK, stepK]
  rw [if_pos (by decide), if_neg (by omega)]
  simp only [Option.bind_some, List.set_cons_succ, List.set_cons_zero]
  rw [runK_dec c 2 _ _ (by omega) rfl rfl rfl rfl nc]
  simp only [Option.bind_some, List.set_cons_succ, List.set_cons_zero, finK]
  rw [if_neg (by simp; omega)]
  rfl
theorem keyB_inj {a b c a' b' c' : Nat} (ha : a < 10000000000000) (hb : b < 10000000000000) (hc : c < 10000000000000) (ha' : a' < 10000000000000) (hb' : b' < 10000000000000) (hc' : c' < 10000000000000)
    (h : (keyB a b c).data.toList = (keyB a' b' c').data.toList) : a = a' ∧ b = b' ∧ c = c' := by
  have h1 := parseK_key a b c ha hb hc
  rw [h, parseK_key a' b' c' ha' hb' hc'] at h1
  simp at h1
  omega
theorem keyB_size (a b c : Nat) (ha : a < 10000000000000) (hb : b < 10000000000000) (hc : c < 10000000000000) : (keyB a b c).size ≤ 1000 := by
  have h1 := decB_size a (by omega)
  have h2 := decB_size b (by omega)
  have h3 := decB_size c (by omega)
  have e1 : (⟨#[46]⟩ : ByteArray).size = 1 := rfl
  simp only [keyB, Int.toNat_natCast, ByteArray.size_append, e1]
  omega
/-- What Key says of a valid ID. -/
theorem key_ok (a b c : Nat) (h : okI a b c) (w : World) (htab : Tab w) :
    Calls Tryd.prog 29 #[idv a b c] w fun e w' => e = .returned (.tuple #[.string (keyB a b c), .int .i64 0]) ∧ RowKit.Below w.heap.size w w' := by
  have := key_any a b c (by omega) w htab
  rwa [show keyC a b c = (keyB a b c, 0) from if_pos (if_pos h)] at this
theorem parse_ok (a b c : Nat) (h : okI a b c) (w : World) :
    Calls Tryd.prog 31 #[.string (keyB a b c)] w fun e w' => e = .returned (.tuple #[idv a b c, .int .i64 0]) ∧ RowKit.Below w.heap.size w w' := by
  obtain ⟨h1, h2, h3, h4, h5⟩ := id h
  have := parseKey_any (keyB a b c) (keyB_size a b c (by omega) (by omega) (by omega)) w
  rw [parseK_key a b c (by omega) (by omega) (by omega)] at this
  simpa [gotK, idC, h] using this

set_option maxRecDepth 100000 in
set_option maxHeartbeats 6400000 in
theorem bundleRead_walk (n m o : Int) (w : World) (htab : Lib.TabIs Tryd.prog w tabNm .u64 Lib.pow10Tab) :
    Calls Tryd.prog 8 #[.int .i64 n, .int .i64 m, .int .i64 o] w fun e w' => e = .returned (.bool true) ∧ Below w.heap.size w w' := by
  have T := tab_of htab; clear htab
  have HT : Hid (∀ W, RowKit.Below w.heap.size w W → Tab W) := fun W hW => T.on hW
  clear T
  have g1 := fun w => bundleID_any n w
  have g2 := fun w => bundleID_any m w
  have g3 := fun w => mod_any n 1099511627676 w (by decide) (by decide)
  have g4 := fun w => mod_any o 20000 w (by decide) (by decide)
  have a0 := Int.emod_nonneg n (show (1073741824 : Int) ≠ 0 by decide)
  have a1 := Int.emod_nonneg m (show (1073741824 : Int) ≠ 0 by decide)
  have a2 := Int.emod_nonneg n (show (1099511627676 : Int) ≠ 0 by decide)
  have a3 := Int.emod_lt_of_pos n (show (0 : Int) < 1099511627676 by decide)
  have a4 := Int.emod_nonneg o (show (20000 : Int) ≠ 0 by decide)
  have a5 := Int.emod_lt_of_pos o (show (0 : Int) < 20000 by decide)
  obtain ⟨A, hA, b1, b2⟩ : ∃ A : Nat, 1 + n % 1073741824 % 4 = A ∧ 1 ≤ A ∧ A ≤ 4 := ⟨(1 + n % 1073741824 % 4).toNat, by omega, by omega, by omega⟩
  obtain ⟨B, hB, b3⟩ : ∃ B : Nat, n % 1073741824 / 4 % 50 = B ∧ B ≤ 49 := ⟨(n % 1073741824 / 4 % 50).toNat, by omega, by omega⟩
  obtain ⟨A', hA', b4, b5⟩ : ∃ A : Nat, 1 + m % 1073741824 % 4 = A ∧ 1 ≤ A ∧ A ≤ 4 := ⟨(1 + m % 1073741824 % 4).toNat, by omega, by omega, by omega⟩
  obtain ⟨B', hB', b6⟩ : ∃ B : Nat, m % 1073741824 / 4 % 50 = B ∧ B ≤ 49 := ⟨(m % 1073741824 / 4 % 50).toNat, by omega, by omega⟩
  obtain ⟨S, hS, b7⟩ : ∃ S : Nat, n % 1099511627676 = S ∧ S < 1099511627676 := ⟨(n % 1099511627676).toNat, by omega, by omega⟩
  obtain ⟨O, hO, b8⟩ : ∃ S : Nat, o % 20000 = S ∧ S < 20000 := ⟨(o % 20000).toNat, by omega, by omega⟩
  rw [hA, hB] at g1; rw [hA', hB'] at g2; rw [hS] at g3; rw [hO] at g4
  clear hA hB hA' hB' hS hO a0 a1 a2 a3 a4 a5
  obtain ⟨C, hC⟩ : ∃ C, C = B + S := ⟨_, rfl⟩
  have okA : okI A C O := by unfold okI; omega
  have okB : okI A' B' (0 : Nat) := by unfold okI; omega
  have g5 := fun w ht => key_ok A C O okA w ht
  have g6 := fun w ht => key_ok A' B' 0 okB w ht
  have g7 := fun w => parse_ok A C O okA w
  have E1 := fun w => run_idEq A C O A' B' (0 : Nat) w
  have hinj := keyB_inj (a := A) (b := C) (c := O) (a' := A') (b' := B') (c' := 0) (by omega) (by omega) (by omega) (by omega) (by omega) (by omega)
  have hCc : ((C : Nat) : Int) = (B : Int) + (S : Int) := by omega
  have hE : (idEq A C O A' B' (0 : Nat) = true ∧ keyB A C O = keyB A' B' (0 : Nat)) ∨ (idEq A C O A' B' (0 : Nat) = false ∧ ¬ (keyB A C O).data.toList = (keyB A' B' (0 : Nat)).data.toList) := by
    unfold idEq
    by_cases hc : A = A' ∧ C = B' ∧ O = 0
    · obtain ⟨rfl, rfl, rfl⟩ := hc
      exact .inl ⟨by simp, rfl⟩
    · exact .inr ⟨by simp; omega, fun h => hc (hinj h)⟩
  clear hinj okA okB
  obtain ⟨x, hx⟩ : ∃ x, keyB A C O = x := ⟨_, rfl⟩
  obtain ⟨y, hy⟩ : ∃ x, keyB A' B' (0 : Nat) = x := ⟨_, rfl⟩
  rw [hx] at g5 g7 hE; rw [hy] at g6 hE
  obtain ⟨q, hq⟩ : ∃ q, idEq A C O A' B' (0 : Nat) = q := ⟨_, rfl⟩
  rw [hq] at hE
  simp only [hq] at E1
  simp only [hCc] at g5 g7 E1
  rw [show ((0 : Nat) : Int) = 0 from rfl] at g6
  simp only [show ((0 : Nat) : Int) = 0 from rfl] at E1
  clear hx hy hq hCc hC
  replace g1 := Lib.hid g1; replace g2 := Lib.hid g2; replace g3 := Lib.hid g3; replace g4 := Lib.hid g4
  replace g5 := Lib.hid g5; replace g6 := Lib.hid g6; replace g7 := Lib.hid g7
  have g0 := Lib.hid awake_any
  rcases hE with ⟨rfl, rfl⟩ | ⟨rfl, hne⟩
  · go_enter Tryd.func8, Tryd.ntmps8
    go_wp2_with fail
    (with_reducible refine (g1.out _).mono ?_)
    rintro e w1 ⟨rfl, hw1⟩
    have bw1 : Below w.heap.size w w1 := (by (repeat (first | (with_reducible assumption) | (with_reducible exact Below.refl _ _) | (with_reducible refine beld_drew ?_) | ((with_reducible refine bset' ?_ ?_); (first | (focus (dsimp only; assumption)) | (focus (simp; done)) | (focus (dsimp only; omega)))) | (with_reducible refine belt_alloc ?_) | ((with_reducible refine zeroed_below' ?_ ?_); (first | (focus (simp; done)) | (focus (dsimp only; omega)))) | (with_reducible refine bt ?_ (by assumption)))))
    have sw1 := bw1.size
    clear hw1
    go_wp2_with fail
    (with_reducible refine (g2.out _).mono ?_)
    rintro e w2 ⟨rfl, hw2⟩
    have bw2 : Below w.heap.size w w2 := (by (repeat (first | (with_reducible assumption) | (with_reducible exact Below.refl _ _) | (with_reducible refine beld_drew ?_) | ((with_reducible refine bset' ?_ ?_); (first | (focus (dsimp only; assumption)) | (focus (simp; done)) | (focus (dsimp only; omega)))) | (with_reducible refine belt_alloc ?_) | ((with_reducible refine zeroed_below' ?_ ?_); (first | (focus (simp; done)) | (focus (dsimp only; omega)))) | (with_reducible refine bt ?_ (by assumption)))))
    have sw2 := bw2.size
    clear hw2 bw1
    go_wp2_with fail
    refine wp_region_tail 7 (by kernel_rfl) (by kernel_rfl) ?_
    intro W0_1 hE_1 hN_1
    have bW0_1 : Below w.heap.size w W0_1 := (by rw [hE_1.out]; (repeat (first | (with_reducible assumption) | (with_reducible exact Below.refl _ _) | (with_reducible refine beld_drew ?_) | ((with_reducible refine bset' ?_ ?_); (first | (focus (dsimp only; assumption)) | (focus (simp; done)) | (focus (dsimp only; omega)))) | (with_reducible refine belt_alloc ?_) | ((with_reducible refine zeroed_below' ?_ ?_); (first | (focus (simp; done)) | (focus (dsimp only; omega)))) | (with_reducible refine bt ?_ (by assumption)))))
    have kk2 : blk W0_1 (w2.heap.size) = some #[.int .i64 (A : Int), .int .u64 (B : Int), .int .i64 0] := (by rw [hE_1.out]; (apply blk_to; (focus (repeat (first | (with_reducible assumption) | (with_reducible apply blk_drew) | (with_reducible apply blk_set) | ((with_reducible apply blk_other'); (first | (focus (dsimp only; assumption)) | (focus (simp; done)) | (focus (dsimp only; omega)))) | ((with_reducible apply blk_alloc_new); (first | (with_reducible rfl) | (focus (simp; done)) | (focus (simp; omega)))) | (with_reducible apply blk_alloc) | ((with_reducible apply blk_below); (with_reducible assumption))))); rfl))
    have kk3 : blk W0_1 (w2.heap.size + 1) = some #[.int .i64 (A' : Int), .int .u64 (B' : Int), .int .i64 0] := (by rw [hE_1.out]; (apply blk_to; (focus (repeat (first | (with_reducible assumption) | (with_reducible apply blk_drew) | (with_reducible apply blk_set) | ((with_reducible apply blk_other'); (first | (focus (dsimp only; assumption)) | (focus (simp; done)) | (focus (dsimp only; omega)))) | ((with_reducible apply blk_alloc_new); (first | (with_reducible rfl) | (focus (simp; done)) | (focus (simp; omega)))) | (with_reducible apply blk_alloc) | ((with_reducible apply blk_below); (with_reducible assumption))))); rfl))
    have kn2 := calm_kn kk2
    have kn3 := calm_kn kk3
    clear hE_1
    simp only [List.take_succ_cons, List.take_zero, List.drop_succ_cons, List.drop_zero]
    repeat (go_big_quiet_step ((go_at_call 22; (with_reducible refine Class.same _ (g3.out _)))))
    refine wpQuiet_nil ?_
    rintro _ ⟨x_1, rfl⟩
    have hx_1 : Calm W0_1 x_1.wd := x_1.ok
    have bw3 : Below w.heap.size w x_1.wd := bt bW0_1 hx_1
    clear kn2; replace kk2 := blk_below hx_1 kk2; have kn2 := kn kk2
    clear kn3; replace kk3 := blk_below hx_1 kk3; have kn3 := kn kk3
    clear hx_1 bW0_1 hN_1 bw2
    generalize x_1.wd = w3 at *
    have sw3 := bw3.size
    go_wp2_with fail
    (with_reducible refine (g4.out _).mono ?_)
    rintro e wx ⟨rfl, rfl⟩
    go_wp2_with fail
    (with_reducible refine (g5.out _ (by exact HT.out _ (by (repeat (first | (with_reducible assumption) | (with_reducible exact Below.refl _ _) | (with_reducible refine beld_drew ?_) | ((with_reducible refine bset' ?_ ?_); (first | (focus (dsimp only; assumption)) | (focus (simp; done)) | (focus (dsimp only; omega)))) | (with_reducible refine belt_alloc ?_) | ((with_reducible refine zeroed_below' ?_ ?_); (first | (focus (simp; done)) | (focus (dsimp only; omega)))) | (with_reducible refine bt ?_ (by assumption))))))).mono ?_)
    rintro e w4 ⟨rfl, hw4⟩
    have kk4 : blk w4 (w2.heap.size) = some #[.int .i64 (A : Int), .int .u64 ((B : Int) + (S : Int)), .int .i64 (O : Int)] := (by (apply blk_to; (focus (repeat (first | (with_reducible assumption) | (with_reducible apply blk_drew) | (with_reducible apply blk_set) | ((with_reducible apply blk_other'); (first | (focus (dsimp only; assumption)) | (focus (simp; done)) | (focus (dsimp only; omega)))) | ((with_reducible apply blk_alloc_new); (first | (with_reducible rfl) | (focus (simp; done)) | (focus (simp; omega)))) | (with_reducible apply blk_alloc) | ((with_reducible apply blk_below); (with_reducible assumption))))); rfl))
    have kk5 : blk w4 (w2.heap.size + 1) = some #[.int .i64 (A' : Int), .int .u64 (B' : Int), .int .i64 0] := (by (apply blk_to; (focus (repeat (first | (with_reducible assumption) | (with_reducible apply blk_drew) | (with_reducible apply blk_set) | ((with_reducible apply blk_other'); (first | (focus (dsimp only; assumption)) | (focus (simp; done)) | (focus (dsimp only; omega)))) | ((with_reducible apply blk_alloc_new); (first | (with_reducible rfl) | (focus (simp; done)) | (focus (simp; omega)))) | (with_reducible apply blk_alloc) | ((with_reducible apply blk_below); (with_reducible assumption))))); rfl))
    clear kk2 kn2 kk3 kn3
    have kn4 := kn kk4
    have kn5 := kn kk5
    have bw4 : Below w.heap.size w w4 := (by (repeat (first | (with_reducible assumption) | (with_reducible exact Below.refl _ _) | (with_reducible refine beld_drew ?_) | ((with_reducible refine bset' ?_ ?_); (first | (focus (dsimp only; assumption)) | (focus (simp; done)) | (focus (dsimp only; omega)))) | (with_reducible refine belt_alloc ?_) | ((with_reducible refine zeroed_below' ?_ ?_); (first | (focus (simp; done)) | (focus (dsimp only; omega)))) | (with_reducible refine bt ?_ (by assumption)))))
    have sw4 := bw4.size
    clear hw4 bw3
    go_wp2_with fail
    (with_reducible refine (g6.out _ (by exact HT.out _ (by (repeat (first | (with_reducible assumption) | (with_reducible exact Below.refl _ _) | (with_reducible refine beld_drew ?_) | ((with_reducible refine bset' ?_ ?_); (first | (focus (dsimp only; assumption)) | (focus (simp; done)) | (focus (dsimp only; omega)))) | (with_reducible refine belt_alloc ?_) | ((with_reducible refine zeroed_below' ?_ ?_); (first | (focus (simp; done)) | (focus (dsimp only; omega)))) | (with_reducible refine bt ?_ (by assumption))))))).mono ?_)
    rintro e w5 ⟨rfl, hw5⟩
    have kk6 : blk w5 (w2.heap.size) = some #[.int .i64 (A : Int), .int .u64 ((B : Int) + (S : Int)), .int .i64 (O : Int)] := (by (apply blk_to; (focus (repeat (first | (with_reducible assumption) | (with_reducible apply blk_drew) | (with_reducible apply blk_set) | ((with_reducible apply blk_other'); (first | (focus (dsimp only; assumption)) | (focus (simp; done)) | (focus (dsimp only; omega)))) | ((with_reducible apply blk_alloc_new); (first | (with_reducible rfl) | (focus (simp; done)) | (focus (simp; omega)))) | (with_reducible apply blk_alloc) | ((with_reducible apply blk_below); (with_reducible assumption))))); rfl))
    have kk7 : blk w5 (w2.heap.size + 1) = some #[.int .i64 (A' : Int), .int .u64 (B' : Int), .int .i64 0] := (by (apply blk_to; (focus (repeat (first | (with_reducible assumption) | (with_reducible apply blk_drew) | (with_reducible apply blk_set) | ((with_reducible apply blk_other'); (first | (focus (dsimp only; assumption)) | (focus (simp; done)) | (focus (dsimp only; omega)))) | ((with_reducible apply blk_alloc_new); (first | (with_reducible rfl) | (focus (simp; done)) | (focus (simp; omega)))) | (with_reducible apply blk_alloc) | ((with_reducible apply blk_below); (with_reducible assumption))))); rfl))
    clear kk4 kn4 kk5 kn5
    have kn6 := kn kk6
    have kn7 := kn kk7
    have bw5 : Below w.heap.size w w5 := (by (repeat (first | (with_reducible assumption) | (with_reducible exact Below.refl _ _) | (with_reducible refine beld_drew ?_) | ((with_reducible refine bset' ?_ ?_); (first | (focus (dsimp only; assumption)) | (focus (simp; done)) | (focus (dsimp only; omega)))) | (with_reducible refine belt_alloc ?_) | ((with_reducible refine zeroed_below' ?_ ?_); (first | (focus (simp; done)) | (focus (dsimp only; omega)))) | (with_reducible refine bt ?_ (by assumption)))))
    have sw5 := bw5.size
    clear hw5 bw4
    go_wp2_with fail
    (with_reducible refine (g7.out _).mono ?_)
    rintro e w6 ⟨rfl, hw6⟩
    have kk8 : blk w6 (w2.heap.size) = some #[.int .i64 (A : Int), .int .u64 ((B : Int) + (S : Int)), .int .i64 (O : Int)] := (by (apply blk_to; (focus (repeat (first | (with_reducible assumption) | (with_reducible apply blk_drew) | (with_reducible apply blk_set) | ((with_reducible apply blk_other'); (first | (focus (dsimp only; assumption)) | (focus (simp; done)) | (focus (dsimp only; omega)))) | ((with_reducible apply blk_alloc_new); (first | (with_reducible rfl) | (focus (simp; done)) | (focus (simp; omega)))) | (with_reducible apply blk_alloc) | ((with_reducible apply blk_below); (with_reducible assumption))))); rfl))
    have kk9 : blk w6 (w2.heap.size + 1) = some #[.int .i64 (A' : Int), .int .u64 (B' : Int), .int .i64 0] := (by (apply blk_to; (focus (repeat (first | (with_reducible assumption) | (with_reducible apply blk_drew) | (with_reducible apply blk_set) | ((with_reducible apply blk_other'); (first | (focus (dsimp only; assumption)) | (focus (simp; done)) | (focus (dsimp only; omega)))) | ((with_reducible apply blk_alloc_new); (first | (with_reducible rfl) | (focus (simp; done)) | (focus (simp; omega)))) | (with_reducible apply blk_alloc) | ((with_reducible apply blk_below); (with_reducible assumption))))); rfl))
    clear kk6 kn6 kk7 kn7
    have kn8 := kn kk8
    have kn9 := kn kk9
    have bw6 : Below w.heap.size w w6 := (by (repeat (first | (with_reducible assumption) | (with_reducible exact Below.refl _ _) | (with_reducible refine beld_drew ?_) | ((with_reducible refine bset' ?_ ?_); (first | (focus (dsimp only; assumption)) | (focus (simp; done)) | (focus (dsimp only; omega)))) | (with_reducible refine belt_alloc ?_) | ((with_reducible refine zeroed_below' ?_ ?_); (first | (focus (simp; done)) | (focus (dsimp only; omega)))) | (with_reducible refine bt ?_ (by assumption)))))
    have sw6 := bw6.size
    clear hw6 bw5
    go_wp2_with fail
    (with_reducible refine (g0.out _).mono ?_)
    rintro e w7 ⟨rfl, hw7⟩
    have kk10 : blk w7 (w2.heap.size) = some #[.int .i64 (A : Int), .int .u64 ((B : Int) + (S : Int)), .int .i64 (O : Int)] := (by (apply blk_to; (focus (repeat (first | (with_reducible assumption) | (with_reducible apply blk_drew) | (with_reducible apply blk_set) | ((with_reducible apply blk_other'); (first | (focus (dsimp only; assumption)) | (focus (simp; done)) | (focus (dsimp only; omega)))) | ((with_reducible apply blk_alloc_new); (first | (with_reducible rfl) | (focus (simp; done)) | (focus (simp; omega)))) | (with_reducible apply blk_alloc) | ((with_reducible apply blk_below); (with_reducible assumption))))); rfl))
    have kk11 : blk w7 (w2.heap.size + 1) = some #[.int .i64 (A' : Int), .int .u64 (B' : Int), .int .i64 0] := (by (apply blk_to; (focus (repeat (first | (with_reducible assumption) | (with_reducible apply blk_drew) | (with_reducible apply blk_set) | ((with_reducible apply blk_other'); (first | (focus (dsimp only; assumption)) | (focus (simp; done)) | (focus (dsimp only; omega)))) | ((with_reducible apply blk_alloc_new); (first | (with_reducible rfl) | (focus (simp; done)) | (focus (simp; omega)))) | (with_reducible apply blk_alloc) | ((with_reducible apply blk_below); (with_reducible assumption))))); rfl))
    have kk12 : blk w7 (w6.heap.size) = some #[.int .i64 (A : Int), .int .u64 ((B : Int) + (S : Int)), .int .i64 (O : Int)] := (by (apply blk_to; (focus (repeat (first | (with_reducible assumption) | (with_reducible apply blk_drew) | (with_reducible apply blk_set) | ((with_reducible apply blk_other'); (first | (focus (dsimp only; assumption)) | (focus (simp; done)) | (focus (dsimp only; omega)))) | ((with_reducible apply blk_alloc_new); (first | (with_reducible rfl) | (focus (simp; done)) | (focus (simp; omega)))) | (with_reducible apply blk_alloc) | ((with_reducible apply blk_below); (with_reducible assumption))))); rfl))
    clear kk8 kn8 kk9 kn9
    have kn10 := kn kk10
    have kn11 := kn kk11
    have kn12 := kn kk12
    have bw7 : Below w.heap.size w w7 := (by (repeat (first | (with_reducible assumption) | (with_reducible exact Below.refl _ _) | (with_reducible refine beld_drew ?_) | ((with_reducible refine bset' ?_ ?_); (first | (focus (dsimp only; assumption)) | (focus (simp; done)) | (focus (dsimp only; omega)))) | (with_reducible refine belt_alloc ?_) | ((with_reducible refine zeroed_below' ?_ ?_); (first | (focus (simp; done)) | (focus (dsimp only; omega)))) | (with_reducible refine bt ?_ (by assumption)))))
    have sw7 := bw7.size
    clear hw7 bw6
    go_wp2
    go_ret
    exact ⟨rfl, by (repeat (first | (with_reducible assumption) | (with_reducible exact Below.refl _ _) | (with_reducible refine beld_drew ?_) | ((with_reducible refine bset' ?_ ?_); (first | (focus (dsimp only; assumption)) | (focus (simp; done)) | (focus (dsimp only; omega)))) | (with_reducible refine belt_alloc ?_) | ((with_reducible refine zeroed_below' ?_ ?_); (first | (focus (simp; done)) | (focus (dsimp only; omega)))) | (with_reducible refine bt ?_ (by assumption))))⟩
  · have hne1 : ¬ x.toList = y.toList := by rw [ByteArray.toList_eq, ByteArray.toList_eq]; exact hne
    have hne2 : (x.toList == y.toList) = false := by simpa using hne1
    clear hne
    go_enter Tryd.func8, Tryd.ntmps8
    go_wp2_with fail
    (with_reducible refine (g1.out _).mono ?_)
    rintro e w1 ⟨rfl, hw1⟩
    have bw1 : Below w.heap.size w w1 := (by (repeat (first | (with_reducible assumption) | (with_reducible exact Below.refl _ _) | (with_reducible refine beld_drew ?_) | ((with_reducible refine bset' ?_ ?_); (first | (focus (dsimp only; assumption)) | (focus (simp; done)) | (focus (dsimp only; omega)))) | (with_reducible refine belt_alloc ?_) | ((with_reducible refine zeroed_below' ?_ ?_); (first | (focus (simp; done)) | (focus (dsimp only; omega)))) | (with_reducible refine bt ?_ (by assumption)))))
    have sw1 := bw1.size
    clear hw1
    go_wp2_with fail
    (with_reducible refine (g2.out _).mono ?_)
    rintro e w2 ⟨rfl, hw2⟩
    have bw2 : Below w.heap.size w w2 := (by (repeat (first | (with_reducible assumption) | (with_reducible exact Below.refl _ _) | (with_reducible refine beld_drew ?_) | ((with_reducible refine bset' ?_ ?_); (first | (focus (dsimp only; assumption)) | (focus (simp; done)) | (focus (dsimp only; omega)))) | (with_reducible refine belt_alloc ?_) | ((with_reducible refine zeroed_below' ?_ ?_); (first | (focus (simp; done)) | (focus (dsimp only; omega)))) | (with_reducible refine bt ?_ (by assumption)))))
    have sw2 := bw2.size
    clear hw2 bw1
    go_wp2_with fail
    refine wp_region_tail 7 (by kernel_rfl) (by kernel_rfl) ?_
    intro W0_13 hE_13 hN_13
    have bW0_13 : Below w.heap.size w W0_13 := (by rw [hE_13.out]; (repeat (first | (with_reducible assumption) | (with_reducible exact Below.refl _ _) | (with_reducible refine beld_drew ?_) | ((with_reducible refine bset' ?_ ?_); (first | (focus (dsimp only; assumption)) | (focus (simp; done)) | (focus (dsimp only; omega)))) | (with_reducible refine belt_alloc ?_) | ((with_reducible refine zeroed_below' ?_ ?_); (first | (focus (simp; done)) | (focus (dsimp only; omega)))) | (with_reducible refine bt ?_ (by assumption)))))
    have kk14 : blk W0_13 (w2.heap.size) = some #[.int .i64 (A : Int), .int .u64 (B : Int), .int .i64 0] := (by rw [hE_13.out]; (apply blk_to; (focus (repeat (first | (with_reducible assumption) | (with_reducible apply blk_drew) | (with_reducible apply blk_set) | ((with_reducible apply blk_other'); (first | (focus (dsimp only; assumption)) | (focus (simp; done)) | (focus (dsimp only; omega)))) | ((with_reducible apply blk_alloc_new); (first | (with_reducible rfl) | (focus (simp; done)) | (focus (simp; omega)))) | (with_reducible apply blk_alloc) | ((with_reducible apply blk_below); (with_reducible assumption))))); rfl))
    have kk15 : blk W0_13 (w2.heap.size + 1) = some #[.int .i64 (A' : Int), .int .u64 (B' : Int), .int .i64 0] := (by rw [hE_13.out]; (apply blk_to; (focus (repeat (first | (with_reducible assumption) | (with_reducible apply blk_drew) | (with_reducible apply blk_set) | ((with_reducible apply blk_other'); (first | (focus (dsimp only; assumption)) | (focus (simp; done)) | (focus (dsimp only; omega)))) | ((with_reducible apply blk_alloc_new); (first | (with_reducible rfl) | (focus (simp; done)) | (focus (simp; omega)))) | (with_reducible apply blk_alloc) | ((with_reducible apply blk_below); (with_reducible assumption))))); rfl))
    have kn14 := calm_kn kk14
    have kn15 := calm_kn kk15
    clear hE_13
    simp only [List.take_succ_cons, List.take_zero, List.drop_succ_cons, List.drop_zero]
    repeat (go_big_quiet_step ((go_at_call 22; (with_reducible refine Class.same _ (g3.out _)))))
    refine wpQuiet_nil ?_
    rintro _ ⟨x_13, rfl⟩
    have hx_13 : Calm W0_13 x_13.wd := x_13.ok
    have bw3 : Below w.heap.size w x_13.wd := bt bW0_13 hx_13
    clear kn14; replace kk14 := blk_below hx_13 kk14; have kn14 := kn kk14
    clear kn15; replace kk15 := blk_below hx_13 kk15; have kn15 := kn kk15
    clear hx_13 bW0_13 hN_13 bw2
    generalize x_13.wd = w3 at *
    have sw3 := bw3.size
    go_wp2_with fail
    (with_reducible refine (g4.out _).mono ?_)
    rintro e wx ⟨rfl, rfl⟩
    go_wp2_with fail
    (with_reducible refine (g5.out _ (by exact HT.out _ (by (repeat (first | (with_reducible assumption) | (with_reducible exact Below.refl _ _) | (with_reducible refine beld_drew ?_) | ((with_reducible refine bset' ?_ ?_); (first | (focus (dsimp only; assumption)) | (focus (simp; done)) | (focus (dsimp only; omega)))) | (with_reducible refine belt_alloc ?_) | ((with_reducible refine zeroed_below' ?_ ?_); (first | (focus (simp; done)) | (focus (dsimp only; omega)))) | (with_reducible refine bt ?_ (by assumption))))))).mono ?_)
    rintro e w4 ⟨rfl, hw4⟩
    have kk16 : blk w4 (w2.heap.size) = some #[.int .i64 (A : Int), .int .u64 ((B : Int) + (S : Int)), .int .i64 (O : Int)] := (by (apply blk_to; (focus (repeat (first | (with_reducible assumption) | (with_reducible apply blk_drew) | (with_reducible apply blk_set) | ((with_reducible apply blk_other'); (first | (focus (dsimp only; assumption)) | (focus (simp; done)) | (focus (dsimp only; omega)))) | ((with_reducible apply blk_alloc_new); (first | (with_reducible rfl) | (focus (simp; done)) | (focus (simp; omega)))) | (with_reducible apply blk_alloc) | ((with_reducible apply blk_below); (with_reducible assumption))))); rfl))
    have kk17 : blk w4 (w2.heap.size + 1) = some #[.int .i64 (A' : Int), .int .u64 (B' : Int), .int .i64 0] := (by (apply blk_to; (focus (repeat (first | (with_reducible assumption) | (with_reducible apply blk_drew) | (with_reducible apply blk_set) | ((with_reducible apply blk_other'); (first | (focus (dsimp only; assumption)) | (focus (simp; done)) | (focus (dsimp only; omega)))) | ((with_reducible apply blk_alloc_new); (first | (with_reducible rfl) | (focus (simp; done)) | (focus (simp; omega)))) | (with_reducible apply blk_alloc) | ((with_reducible apply blk_below); (with_reducible assumption))))); rfl))
    clear kk14 kn14 kk15 kn15
    have kn16 := kn kk16
    have kn17 := kn kk17
    have bw4 : Below w.heap.size w w4 := (by (repeat (first | (with_reducible assumption) | (with_reducible exact Below.refl _ _) | (with_reducible refine beld_drew ?_) | ((with_reducible refine bset' ?_ ?_); (first | (focus (dsimp only; assumption)) | (focus (simp; done)) | (focus (dsimp only; omega)))) | (with_reducible refine belt_alloc ?_) | ((with_reducible refine zeroed_below' ?_ ?_); (first | (focus (simp; done)) | (focus (dsimp only; omega)))) | (with_reducible refine bt ?_ (by assumption)))))
    have sw4 := bw4.size
    clear hw4 bw3
    go_wp2_with fail
    (with_reducible refine (g6.out _ (by exact HT.out _ (by (repeat (first | (with_reducible assumption) | (with_reducible exact Below.refl _ _) | (with_reducible refine beld_drew ?_) | ((with_reducible refine bset' ?_ ?_); (first | (focus (dsimp only; assumption)) | (focus (simp; done)) | (focus (dsimp only; omega)))) | (with_reducible refine belt_alloc ?_) | ((with_reducible refine zeroed_below' ?_ ?_); (first | (focus (simp; done)) | (focus (dsimp only; omega)))) | (with_reducible refine bt ?_ (by assumption))))))).mono ?_)
    rintro e w5 ⟨rfl, hw5⟩
    have kk18 : blk w5 (w2.heap.size) = some #[.int .i64 (A : Int), .int .u64 ((B : Int) + (S : Int)), .int .i64 (O : Int)] := (by (apply blk_to; (focus (repeat (first | (with_reducible assumption) | (with_reducible apply blk_drew) | (with_reducible apply blk_set) | ((with_reducible apply blk_other'); (first | (focus (dsimp only; assumption)) | (focus (simp; done)) | (focus (dsimp only; omega)))) | ((with_reducible apply blk_alloc_new); (first | (with_reducible rfl) | (focus (simp; done)) | (focus (simp; omega)))) | (with_reducible apply blk_alloc) | ((with_reducible apply blk_below); (with_reducible assumption))))); rfl))
    have kk19 : blk w5 (w2.heap.size + 1) = some #[.int .i64 (A' : Int), .int .u64 (B' : Int), .int .i64 0] := (by (apply blk_to; (focus (repeat (first | (with_reducible assumption) | (with_reducible apply blk_drew) | (with_reducible apply blk_set) | ((with_reducible apply blk_other'); (first | (focus (dsimp only; assumption)) | (focus (simp; done)) | (focus (dsimp only; omega)))) | ((with_reducible apply blk_alloc_new); (first | (with_reducible rfl) | (focus (simp; done)) | (focus (simp; omega)))) | (with_reducible apply blk_alloc) | ((with_reducible apply blk_below); (with_reducible assumption))))); rfl))
    clear kk16 kn16 kk17 kn17
    have kn18 := kn kk18
    have kn19 := kn kk19
    have bw5 : Below w.heap.size w w5 := (by (repeat (first | (with_reducible assumption) | (with_reducible exact Below.refl _ _) | (with_reducible refine beld_drew ?_) | ((with_reducible refine bset' ?_ ?_); (first | (focus (dsimp only; assumption)) | (focus (simp; done)) | (focus (dsimp only; omega)))) | (with_reducible refine belt_alloc ?_) | ((with_reducible refine zeroed_below' ?_ ?_); (first | (focus (simp; done)) | (focus (dsimp only; omega)))) | (with_reducible refine bt ?_ (by assumption)))))
    have sw5 := bw5.size
    clear hw5 bw4
    go_wp2_with fail
    (with_reducible refine (g7.out _).mono ?_)
    rintro e w6 ⟨rfl, hw6⟩
    have kk20 : blk w6 (w2.heap.size) = some #[.int .i64 (A : Int), .int .u64 ((B : Int) + (S : Int)), .int .i64 (O : Int)] := (by (apply blk_to; (focus (repeat (first | (with_reducible assumption) | (with_reducible apply blk_drew) | (with_reducible apply blk_set) | ((with_reducible apply blk_other'); (first | (focus (dsimp only; assumption)) | (focus (simp; done)) | (focus (dsimp only; omega)))) | ((with_reducible apply blk_alloc_new); (first | (with_reducible rfl) | (focus (simp; done)) | (focus (simp; omega)))) | (with_reducible apply blk_alloc) | ((with_reducible apply blk_below); (with_reducible assumption))))); rfl))
    have kk21 : blk w6 (w2.heap.size + 1) = some #[.int .i64 (A' : Int), .int .u64 (B' : Int), .int .i64 0] := (by (apply blk_to; (focus (repeat (first | (with_reducible assumption) | (with_reducible apply blk_drew) | (with_reducible apply blk_set) | ((with_reducible apply blk_other'); (first | (focus (dsimp only; assumption)) | (focus (simp; done)) | (focus (dsimp only; omega)))) | ((with_reducible apply blk_alloc_new); (first | (with_reducible rfl) | (focus (simp; done)) | (focus (simp; omega)))) | (with_reducible apply blk_alloc) | ((with_reducible apply blk_below); (with_reducible assumption))))); rfl))
    clear kk18 kn18 kk19 kn19
    have kn20 := kn kk20
    have kn21 := kn kk21
    have bw6 : Below w.heap.size w w6 := (by (repeat (first | (with_reducible assumption) | (with_reducible exact Below.refl _ _) | (with_reducible refine beld_drew ?_) | ((with_reducible refine bset' ?_ ?_); (first | (focus (dsimp only; assumption)) | (focus (simp; done)) | (focus (dsimp only; omega)))) | (with_reducible refine belt_alloc ?_) | ((with_reducible refine zeroed_below' ?_ ?_); (first | (focus (simp; done)) | (focus (dsimp only; omega)))) | (with_reducible refine bt ?_ (by assumption)))))
    have sw6 := bw6.size
    clear hw6 bw5
    go_wp2_with fail
    (with_reducible refine (g0.out _).mono ?_)
    rintro e w7 ⟨rfl, hw7⟩
    have kk22 : blk w7 (w2.heap.size) = some #[.int .i64 (A : Int), .int .u64 ((B : Int) + (S : Int)), .int .i64 (O : Int)] := (by (apply blk_to; (focus (repeat (first | (with_reducible assumption) | (with_reducible apply blk_drew) | (with_reducible apply blk_set) | ((with_reducible apply blk_other'); (first | (focus (dsimp only; assumption)) | (focus (simp; done)) | (focus (dsimp only; omega)))) | ((with_reducible apply blk_alloc_new); (first | (with_reducible rfl) | (focus (simp; done)) | (focus (simp; omega)))) | (with_reducible apply blk_alloc) | ((with_reducible apply blk_below); (with_reducible assumption))))); rfl))
    have kk23 : blk w7 (w2.heap.size + 1) = some #[.int .i64 (A' : Int), .int .u64 (B' : Int), .int .i64 0] := (by (apply blk_to; (focus (repeat (first | (with_reducible assumption) | (with_reducible apply blk_drew) | (with_reducible apply blk_set) | ((with_reducible apply blk_other'); (first | (focus (dsimp only; assumption)) | (focus (simp; done)) | (focus (dsimp only; omega)))) | ((with_reducible apply blk_alloc_new); (first | (with_reducible rfl) | (focus (simp; done)) | (focus (simp; omega)))) | (with_reducible apply blk_alloc) | ((with_reducible apply blk_below); (with_reducible assumption))))); rfl))
    have kk24 : blk w7 (w6.heap.size) = some #[.int .i64 (A : Int), .int .u64 ((B : Int) + (S : Int)), .int .i64 (O : Int)] := (by (apply blk_to; (focus (repeat (first | (with_reducible assumption) | (with_reducible apply blk_drew) | (with_reducible apply blk_set) | ((with_reducible apply blk_other'); (first | (focus (dsimp only; assumption)) | (focus (simp; done)) | (focus (dsimp only; omega)))) | ((with_reducible apply blk_alloc_new); (first | (with_reducible rfl) | (focus (simp; done)) | (focus (simp; omega)))) | (with_reducible apply blk_alloc) | ((with_reducible apply blk_below); (with_reducible assumption))))); rfl))
    clear kk20 kn20 kk21 kn21
    have kn22 := kn kk22
    have kn23 := kn kk23
    have kn24 := kn kk24
    have bw7 : Below w.heap.size w w7 := (by (repeat (first | (with_reducible assumption) | (with_reducible exact Below.refl _ _) | (with_reducible refine beld_drew ?_) | ((with_reducible refine bset' ?_ ?_); (first | (focus (dsimp only; assumption)) | (focus (simp; done)) | (focus (dsimp only; omega)))) | (with_reducible refine belt_alloc ?_) | ((with_reducible refine zeroed_below' ?_ ?_); (first | (focus (simp; done)) | (focus (dsimp only; omega)))) | (with_reducible refine bt ?_ (by assumption)))))
    have sw7 := bw7.size
    clear hw7 bw6
    go_wp2
    go_ret
    exact ⟨rfl, by (repeat (first | (with_reducible assumption) | (with_reducible exact Below.refl _ _) | (with_reducible refine beld_drew ?_) | ((with_reducible refine bset' ?_ ?_); (first | (focus (dsimp only; assumption)) | (focus (simp; done)) | (focus (dsimp only; omega)))) | (with_reducible refine belt_alloc ?_) | ((with_reducible refine zeroed_below' ?_ ?_); (first | (focus (simp; done)) | (focus (dsimp only; omega)))) | (with_reducible refine bt ?_ (by assumption))))⟩
end Go.Proofs.YtdbmiijnedkipaaDoor
