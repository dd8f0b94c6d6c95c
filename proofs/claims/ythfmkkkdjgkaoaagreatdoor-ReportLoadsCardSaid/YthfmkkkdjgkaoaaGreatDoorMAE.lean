/- Parts of a proof, printed by a program of mine out of my texts: RpRHo. -/
import Derived.Test.YthfmkkkdjgkaoaaGreatDoorMAD
import Derived.Test.YthfmkkkdjgkaoaaGreatDoorML
import Derived.Test.YthfmkkkdjgkaoaaGreatDoorMP
import Derived.Test.YthfmkkkdjgkaoaaGreatDoorMR
import Derived.Test.YthfmkkkdjgkaoaaGreatDoorMX10
set_option linter.unusedSimpArgs false
set_option linter.unusedVariables false
namespace Go.Proofs.YthfmkkkdjgkaoaaGreatDoor
open Go.RowKit
theorem rowId_one (l : List Id3) : ∀ u ∈ rowC idL l, u.oneCell' = true := by
  intro u hu
  simp only [rowC, List.mem_flatMap] at hu
  obtain ⟨x, _, hx⟩ := hu
  exact idL_one x u hx
theorem infoId : (Tryz.prog.info? 52).map (fun i => (i.zero, i.size, i.bytes)) = some (some (.agg #[.int .i64 0, .int .u64 0, .int .i64 0]), 3, 24) := by kernel_rfl
theorem own_emptyId (w : World) (e : TypeId) : (w.alloc (.cells #[] e)).ownsRow w.heap.size e 3 (.slice (some ⟨w.heap.size, 0, none⟩) 0 0) 0 [] :=
  ⟨rfl, .inr ⟨w.heap.size, 0, #[], rfl, Nat.le_refl _, heap_alloc_new w _, Nat.le_refl _, by unfold maxLen; omega, rfl, rfl⟩⟩
theorem srow_cellsG {α : Type} {enc : α → List Value} {k : Nat} (hk : ∀ x, (enc x).length = k) {w : World} {g off cap : Nat} {l : List α} (h : SRow enc k w (some ⟨g, off, none⟩) cap l) (j : Nat) (u : Value) (hj : (rowC enc l)[j]? = some u) : w.cell? ⟨g, off + j, none⟩ = some u := by
  have hjl : j < l.length * k := by
    have := (List.getElem?_eq_some_iff.1 hj).1
    rwa [rowC_length hk] at this
  have h0 : 0 < l.length := by
    rcases Nat.eq_zero_or_pos l.length with h0 | h0
    · rw [h0] at hjl; omega
    · exact h0
  have hk0 : 0 < k := by
    rcases Nat.eq_zero_or_pos k with h1 | h1
    · rw [h1] at hjl; omega
    · exact h1
  obtain ⟨b, o, e, _, hc⟩ := h.2.2.2 h0
  cases e
  have hi : j / k < l.length := Nat.div_lt_of_lt_mul (by rw [Nat.mul_comm]; exact hjl)
  have hm : j / k * k + j % k = j := by rw [Nat.mul_comm]; exact Nat.div_add_mod j k
  have h2 := rowC_cell hk l (j / k) (j % k) hi (Nat.mod_lt _ hk0) []
  rw [List.append_nil, hm, hj] at h2
  have := hc (j / k) hi (j % k) u h2.symm
  rwa [show g = g from rfl, Nat.add_assoc, hm] at this
theorem calm_cellQ {W0 : World} {b o : Nat} {v : Value} (hb : b < W0.heap.size) (h : W0.cell? ⟨b, o, none⟩ = some v) : ∀ x : Class (Calm W0), x.wd.cell? ⟨b, o, none⟩ = some v := fun x => (x.ok.cell (p := ⟨b, o, none⟩) hb).trans h
set_option maxRecDepth 100000 in
set_option maxHeartbeats 3200000 in
theorem rin_any (a : Option Addr) (cap : Nat) (H : List Id3) (k : Id3) (w : World) (hrow : SRow idL 3 w a cap H) :
    Calls Tryz.prog 62 #[.slice a H.length cap, .agg (idL k).toArray] w fun e w' => e = .returned (.bool (decide (k ∈ H))) ∧ Below w.heap.size w w' := by
  have HR := Lib.hid hrow
  have hcap := hrow.1
  have hmax := hrow.2.1
  unfold maxLen at hmax
  clear hrow
  obtain ⟨k1, k2, k3⟩ := k
  show Calls Tryz.prog 62 #[.slice a H.length cap, .agg #[.int .i64 k1, .int .u64 k2, .int .i64 k3]] w _
  go_enter Tryz.func62, Tryz.ntmps62
  go_wp2
  have hm0 : blk (w.alloc (.cells #[.int .i64 k1, .int .u64 k2, .int .i64 k3] 52)) w.heap.size = some #[.int .i64 k1, .int .u64 k2, .int .i64 k3] := by (apply blk_to; (focus (repeat (first | (with_reducible assumption) | (with_reducible apply blk_drew) | (with_reducible apply blk_set) | ((with_reducible apply blk_other'); (first | (focus (dsimp only; assumption)) | (focus (simp; done)) | (focus (dsimp only; omega)))) | ((with_reducible apply blk_alloc_new); (first | (with_reducible rfl) | (focus (simp; done)) | (focus (simp; omega)))) | (with_reducible apply blk_alloc) | ((with_reducible apply blk_below); (with_reducible assumption))))); rfl)
  have hmB : Below w.heap.size w (w.alloc (.cells #[.int .i64 k1, .int .u64 k2, .int .i64 k3] 52)) := by (repeat (first | (with_reducible assumption) | (with_reducible exact Below.refl _ _) | (with_reducible refine beld_drew ?_) | ((with_reducible refine bset' ?_ ?_); (first | (focus (dsimp only; assumption)) | (focus (simp; done)) | (focus (dsimp only; omega)))) | (with_reducible refine belt_alloc ?_) | ((with_reducible refine zeroed_below' ?_ ?_); (first | (focus (simp; done)) | (focus (dsimp only; omega)))) | (with_reducible refine bt ?_ (by assumption))))
  go_loopw [5] (fun i wr => ∃ j : Nat, i = .int .i64 j ∧ j ≤ H.length ∧ Below w.heap.size w wr ∧ Hid (blk wr w.heap.size = some #[.int .i64 k1, .int .u64 k2, .int .i64 k3] ∧ (k1, k2, k3) ∉ H.take j)) (fun i _ => H.length - (intOf i).toNat)
  case atStart => exact ⟨0, rfl, Nat.zero_le _, hmB, Lib.hid ⟨hm0, by simp⟩⟩
  case round =>
    clear hmB hm0
    obtain ⟨j, rfl, hj, hB, HM⟩ := hrel
    by_cases hlt : j < H.length
    · have hltz : (j : Int) < (H.length : Int) := by omega
      obtain ⟨g, off, hab, hbl, hcs⟩ := (HR.out.below hB).2.2.2 (by omega)
      subst hab
      obtain ⟨x, hx⟩ : ∃ x, x = H[j] := ⟨_, rfl⟩
      have hr := hcs j hlt
      rw [← hx] at hr
      have hsn : (k1, k2, k3) ∈ H.take (j + 1) ↔ (k1, k2, k3) = x := by
        rw [List.take_succ_eq_append_getElem hlt, ← hx, List.mem_append, List.mem_singleton]
        exact ⟨fun h => h.elim (fun h => absurd h HM.out.2) id, .inr⟩
      have hit : (k1, k2, k3) = x → (k1, k2, k3) ∈ H := fun h => by rw [h, hx]; exact List.getElem_mem _
      have E := fun W => run_idKEq x (k1, k2, k3) W
      obtain ⟨q, hq⟩ : ∃ q, decide (x = (k1, k2, k3)) = q := ⟨_, rfl⟩
      rw [hq] at E
      obtain ⟨x1, x2, x3⟩ := x
      have E : ∀ W, Sem.run Tryz.prog (binOp BinOp.eql 52 (.agg #[.int .i64 x1, .int .u64 x2, .int .i64 x3]) (.agg #[.int .i64 k1, .int .u64 k2, .int .i64 k3])) W = .ok (.bool q) W := E
      have j1 : wr.cell? ⟨g, off + j * 3, none⟩ = some (.int .i64 x1) := hr 0 _ rfl
      have j2 : wr.cell? ⟨g, off + j * 3 + 1, none⟩ = some (.int .u64 x2) := hr 1 _ rfl
      have j3 : wr.cell? ⟨g, off + j * 3 + 2, none⟩ = some (.int .i64 x3) := hr 2 _ rfl
      have HSN := Lib.hid hsn; have HIT := Lib.hid hit; have HQ := Lib.hid hq
      clear hx hcs hq hsn hit hr
      go_upto_region 4 with fail
      refine wp_region_in (by kernel_rfl) (by kernel_rfl) ?_
      intro W0 hE hN
      have q0 : blk W0 w.heap.size = some #[.int .i64 k1, .int .u64 k2, .int .i64 k3] := (by rw [hE.out]; exact HM.out.1)
      have q2 : Below w.heap.size w W0 := (by rw [hE.out]; exact hB)
      have n0 := calm_kn q0
      have n1 := calm_cellQ (W0 := W0) (by rw [hE.out]; exact hbl) (by rw [hE.out]; exact j1)
      have n2 := calm_cellQ (W0 := W0) (by rw [hE.out]; exact hbl) (by rw [hE.out]; exact j2)
      have n3 := calm_cellQ (W0 := W0) (by rw [hE.out]; exact hbl) (by rw [hE.out]; exact j3)
      clear hE hB hbl j1 j2 j3 HM
      repeat (go_big_quiet_step (fail))
      refine wpQuiet_nil ?_
      rintro _ ⟨x', rfl⟩
      have b3 := bt q2 x'.ok
      have k5 := blk_below x'.ok q0
      obtain ⟨u, hu⟩ : ∃ u, u = x'.wd := ⟨_, rfl⟩
      rw [← hu] at b3 k5 ⊢
      have KK := Lib.hid k5
      clear hu x' hN q0 q2 n0 n1 n2 n3 E k5
      cases q
      · go_wp2
        go_roundw
        case rel => exact ⟨j + 1, by go_num, by omega, b3, Lib.hid ⟨KK.out, fun h => absurd (HSN.out.1 h).symm (of_decide_eq_false HQ.out)⟩⟩
        case measure => simp [intOf]; omega
      · have hh : (k1, k2, k3) ∈ H := HIT.out (of_decide_eq_true HQ.out).symm
        have HH := Lib.hid hh
        clear hh
        go_wp2
        go_ret
        exact ⟨ret_bool (decide_eq_true HH.out).symm, b3⟩
    · obtain rfl : j = H.length := by omega
      have hf : (k1, k2, k3) ∉ H := by have := HM.out.2; rwa [List.take_length] at this
      have HF := Lib.hid hf
      clear hf
      go_wp2
      go_ret
      exact ⟨ret_bool (decide_eq_false HF.out).symm, hB⟩
theorem szB_z : szB zBn = 0 := by decide +kernel
theorem szO_fnd (b : List Bn) (k : Id3) : szB (fndX b k) = szO b szB k := by
  unfold fndX szO
  show szB ((b.find? fun x => decide (bid x = k)).getD zBn) = _
  cases b.find? fun x => decide (bid x = k) with
  | none => exact szB_z
  | some x => rfl
theorem fndX_mem (b : List Bn) (k : Id3) : fndX b k ∈ b ∨ fndX b k = zBn := by
  unfold fndX
  rcases fndB_cases b k with ⟨h, _⟩ | ⟨i, hi, h, _⟩
  · rw [h]; exact .inr rfl
  · rw [h]; exact .inl (List.getElem_mem _)
set_option maxRecDepth 100000 in
set_option maxHeartbeats 3200000 in
theorem rsz43_any (a : Option Addr) (cap : Nat) (b : List Bn) (k : Id3) (hbc : ∀ x ∈ b, bcode x = 0) (hd : ∀ x ∈ b, x.da.size ≤ maxLen ∧ 0 ≤ x.sq) (w : World) (hrow : SRow bn 9 w a cap b) :
    Calls Tryz.prog 34 #[.slice a b.length cap, .agg (idL k).toArray] w fun e w' => e = .returned (.int .u64 (szO b szB k)) ∧ Below w.heap.size w w' := by
  have GF := Lib.hid (fun W (hB : Below w.heap.size w W) => rfnd_any a cap b k W (hrow.below hB))
  have hx : (fndX b k).da.size ≤ maxLen ∧ 0 ≤ (fndX b k).sq := by
    rcases fndX_mem b k with h | h
    · exact hd _ h
    · rw [h]; exact ⟨by decide, by decide⟩
  have hs := szO_bd hbc k
  rw [← szO_fnd] at hs ⊢
  obtain ⟨x, hxx⟩ : ∃ x, fndX b k = x := ⟨_, rfl⟩
  rw [hxx] at hx hs GF ⊢
  have GS := Lib.hid (fun W => rSz_any x hx.1 hx.2 W)
  obtain ⟨S, hS⟩ : ∃ S, szB x = S := ⟨_, rfl⟩
  rw [hS] at hs GS ⊢
  obtain ⟨x1, x2, x3, x4, x5, x6, x7, x8, x9⟩ := x
  have GF : Hid (∀ W, Below w.heap.size w W → Calls Tryz.prog 59 #[.slice a b.length cap, .agg (idL k).toArray] W fun e w' => e = .returned (.tuple #[.agg #[.int .i64 x1, .int .u64 x2, .int .i64 x3, .int .i64 x4, .int .i64 x5, .int .i64 x6, .int .i64 x7, .int .i64 x8, .string x9], .bool (fndB b k).isSome]) ∧ Below W.heap.size W w') := GF
  have q1 : IntKind.u64.wrap S = S := IntWalk.u64_in _ (by omega)
  obtain ⟨k1, k2, k3⟩ := k
  have GF : Hid (∀ W, Below w.heap.size w W → Calls Tryz.prog 59 #[.slice a b.length cap, .agg #[.int .i64 k1, .int .u64 k2, .int .i64 k3]] W fun e w' => e = .returned (.tuple #[.agg #[.int .i64 x1, .int .u64 x2, .int .i64 x3, .int .i64 x4, .int .i64 x5, .int .i64 x6, .int .i64 x7, .int .i64 x8, .string x9], .bool (fndB b (k1, k2, k3)).isSome]) ∧ Below W.heap.size W w') := GF
  show Calls Tryz.prog 34 #[.slice a b.length cap, .agg #[.int .i64 k1, .int .u64 k2, .int .i64 k3]] w _
  clear hxx hx hS hrow hbc hd
  go_enter Tryz.func34, Tryz.ntmps34
  go_wp2_with (first
    | (go_at_call 59; (with_reducible refine (GF.out _ (by (repeat (first | (with_reducible assumption) | (with_reducible exact Below.refl _ _) | (with_reducible refine beld_drew ?_) | ((with_reducible refine bset' ?_ ?_); (first | (focus (dsimp only; assumption)) | (focus (simp; done)) | (focus (dsimp only; omega)))) | (with_reducible refine belt_alloc ?_) | ((with_reducible refine zeroed_below' ?_ ?_); (first | (focus (simp; done)) | (focus (dsimp only; omega)))) | (with_reducible refine bt ?_ (by assumption)))))).mono ?_); rintro e w2 ⟨rfl, h2⟩; (have B2 : Below w.heap.size w w2 := (by (repeat (first | (with_reducible assumption) | (with_reducible exact Below.refl _ _) | (with_reducible refine beld_drew ?_) | ((with_reducible refine bset' ?_ ?_); (first | (focus (dsimp only; assumption)) | (focus (simp; done)) | (focus (dsimp only; omega)))) | (with_reducible refine belt_alloc ?_) | ((with_reducible refine zeroed_below' ?_ ?_); (first | (focus (simp; done)) | (focus (dsimp only; omega)))) | (with_reducible refine bt ?_ (by assumption)))))))
    | (go_at_call 24; (with_reducible refine (GS.out _).mono ?_); rintro e w3 ⟨z3, rfl, h3⟩; (have B3 : Below w.heap.size w w3 := (by (repeat (first | (with_reducible assumption) | (with_reducible exact Below.refl _ _) | (with_reducible refine beld_drew ?_) | ((with_reducible refine bset' ?_ ?_); (first | (focus (dsimp only; assumption)) | (focus (simp; done)) | (focus (dsimp only; omega)))) | (with_reducible refine belt_alloc ?_) | ((with_reducible refine zeroed_below' ?_ ?_); (first | (focus (simp; done)) | (focus (dsimp only; omega)))) | (with_reducible refine bt ?_ (by assumption))))))))
  go_ret
  exact ⟨rfl, B3⟩
def RetH (v : Value) (H L : List Id3) (w : World) (e : Ending) (w' : World) : Prop := ∃ v', e = .returned v' ∧ ((v' = v ∧ L = H) ∨ w'.ownsRow w.heap.size 52 3 v' L.length (rowC idL L)) ∧ Below w.heap.size w w'
theorem RetH.same {H L : List Id3} {w w' : World} {v : Value} (hb : Below w.heap.size w w') (e : L = H) : RetH v H L w (.returned v) w' := ⟨v, rfl, .inl ⟨rfl, e⟩, hb⟩
theorem RetH.own {H L L' : List Id3} {w w' : World} {v v' : Value} {B : Nat} (ho : w'.ownsRow B 52 3 v' L'.length (rowC idL L')) (h0 : w.heap.size ≤ B) (hb : Below w.heap.size w w') (e : L = L') : RetH v H L w (.returned v') w' := ⟨v', rfl, .inr (e ▸ owns_base ho h0), hb⟩
theorem fndX_de (b : List Bn) (k : Id3) : (fndX b k).de = (b.find? fun x => decide (bid x = k)).elim 0 (·.de) := by
  unfold fndX
  show ((b.find? fun x => decide (bid x = k)).getD zBn).de = _
  cases b.find? fun x => decide (bid x = k) <;> rfl
theorem wp_fresh3 {P : Program} {cd : Code} {Q : Exit → Act → World → Prop} {a : Act} {W w0 : World} {B : Nat} (b1 b2 : Nat) (c1 c2 : Array Value) (h1 : blk W b1 = some c1) (h2 : blk W b2 = some c2) (hB : Below B w0 W)
    (h : ∀ w', blk w' b1 = some c1 → blk w' b2 = some c2 → Below B w0 w' → cd.wp P Q a w') : cd.wp P Q a W := h W h1 h2 hB
theorem flt_succ (H : List Id3) (k : Id3) (j : Nat) (h : j < H.length) : (H.take (j + 1)).filter (fun x => decide (x ≠ k)) = (H.take j).filter (fun x => decide (x ≠ k)) ++ if decide (H[j] ≠ k) = true then [H[j]] else [] := by
  rw [List.take_succ_eq_append_getElem h, List.filter_append]
  congr 1
  by_cases hh : H[j] = k <;> simp [hh]
set_option maxRecDepth 100000 in
set_option maxHeartbeats 12800000 in
theorem rholds_any (ab ah : Option Addr) (cb ch : Nat) (b : List Bn) (H : List Id3) (o : Oc) (node : Int) (hHL : H.length ≤ 10000) (w : World) (hb : SRow bn 9 w ab cb b) (hH : SRow idL 3 w ah ch H) :
    Calls Tryz.prog 33 #[.slice ab b.length cb, .slice ah H.length ch, .agg #[.int .i64 o.ti, .int .i64 o.no, .int .i64 o.ki, .int .i64 o.ino, .int .u64 o.isq, .int .i64 o.iof, .int .i64 o.ot], .int .i64 node] w (RetH (.slice ah H.length ch) H (hldO b node H o) w) := by
  have HS := Lib.hid hH
  have HHL := Lib.hid hHL
  have GI : Hid (∀ W, Below w.heap.size w W → Calls Tryz.prog 62 #[.slice ah H.length ch, .agg #[.int .i64 o.ino, .int .u64 o.isq, .int .i64 o.iof]] W fun e w' => e = .returned (.bool (decide (oid o ∈ H))) ∧ Below W.heap.size W w') := Lib.hid fun W hB => rin_any ah ch H (oid o) W (hH.below hB)
  have gf : ∀ W, Below w.heap.size w W → Calls Tryz.prog 59 #[.slice ab b.length cb, .agg #[.int .i64 o.ino, .int .u64 o.isq, .int .i64 o.iof]] W fun e w' => e = .returned (.tuple #[.agg (bn (fndX b (oid o))).toArray, .bool (fndB b (oid o)).isSome]) ∧ Below W.heap.size W w' := fun W hB => rfnd_any ab cb b (oid o) W (hb.below hB)
  have hde := fndX_de b (oid o)
  obtain ⟨x, hx⟩ : ∃ x, fndX b (oid o) = x := ⟨_, rfl⟩
  rw [hx] at gf hde
  obtain ⟨x1, x2, x3, x4, x5, x6, x7, x8, x9⟩ := x
  have GF : Hid (∀ W, Below w.heap.size w W → Calls Tryz.prog 59 #[.slice ab b.length cb, .agg #[.int .i64 o.ino, .int .u64 o.isq, .int .i64 o.iof]] W fun e w' => e = .returned (.tuple #[.agg #[.int .i64 x1, .int .u64 x2, .int .i64 x3, .int .i64 x4, .int .i64 x5, .int .i64 x6, .int .i64 x7, .int .i64 x8, .string x9], .bool (fndB b (oid o)).isSome]) ∧ Below W.heap.size W w') := Lib.hid gf
  have hL : ∀ p, hldO b node H o = p → hldO b node H o = p := fun _ h => h
  have hD : hldO b node H o = if o.no ≠ node then H else if o.ki = 1 ∨ o.ki = 6 then (if oid o ∈ H ∨ o.ki = 1 ∧ x4 = node then H else H ++ [oid o]) else if o.ki = 7 ∨ o.ki = 9 then H.filter fun k => decide (k ≠ oid o) else H := by
    unfold hldO; rw [← hde]
  obtain ⟨LL, hLL⟩ : ∃ L, hldO b node H o = L := ⟨_, rfl⟩
  rw [hLL] at hD ⊢
  have HD := Lib.hid hD
  clear gf hx hde hLL hD hb hH hHL hL
  have kbx : blk (w.alloc (.cells #[.int .i64 o.ti, .int .i64 o.no, .int .i64 o.ki, .int .i64 o.ino, .int .u64 o.isq, .int .i64 o.iof, .int .i64 o.ot] 56)) w.heap.size = some #[.int .i64 o.ti, .int .i64 o.no, .int .i64 o.ki, .int .i64 o.ino, .int .u64 o.isq, .int .i64 o.iof, .int .i64 o.ot] := blk_alloc_new _ _ _ rfl
  have bal : Below w.heap.size w (w.alloc (.cells #[.int .i64 o.ti, .int .i64 o.no, .int .i64 o.ki, .int .i64 o.ino, .int .u64 o.isq, .int .i64 o.iof, .int .i64 o.ot] 56)) := (Below.refl _ _).alloc (Nat.le_refl _) _
  have nbx := kn kbx
  by_cases hn : o.no = node
  · have t1 : (o.no != node) = false := by simpa using hn
    by_cases hk : o.ki = 1 ∨ o.ki = 6
    · have hD := HD.out
      rw [if_neg (fun h => h hn), if_pos hk] at hD
      have h16 : (o.ki == 1) = true ∨ ((o.ki == 1) = false ∧ (o.ki == 6) = true) := by
        rcases hk with h | h
        · exact .inl (by simpa using h)
        · exact .inr ⟨by simp [h], by simpa using h⟩
      have HK1 : Hid ((o.ki == 1) = true ↔ o.ki = 1) := Lib.hid (by simp)
      clear hk hn HD
      by_cases hp : oid o ∈ H
      · rw [if_pos (.inl hp)] at hD
        have HDD := Lib.hid hD
        have GI9 : Hid (∀ W, Below w.heap.size w W → Calls Tryz.prog 62 #[.slice ah H.length ch, .agg #[.int .i64 o.ino, .int .u64 o.isq, .int .i64 o.iof]] W fun e w' => e = .returned (.bool true) ∧ Below W.heap.size W w') := Lib.hid (by rw [← show decide (oid o ∈ H) = true from decide_eq_true hp]; exact GI.out)
        clear hD hp GI HK1
        rcases h16 with c1 | ⟨c1, c6⟩
        all_goals
          go_enter Tryz.func33, Tryz.ntmps33
          go_upto_region 7 with (go_at_call 59; (with_reducible refine (GF.out _ bal).mono ?_); rintro e w3 ⟨rfl, h3⟩; (have kb3 := blk_below h3 kbx); (have B3 : Below w.heap.size w w3 := bta h3))
          refine wp_fresh3 w.heap.size w3.heap.size #[.int .i64 o.ti, .int .i64 o.no, .int .i64 o.ki, .int .i64 o.ino, .int .u64 o.isq, .int .i64 o.iof, .int .i64 o.ot] #[.int .i64 x1, .int .u64 x2, .int .i64 x3, .int .i64 x4, .int .i64 x5, .int .i64 x6, .int .i64 x7, .int .i64 x8, .string x9] (by exact blk_alloc kb3 _) (by exact blk_alloc_new _ _ _ rfl) (by exact B3.alloc B3.size _) ?_
          intro u kb kx hu
          have nb := kn kb
          have nx := kn kx
          go_wp2_with (go_at_call 62; (with_reducible refine (GI9.out _ hu).mono ?_); rintro e w4 ⟨rfl, h4⟩; (have B4 := bt hu h4); clear nb nx)
          go_ret
          exact RetH.same B4 HDD.out
      · have GI9 : Hid (∀ W, Below w.heap.size w W → Calls Tryz.prog 62 #[.slice ah H.length ch, .agg #[.int .i64 o.ino, .int .u64 o.isq, .int .i64 o.iof]] W fun e w' => e = .returned (.bool false) ∧ Below W.heap.size W w') := Lib.hid (by rw [← show decide (oid o ∈ H) = false from decide_eq_false hp]; exact GI.out)
        by_cases hst : o.ki = 1 ∧ x4 = node
        · rw [if_pos (.inr hst)] at hD
          have HDD := Lib.hid hD
          have c1 : (o.ki == 1) = true := HK1.out.2 hst.1
          have c4 : (x4 == node) = true := by simpa using hst.2
          clear hD hp GI HK1 h16 hst
          go_enter Tryz.func33, Tryz.ntmps33
          go_upto_region 7 with (go_at_call 59; (with_reducible refine (GF.out _ bal).mono ?_); rintro e w3 ⟨rfl, h3⟩; (have kb3 := blk_below h3 kbx); (have B3 : Below w.heap.size w w3 := bta h3))
          refine wp_fresh3 w.heap.size w3.heap.size #[.int .i64 o.ti, .int .i64 o.no, .int .i64 o.ki, .int .i64 o.ino, .int .u64 o.isq, .int .i64 o.iof, .int .i64 o.ot] #[.int .i64 x1, .int .u64 x2, .int .i64 x3, .int .i64 x4, .int .i64 x5, .int .i64 x6, .int .i64 x7, .int .i64 x8, .string x9] (by exact blk_alloc kb3 _) (by exact blk_alloc_new _ _ _ rfl) (by exact B3.alloc B3.size _) ?_
          intro u kb kx hu
          have nb := kn kb
          have nx := kn kx
          go_wp2_with (go_at_call 62; (with_reducible refine (GI9.out _ hu).mono ?_); rintro e w4 ⟨rfl, h4⟩; (have B4 := bt hu h4); clear nb nx; (have nb := kn (blk_below h4 kb)); (have nx := kn (blk_below h4 kx)))
          go_ret
          exact RetH.same B4 HDD.out
        · rw [if_neg (by rintro (h | h); exact hp h; exact hst h)] at hD
          have HNEW := Lib.hid hD
          have h16 : ((o.ki == 1) = true ∧ (x4 == node) = false) ∨ ((o.ki == 1) = false ∧ (o.ki == 6) = true) := by
            rcases h16 with h | h
            · exact .inl ⟨h, by simpa using fun h9 => hst ⟨HK1.out.1 h, h9⟩⟩
            · exact .inr h
          clear hD hp GI HK1 hst
          obtain ⟨i0, hi, hz0, hz1, hz2⟩ := info_parts infoId
          have Hi := Lib.hid hi; have Hz0 := Lib.hid hz0; have Hz1 := Lib.hid hz1; have Hz2 := Lib.hid hz2
          clear hi hz0 hz1 hz2
          have hun : undef = Value.tuple #[] := rfl
          rcases h16 with ⟨c1, c4⟩ | ⟨c1, c6⟩
          all_goals
            go_enter Tryz.func33, Tryz.ntmps33
            go_upto_region 7 with (go_at_call 59; (with_reducible refine (GF.out _ bal).mono ?_); rintro e w3 ⟨rfl, h3⟩; (have kb3 := blk_below h3 kbx); (have B3 : Below w.heap.size w w3 := bta h3))
            refine wp_fresh3 w.heap.size w3.heap.size #[.int .i64 o.ti, .int .i64 o.no, .int .i64 o.ki, .int .i64 o.ino, .int .u64 o.isq, .int .i64 o.iof, .int .i64 o.ot] #[.int .i64 x1, .int .u64 x2, .int .i64 x3, .int .i64 x4, .int .i64 x5, .int .i64 x6, .int .i64 x7, .int .i64 x8, .string x9] (by exact blk_alloc kb3 _) (by exact blk_alloc_new _ _ _ rfl) (by exact B3.alloc B3.size _) ?_
            intro u kb kx hu
            have nb := kn kb
            have nx := kn kx
            go_upto_region 9 with (go_at_call 62; (with_reducible refine (GI9.out _ hu).mono ?_); rintro e w4 ⟨rfl, h4⟩; (have HB4 := Lib.hid (bt hu h4)); clear nb nx; (have nb := kn (blk_below h4 kb)); (have nx := kn (blk_below h4 kx)))
            have KB := Lib.hid (blk_below h4 kb)
            have HS4 := Lib.hid (HS.out.below HB4.out)
            (try simp only [← hun])
            clear hun nb nx kb kx h4 hu kb3 h3 B3 c1
            rcases ah with _ | ad
            · have hch := HS4.out.2.2.1 rfl
              subst hch
              have hH : H = [] := List.length_eq_zero_iff.1 (by have := HS4.out.1; omega)
              have hH0 : H.length = 0 := by rw [hH]; rfl
              rw [hH0]
              have kb := KB.out
              refine wp_region_held_drew (S := fun W => ∀ o9, W.cell? ⟨w.heap.size, o9, none⟩ = (#[.int .i64 o.ti, .int .i64 o.no, .int .i64 o.ki, .int .i64 o.ino, .int .u64 o.isq, .int .i64 o.iof, .int .i64 o.ot] : Array Value)[o9]?) (by kernel_rfl) (fun o9 => blk_cell (blk_drew kb) o9) (fun hHeld => ?_)
              obtain ⟨d0, ed⟩ : ∃ v, v = w4.drew := ⟨_, rfl⟩
              have hd0 : Below w4.heap.size w4 d0 := (by rw [ed]; exact (Below.refl _ _).drew)
              have kb0 : blk d0 w.heap.size = some #[.int .i64 o.ti, .int .i64 o.no, .int .i64 o.ki, .int .i64 o.ino, .int .u64 o.isq, .int .i64 o.iof, .int .i64 o.ot] := (by rw [ed]; exact blk_drew kb)
              have bd0 : Below d0.heap.size d0 d0 := Below.refl _ _
              rw [← ed] at hHeld ⊢
              clear ed kb
              refine wpAnyH_take (i := 1) (oi := _) (v := ?_) rfl (by kernel_rfl) (by kernel_rfl) (by kernel_rfl) (fun _ _ _ h => h) (Or.inl ⟨by rfl, ?_⟩) (by assumption) ?_
              rotate_left
              focus (intro W hSw; (try dsimp only at hSw); go_simp; (try with_reducible rfl))
              (try simp only [Act.put, List.setIfInBounds_toArray, List.set_cons_zero, List.set_cons_succ, List.getElem_toArray, List.getElem_cons_succ, List.getElem_cons_zero])
              refine wpAnyH_take (i := 3) (oi := _) (v := ?_) rfl (by kernel_rfl) (by kernel_rfl) (by kernel_rfl) (fun _ _ _ h => h) (Or.inl ⟨by rfl, ?_⟩) (by assumption) ?_
              rotate_left
              focus (intro W hSw; (try dsimp only at hSw); go_simp; (try with_reducible rfl))
              (try simp only [Act.put, List.setIfInBounds_toArray, List.set_cons_zero, List.set_cons_succ, List.getElem_toArray, List.getElem_cons_succ, List.getElem_cons_zero])
              refine wpAnyH_take (i := 4) (oi := _) (v := ?_) rfl (by kernel_rfl) (by kernel_rfl) (by kernel_rfl) (fun _ _ _ h => h) (Or.inl ⟨by rfl, ?_⟩) (by assumption) ?_
              rotate_left
              focus (intro W hSw; (try dsimp only at hSw); go_simp; (try with_reducible rfl))
              (try simp only [Act.put, List.setIfInBounds_toArray, List.set_cons_zero, List.set_cons_succ, List.getElem_toArray, List.getElem_cons_succ, List.getElem_cons_zero])
              refine wpAnyH_ready (rs := [0, 5]) (by kernel_rfl) (by simp) ?_
              refine AllReadyH.cons rfl (fun K hK => ?_) ?_
              · skip
                go_simp
                obtain ⟨vA, evA⟩ : ∃ v, v = d0.alloc (.cells #[] 52) := ⟨_, rfl⟩
                obtain ⟨nA, enA⟩ : ∃ v, v = d0.heap.size := ⟨_, rfl⟩
                have hB9 : Below d0.heap.size d0 vA := (by rw [evA]; exact (Below.refl _ _).alloc (Nat.le_refl _) _)
                have lnA : d0.heap.size ≤ nA := (by rw [enA]; exact bd0.size)
                have bvA := bt bd0 hB9
                have ovA : vA.ownsRow d0.heap.size 52 3 (.slice (some ⟨nA, 0, none⟩) 0 0) 0 [] := (by rw [evA, enA]; exact owns_base (own_emptyId _ _) bd0.size)
                rw [← evA, ← enA]
                clear evA enA hB9
                refine hK.out _ _ (fun o9 => blk_cell (blk_below bvA kb0) o9) (fun _ => ?_)
                clear hK K
                (try simp only [Act.put, List.setIfInBounds_toArray, List.set_cons_zero, List.set_cons_succ, List.getElem_toArray, List.getElem_cons_succ, List.getElem_cons_zero])
                refine wpAnyH_ready (rs := [2, 5]) (by kernel_rfl) (by simp) ?_
                refine AllReadyH.cons rfl (fun K hK => ?_) ?_
                · skip
                  refine wp_append_noneI (.tmp 46) (.tmp 47) 76 rfl d0.heap.size 52 i0 3 Tryz.underlying76 Hi.out (.slice (some ⟨nA, 0, none⟩) 0 0) 0 [] rfl ovA rfl ?_
                  refine hK.out _ _ (fun o9 => blk_cell (blk_below bvA kb0) o9) (fun _ => ?_)
                  clear hK K
                  (try simp only [Act.put, List.setIfInBounds_toArray, List.set_cons_zero, List.set_cons_succ, List.getElem_toArray, List.getElem_cons_succ, List.getElem_cons_zero])
                  refine wpAnyH_ready (rs := [5]) (by kernel_rfl) (by simp) ?_
                  refine AllReadyH.cons rfl (fun K hK => ?_) AllReadyH.nil
                  go_simp
                  obtain ⟨vB, evB⟩ : ∃ v, v = vA.alloc (.cells #[.int .i64 o.ino, .int .u64 o.isq, .int .i64 o.iof] 52) := ⟨_, rfl⟩
                  obtain ⟨nB, enB⟩ : ∃ v, v = vA.heap.size := ⟨_, rfl⟩
                  have hB9 : Below vA.heap.size vA vB := (by rw [evB]; exact (Below.refl _ _).alloc (Nat.le_refl _) _)
                  have lnB : d0.heap.size ≤ nB := (by rw [enB]; exact bvA.size)
                  have bvB := bt bvA hB9
                  have zvB : blk vB nB = some #[.int .i64 o.ino, .int .u64 o.isq, .int .i64 o.iof] := (by rw [evB]; exact blk_alloc_new _ _ _ enB)
                  have ovB := owns_belowS ovA hB9
                  rw [← evB, ← enB]
                  clear evB enB hB9
                  refine hK.out _ _ (fun o9 => blk_cell (blk_below bvB kb0) o9) (fun _ => ?_)
                  clear hK K
                  (try simp only [Act.put, List.setIfInBounds_toArray, List.set_cons_zero, List.set_cons_succ, List.getElem_toArray, List.getElem_cons_succ, List.getElem_cons_zero])
                  refine wpAnyH_ready (rs := [6]) (by kernel_rfl) (by simp) ?_
                  refine AllReadyH.cons rfl (fun K hK => ?_) AllReadyH.nil
                  refine wp_append_own _ (.tmp 48) (.tmp 51) 76 rfl d0.heap.size 52 i0 (.agg #[.int .i64 0, .int .u64 0, .int .i64 0]) 3 24 Tryz.underlying76 Hi.out Hz0.out Hz1.out Hz2.out rfl (by decide) (.slice (some ⟨nA, 0, none⟩) 0 0) 0 [] rfl ovB ⟨nB, 0, none⟩ 1 1 (idL (oid o)) rfl rfl (fun j u hj => (by rw [Addr.add_mid, Nat.zero_add, blk_cell zvB]; have h9 : (#[.int .i64 o.ino, .int .u64 o.isq, .int .i64 o.iof] : Array Value)[j]? = some u := (by simpa [idL, oid] using hj); exact h9)) (idL_one _) (by have := HHL.out; unfold maxLen; omega) (by have := HHL.out; omega) bvB.size ?_
                  intro vQ VQ ho9 hg9 _
                  have bVQ : Below d0.heap.size d0 VQ := bvB.grown hg9 bvB.size (fun k e => (ovB.lt k e).1)
                  have oVQ : VQ.ownsRow d0.heap.size 52 3 vQ (H ++ [oid o]).length (rowC idL (H ++ [oid o])) := (by rw [rowC_append, rowC_one, List.length_append, List.length_singleton]; rw [hH]; simpa [rowC] using ho9)
                  clear ho9 hg9
                  refine hK.out _ _ (fun o9 => blk_cell (blk_below bVQ kb0) o9) (fun _ => ?_)
                  clear hK K
                  (try simp only [Act.put, List.setIfInBounds_toArray, List.set_cons_zero, List.set_cons_succ, List.getElem_toArray, List.getElem_cons_succ, List.getElem_cons_zero])
                  refine wpAnyH_take (i := 7) (oi := _) (v := ?_) rfl (by kernel_rfl) (by kernel_rfl) (by kernel_rfl) (fun _ _ _ h => h) (Or.inl ⟨by rfl, ?_⟩) (by assumption) ?_
                  rotate_left
                  focus (intro W hSw; (try dsimp only at hSw); go_simp; (try with_reducible rfl))
                  (try simp only [Act.put, List.setIfInBounds_toArray, List.set_cons_zero, List.set_cons_succ, List.getElem_toArray, List.getElem_cons_succ, List.getElem_cons_zero])
                  refine wpAnyH_done (by kernel_rfl) ?_ _
                  have HQ := Lib.hid (And.intro oVQ (bt hd0 bVQ))
                  go_wp2
                  go_ret
                  exact RetH.own HQ.out.1 (Nat.le_trans HB4.out.size hd0.size) (bt HB4.out HQ.out.2) HNEW.out
                refine AllReadyH.cons rfl (fun K hK => ?_) AllReadyH.nil
                go_simp
                obtain ⟨vB, evB⟩ : ∃ v, v = vA.alloc (.cells #[.int .i64 o.ino, .int .u64 o.isq, .int .i64 o.iof] 52) := ⟨_, rfl⟩
                obtain ⟨nB, enB⟩ : ∃ v, v = vA.heap.size := ⟨_, rfl⟩
                have hB9 : Below vA.heap.size vA vB := (by rw [evB]; exact (Below.refl _ _).alloc (Nat.le_refl _) _)
                have lnB : d0.heap.size ≤ nB := (by rw [enB]; exact bvA.size)
                have bvB := bt bvA hB9
                have zvB : blk vB nB = some #[.int .i64 o.ino, .int .u64 o.isq, .int .i64 o.iof] := (by rw [evB]; exact blk_alloc_new _ _ _ enB)
                have ovB := owns_belowS ovA hB9
                have hnz : nA ≠ nB := (by have := (ovA.lt nA rfl).2; omega)
                rw [← evB, ← enB]
                clear evB enB hB9
                refine hK.out _ _ (fun o9 => blk_cell (blk_below bvB kb0) o9) (fun _ => ?_)
                clear hK K
                (try simp only [Act.put, List.setIfInBounds_toArray, List.set_cons_zero, List.set_cons_succ, List.getElem_toArray, List.getElem_cons_succ, List.getElem_cons_zero])
                refine wpAnyH_ready (rs := [2]) (by kernel_rfl) (by simp) ?_
                refine AllReadyH.cons rfl (fun K hK => ?_) AllReadyH.nil
                refine wp_append_noneI (.tmp 46) (.tmp 47) 76 rfl d0.heap.size 52 i0 3 Tryz.underlying76 Hi.out (.slice (some ⟨nA, 0, none⟩) 0 0) 0 [] rfl ovB rfl ?_
                refine hK.out _ _ (fun o9 => blk_cell (blk_below bvB kb0) o9) (fun _ => ?_)
                clear hK K
                (try simp only [Act.put, List.setIfInBounds_toArray, List.set_cons_zero, List.set_cons_succ, List.getElem_toArray, List.getElem_cons_succ, List.getElem_cons_zero])
                refine wpAnyH_ready (rs := [6]) (by kernel_rfl) (by simp) ?_
                refine AllReadyH.cons rfl (fun K hK => ?_) AllReadyH.nil
                refine wp_append_own _ (.tmp 48) (.tmp 51) 76 rfl d0.heap.size 52 i0 (.agg #[.int .i64 0, .int .u64 0, .int .i64 0]) 3 24 Tryz.underlying76 Hi.out Hz0.out Hz1.out Hz2.out rfl (by decide) (.slice (some ⟨nA, 0, none⟩) 0 0) 0 [] rfl ovB ⟨nB, 0, none⟩ 1 1 (idL (oid o)) rfl rfl (fun j u hj => (by rw [Addr.add_mid, Nat.zero_add, blk_cell zvB]; have h9 : (#[.int .i64 o.ino, .int .u64 o.isq, .int .i64 o.iof] : Array Value)[j]? = some u := (by simpa [idL, oid] using hj); exact h9)) (idL_one _) (by have := HHL.out; unfold maxLen; omega) (by have := HHL.out; omega) bvB.size ?_
                intro vQ VQ ho9 hg9 _
                have bVQ : Below d0.heap.size d0 VQ := bvB.grown hg9 bvB.size (fun k e => (ovB.lt k e).1)
                have oVQ : VQ.ownsRow d0.heap.size 52 3 vQ (H ++ [oid o]).length (rowC idL (H ++ [oid o])) := (by rw [rowC_append, rowC_one, List.length_append, List.length_singleton]; rw [hH]; simpa [rowC] using ho9)
                clear ho9 hg9
                refine hK.out _ _ (fun o9 => blk_cell (blk_below bVQ kb0) o9) (fun _ => ?_)
                clear hK K
                (try simp only [Act.put, List.setIfInBounds_toArray, List.set_cons_zero, List.set_cons_succ, List.getElem_toArray, List.getElem_cons_succ, List.getElem_cons_zero])
                refine wpAnyH_take (i := 7) (oi := _) (v := ?_) rfl (by kernel_rfl) (by kernel_rfl) (by kernel_rfl) (fun _ _ _ h => h) (Or.inl ⟨by rfl, ?_⟩) (by assumption) ?_
                rotate_left
                focus (intro W hSw; (try dsimp only at hSw); go_simp; (try with_reducible rfl))
                (try simp only [Act.put, List.setIfInBounds_toArray, List.set_cons_zero, List.set_cons_succ, List.getElem_toArray, List.getElem_cons_succ, List.getElem_cons_zero])
                refine wpAnyH_done (by kernel_rfl) ?_ _
                have HQ := Lib.hid (And.intro oVQ (bt hd0 bVQ))
                go_wp2
                go_ret
                exact RetH.own HQ.out.1 (Nat.le_trans HB4.out.size hd0.size) (bt HB4.out HQ.out.2) HNEW.out
              refine AllReadyH.cons rfl (fun K hK => ?_) AllReadyH.nil
              go_simp
              obtain ⟨vB, evB⟩ : ∃ v, v = d0.alloc (.cells #[.int .i64 o.ino, .int .u64 o.isq, .int .i64 o.iof] 52) := ⟨_, rfl⟩
              obtain ⟨nB, enB⟩ : ∃ v, v = d0.heap.size := ⟨_, rfl⟩
              have hB9 : Below d0.heap.size d0 vB := (by rw [evB]; exact (Below.refl _ _).alloc (Nat.le_refl _) _)
              have lnB : d0.heap.size ≤ nB := (by rw [enB]; exact bd0.size)
              have bvB := bt bd0 hB9
              have zvB : blk vB nB = some #[.int .i64 o.ino, .int .u64 o.isq, .int .i64 o.iof] := (by rw [evB]; exact blk_alloc_new _ _ _ enB)
              rw [← evB, ← enB]
              clear evB enB hB9
              refine hK.out _ _ (fun o9 => blk_cell (blk_below bvB kb0) o9) (fun _ => ?_)
              clear hK K
              (try simp only [Act.put, List.setIfInBounds_toArray, List.set_cons_zero, List.set_cons_succ, List.getElem_toArray, List.getElem_cons_succ, List.getElem_cons_zero])
              refine wpAnyH_ready (rs := [0]) (by kernel_rfl) (by simp) ?_
              refine AllReadyH.cons rfl (fun K hK => ?_) AllReadyH.nil
              go_simp
              obtain ⟨vA, evA⟩ : ∃ v, v = vB.alloc (.cells #[] 52) := ⟨_, rfl⟩
              obtain ⟨nA, enA⟩ : ∃ v, v = vB.heap.size := ⟨_, rfl⟩
              have hB9 : Below vB.heap.size vB vA := (by rw [evA]; exact (Below.refl _ _).alloc (Nat.le_refl _) _)
              have lnA : d0.heap.size ≤ nA := (by rw [enA]; exact bvB.size)
              have bvA := bt bvB hB9
              have ovA : vA.ownsRow d0.heap.size 52 3 (.slice (some ⟨nA, 0, none⟩) 0 0) 0 [] := (by rw [evA, enA]; exact owns_base (own_emptyId _ _) bvB.size)
              have zvA := blk_below hB9 zvB
              have hnz : nA ≠ nB := (by have := blk_lt zvB; omega)
              rw [← evA, ← enA]
              clear evA enA hB9
              refine hK.out _ _ (fun o9 => blk_cell (blk_below bvA kb0) o9) (fun _ => ?_)
              clear hK K
              (try simp only [Act.put, List.setIfInBounds_toArray, List.set_cons_zero, List.set_cons_succ, List.getElem_toArray, List.getElem_cons_succ, List.getElem_cons_zero])
              refine wpAnyH_ready (rs := [2]) (by kernel_rfl) (by simp) ?_
              refine AllReadyH.cons rfl (fun K hK => ?_) AllReadyH.nil
              refine wp_append_noneI (.tmp 46) (.tmp 47) 76 rfl d0.heap.size 52 i0 3 Tryz.underlying76 Hi.out (.slice (some ⟨nA, 0, none⟩) 0 0) 0 [] rfl ovA rfl ?_
              refine hK.out _ _ (fun o9 => blk_cell (blk_below bvA kb0) o9) (fun _ => ?_)
              clear hK K
              (try simp only [Act.put, List.setIfInBounds_toArray, List.set_cons_zero, List.set_cons_succ, List.getElem_toArray, List.getElem_cons_succ, List.getElem_cons_zero])
              refine wpAnyH_ready (rs := [6]) (by kernel_rfl) (by simp) ?_
              refine AllReadyH.cons rfl (fun K hK => ?_) AllReadyH.nil
              refine wp_append_own _ (.tmp 48) (.tmp 51) 76 rfl d0.heap.size 52 i0 (.agg #[.int .i64 0, .int .u64 0, .int .i64 0]) 3 24 Tryz.underlying76 Hi.out Hz0.out Hz1.out Hz2.out rfl (by decide) (.slice (some ⟨nA, 0, none⟩) 0 0) 0 [] rfl ovA ⟨nB, 0, none⟩ 1 1 (idL (oid o)) rfl rfl (fun j u hj => (by rw [Addr.add_mid, Nat.zero_add, blk_cell zvA]; have h9 : (#[.int .i64 o.ino, .int .u64 o.isq, .int .i64 o.iof] : Array Value)[j]? = some u := (by simpa [idL, oid] using hj); exact h9)) (idL_one _) (by have := HHL.out; unfold maxLen; omega) (by have := HHL.out; omega) bvA.size ?_
              intro vQ VQ ho9 hg9 _
              have bVQ : Below d0.heap.size d0 VQ := bvA.grown hg9 bvA.size (fun k e => (ovA.lt k e).1)
              have oVQ : VQ.ownsRow d0.heap.size 52 3 vQ (H ++ [oid o]).length (rowC idL (H ++ [oid o])) := (by rw [rowC_append, rowC_one, List.length_append, List.length_singleton]; rw [hH]; simpa [rowC] using ho9)
              clear ho9 hg9
              refine hK.out _ _ (fun o9 => blk_cell (blk_below bVQ kb0) o9) (fun _ => ?_)
              clear hK K
              (try simp only [Act.put, List.setIfInBounds_toArray, List.set_cons_zero, List.set_cons_succ, List.getElem_toArray, List.getElem_cons_succ, List.getElem_cons_zero])
              refine wpAnyH_take (i := 7) (oi := _) (v := ?_) rfl (by kernel_rfl) (by kernel_rfl) (by kernel_rfl) (fun _ _ _ h => h) (Or.inl ⟨by rfl, ?_⟩) (by assumption) ?_
              rotate_left
              focus (intro W hSw; (try dsimp only at hSw); go_simp; (try with_reducible rfl))
              (try simp only [Act.put, List.setIfInBounds_toArray, List.set_cons_zero, List.set_cons_succ, List.getElem_toArray, List.getElem_cons_succ, List.getElem_cons_zero])
              refine wpAnyH_done (by kernel_rfl) ?_ _
              have HQ := Lib.hid (And.intro oVQ (bt hd0 bVQ))
              go_wp2
              go_ret
              exact RetH.own HQ.out.1 (Nat.le_trans HB4.out.size hd0.size) (bt HB4.out HQ.out.2) HNEW.out
            · have hcap0 := HS4.out.1
              have hmax0 := HS4.out.2.1
              unfold maxLen at hmax0
              by_cases h0 : H.length = 0
              · have hH : H = [] := List.length_eq_zero_iff.1 h0
                have HHH := Lib.hid hH
                clear h0 hH
                have kb := KB.out
                refine wp_region_held_drew (S := fun W => ∀ o9, W.cell? ⟨w.heap.size, o9, none⟩ = (#[.int .i64 o.ti, .int .i64 o.no, .int .i64 o.ki, .int .i64 o.ino, .int .u64 o.isq, .int .i64 o.iof, .int .i64 o.ot] : Array Value)[o9]?) (by kernel_rfl) (fun o9 => blk_cell (blk_drew kb) o9) (fun hHeld => ?_)
                obtain ⟨d0, ed⟩ : ∃ v, v = w4.drew := ⟨_, rfl⟩
                have hd0 : Below w4.heap.size w4 d0 := (by rw [ed]; exact (Below.refl _ _).drew)
                have kb0 : blk d0 w.heap.size = some #[.int .i64 o.ti, .int .i64 o.no, .int .i64 o.ki, .int .i64 o.ino, .int .u64 o.isq, .int .i64 o.iof, .int .i64 o.ot] := (by rw [ed]; exact blk_drew kb)
                have bd0 : Below d0.heap.size d0 d0 := Below.refl _ _
                rw [← ed] at hHeld ⊢
                clear ed kb
                refine wpAnyH_take (i := 1) (oi := _) (v := ?_) rfl (by kernel_rfl) (by kernel_rfl) (by kernel_rfl) (fun _ _ _ h => h) (Or.inl ⟨by rfl, ?_⟩) (by assumption) ?_
                rotate_left
                focus (intro W hSw; (try dsimp only at hSw); go_simp; (try with_reducible rfl))
                (try simp only [Act.put, List.setIfInBounds_toArray, List.set_cons_zero, List.set_cons_succ, List.getElem_toArray, List.getElem_cons_succ, List.getElem_cons_zero])
                refine wpAnyH_take (i := 3) (oi := _) (v := ?_) rfl (by kernel_rfl) (by kernel_rfl) (by kernel_rfl) (fun _ _ _ h => h) (Or.inl ⟨by rfl, ?_⟩) (by assumption) ?_
                rotate_left
                focus (intro W hSw; (try dsimp only at hSw); go_simp; (try with_reducible rfl))
                (try simp only [Act.put, List.setIfInBounds_toArray, List.set_cons_zero, List.set_cons_succ, List.getElem_toArray, List.getElem_cons_succ, List.getElem_cons_zero])
                refine wpAnyH_take (i := 4) (oi := _) (v := ?_) rfl (by kernel_rfl) (by kernel_rfl) (by kernel_rfl) (fun _ _ _ h => h) (Or.inl ⟨by rfl, ?_⟩) (by assumption) ?_
                rotate_left
                focus (intro W hSw; (try dsimp only at hSw); go_simp; (try with_reducible rfl))
                (try simp only [Act.put, List.setIfInBounds_toArray, List.set_cons_zero, List.set_cons_succ, List.getElem_toArray, List.getElem_cons_succ, List.getElem_cons_zero])
                refine wpAnyH_ready (rs := [0, 5]) (by kernel_rfl) (by simp) ?_
                refine AllReadyH.cons rfl (fun K hK => ?_) ?_
                · skip
                  go_simp
                  obtain ⟨vA, evA⟩ : ∃ v, v = d0.alloc (.cells #[] 52) := ⟨_, rfl⟩
                  obtain ⟨nA, enA⟩ : ∃ v, v = d0.heap.size := ⟨_, rfl⟩
                  have hB9 : Below d0.heap.size d0 vA := (by rw [evA]; exact (Below.refl _ _).alloc (Nat.le_refl _) _)
                  have lnA : d0.heap.size ≤ nA := (by rw [enA]; exact bd0.size)
                  have bvA := bt bd0 hB9
                  have ovA : vA.ownsRow d0.heap.size 52 3 (.slice (some ⟨nA, 0, none⟩) 0 0) 0 [] := (by rw [evA, enA]; exact owns_base (own_emptyId _ _) bd0.size)
                  rw [← evA, ← enA]
                  clear evA enA hB9
                  refine hK.out _ _ (fun o9 => blk_cell (blk_below bvA kb0) o9) (fun _ => ?_)
                  clear hK K
                  (try simp only [Act.put, List.setIfInBounds_toArray, List.set_cons_zero, List.set_cons_succ, List.getElem_toArray, List.getElem_cons_succ, List.getElem_cons_zero])
                  refine wpAnyH_ready (rs := [2, 5]) (by kernel_rfl) (by simp) ?_
                  refine AllReadyH.cons rfl (fun K hK => ?_) ?_
                  · skip
                    refine wp_append_own _ (.tmp 46) (.tmp 47) 76 rfl d0.heap.size 52 i0 (.agg #[.int .i64 0, .int .u64 0, .int .i64 0]) 3 24 Tryz.underlying76 Hi.out Hz0.out Hz1.out Hz2.out rfl (by decide) (.slice (some ⟨nA, 0, none⟩) 0 0) 0 [] rfl ovA ad H.length ch (rowC idL H) rfl (rowC_length idL_len _) (fun j u hj => by rw [HHH.out] at hj; simp [rowC] at hj) (rowId_one _) (by have := HHL.out; unfold maxLen; omega) (by have := HHL.out; omega) bvA.size ?_
                    intro vP VP ho9 hg9 _
                    have bVP : Below d0.heap.size d0 VP := bvA.grown hg9 bvA.size (fun k e => (ovA.lt k e).1)
                    have oVP : VP.ownsRow d0.heap.size 52 3 vP H.length (rowC idL H) := (by rw [Nat.zero_add, List.nil_append] at ho9; exact ho9)
                    clear ho9 hg9
                    refine hK.out _ _ (fun o9 => blk_cell (blk_below bVP kb0) o9) (fun _ => ?_)
                    clear hK K
                    (try simp only [Act.put, List.setIfInBounds_toArray, List.set_cons_zero, List.set_cons_succ, List.getElem_toArray, List.getElem_cons_succ, List.getElem_cons_zero])
                    refine wpAnyH_ready (rs := [5]) (by kernel_rfl) (by simp) ?_
                    refine AllReadyH.cons rfl (fun K hK => ?_) AllReadyH.nil
                    go_simp
                    obtain ⟨vB, evB⟩ : ∃ v, v = VP.alloc (.cells #[.int .i64 o.ino, .int .u64 o.isq, .int .i64 o.iof] 52) := ⟨_, rfl⟩
                    obtain ⟨nB, enB⟩ : ∃ v, v = VP.heap.size := ⟨_, rfl⟩
                    have hB9 : Below VP.heap.size VP vB := (by rw [evB]; exact (Below.refl _ _).alloc (Nat.le_refl _) _)
                    have lnB : d0.heap.size ≤ nB := (by rw [enB]; exact bVP.size)
                    have bvB := bt bVP hB9
                    have zvB : blk vB nB = some #[.int .i64 o.ino, .int .u64 o.isq, .int .i64 o.iof] := (by rw [evB]; exact blk_alloc_new _ _ _ enB)
                    have ovB := owns_belowS oVP hB9
                    rw [← evB, ← enB]
                    clear evB enB hB9
                    refine hK.out _ _ (fun o9 => blk_cell (blk_below bvB kb0) o9) (fun _ => ?_)
                    clear hK K
                    (try simp only [Act.put, List.setIfInBounds_toArray, List.set_cons_zero, List.set_cons_succ, List.getElem_toArray, List.getElem_cons_succ, List.getElem_cons_zero])
                    refine wpAnyH_ready (rs := [6]) (by kernel_rfl) (by simp) ?_
                    refine AllReadyH.cons rfl (fun K hK => ?_) AllReadyH.nil
                    refine wp_append_own _ (.tmp 48) (.tmp 51) 76 rfl d0.heap.size 52 i0 (.agg #[.int .i64 0, .int .u64 0, .int .i64 0]) 3 24 Tryz.underlying76 Hi.out Hz0.out Hz1.out Hz2.out rfl (by decide) vP H.length (rowC idL H) rfl ovB ⟨nB, 0, none⟩ 1 1 (idL (oid o)) rfl rfl (fun j u hj => (by rw [Addr.add_mid, Nat.zero_add, blk_cell zvB]; have h9 : (#[.int .i64 o.ino, .int .u64 o.isq, .int .i64 o.iof] : Array Value)[j]? = some u := (by simpa [idL, oid] using hj); exact h9)) (idL_one _) (by have := HHL.out; unfold maxLen; omega) (by have := HHL.out; omega) bvB.size ?_
                    intro vQ VQ ho9 hg9 _
                    have bVQ : Below d0.heap.size d0 VQ := bvB.grown hg9 bvB.size (fun k e => (ovB.lt k e).1)
                    have oVQ : VQ.ownsRow d0.heap.size 52 3 vQ (H ++ [oid o]).length (rowC idL (H ++ [oid o])) := (by rw [rowC_append, rowC_one, List.length_append, List.length_singleton]; exact ho9)
                    clear ho9 hg9
                    refine hK.out _ _ (fun o9 => blk_cell (blk_below bVQ kb0) o9) (fun _ => ?_)
                    clear hK K
                    (try simp only [Act.put, List.setIfInBounds_toArray, List.set_cons_zero, List.set_cons_succ, List.getElem_toArray, List.getElem_cons_succ, List.getElem_cons_zero])
                    refine wpAnyH_take (i := 7) (oi := _) (v := ?_) rfl (by kernel_rfl) (by kernel_rfl) (by kernel_rfl) (fun _ _ _ h => h) (Or.inl ⟨by rfl, ?_⟩) (by assumption) ?_
                    rotate_left
                    focus (intro W hSw; (try dsimp only at hSw); go_simp; (try with_reducible rfl))
                    (try simp only [Act.put, List.setIfInBounds_toArray, List.set_cons_zero, List.set_cons_succ, List.getElem_toArray, List.getElem_cons_succ, List.getElem_cons_zero])
                    refine wpAnyH_done (by kernel_rfl) ?_ _
                    have HQ := Lib.hid (And.intro oVQ (bt hd0 bVQ))
                    go_wp2
                    go_ret
                    exact RetH.own HQ.out.1 (Nat.le_trans HB4.out.size hd0.size) (bt HB4.out HQ.out.2) HNEW.out
                  refine AllReadyH.cons rfl (fun K hK => ?_) AllReadyH.nil
                  go_simp
                  obtain ⟨vB, evB⟩ : ∃ v, v = vA.alloc (.cells #[.int .i64 o.ino, .int .u64 o.isq, .int .i64 o.iof] 52) := ⟨_, rfl⟩
                  obtain ⟨nB, enB⟩ : ∃ v, v = vA.heap.size := ⟨_, rfl⟩
                  have hB9 : Below vA.heap.size vA vB := (by rw [evB]; exact (Below.refl _ _).alloc (Nat.le_refl _) _)
                  have lnB : d0.heap.size ≤ nB := (by rw [enB]; exact bvA.size)
                  have bvB := bt bvA hB9
                  have zvB : blk vB nB = some #[.int .i64 o.ino, .int .u64 o.isq, .int .i64 o.iof] := (by rw [evB]; exact blk_alloc_new _ _ _ enB)
                  have ovB := owns_belowS ovA hB9
                  have hnz : nA ≠ nB := (by have := (ovA.lt nA rfl).2; omega)
                  rw [← evB, ← enB]
                  clear evB enB hB9
                  refine hK.out _ _ (fun o9 => blk_cell (blk_below bvB kb0) o9) (fun _ => ?_)
                  clear hK K
                  (try simp only [Act.put, List.setIfInBounds_toArray, List.set_cons_zero, List.set_cons_succ, List.getElem_toArray, List.getElem_cons_succ, List.getElem_cons_zero])
                  refine wpAnyH_ready (rs := [2]) (by kernel_rfl) (by simp) ?_
                  refine AllReadyH.cons rfl (fun K hK => ?_) AllReadyH.nil
                  refine wp_append_own _ (.tmp 46) (.tmp 47) 76 rfl d0.heap.size 52 i0 (.agg #[.int .i64 0, .int .u64 0, .int .i64 0]) 3 24 Tryz.underlying76 Hi.out Hz0.out Hz1.out Hz2.out rfl (by decide) (.slice (some ⟨nA, 0, none⟩) 0 0) 0 [] rfl ovB ad H.length ch (rowC idL H) rfl (rowC_length idL_len _) (fun j u hj => by rw [HHH.out] at hj; simp [rowC] at hj) (rowId_one _) (by have := HHL.out; unfold maxLen; omega) (by have := HHL.out; omega) bvB.size ?_
                  intro vP VP ho9 hg9 _
                  have bVP : Below d0.heap.size d0 VP := bvB.grown hg9 bvB.size (fun k e => (ovB.lt k e).1)
                  have oVP : VP.ownsRow d0.heap.size 52 3 vP H.length (rowC idL H) := (by rw [Nat.zero_add, List.nil_append] at ho9; exact ho9)
                  have zVP : blk VP nB = some #[.int .i64 o.ino, .int .u64 o.isq, .int .i64 o.iof] := (blk_kept (hg9.block nB (blk_lt zvB) (fun e => hnz (Option.some.inj e).symm))).trans zvB
                  clear ho9 hg9
                  refine hK.out _ _ (fun o9 => blk_cell (blk_below bVP kb0) o9) (fun _ => ?_)
                  clear hK K
                  (try simp only [Act.put, List.setIfInBounds_toArray, List.set_cons_zero, List.set_cons_succ, List.getElem_toArray, List.getElem_cons_succ, List.getElem_cons_zero])
                  refine wpAnyH_ready (rs := [6]) (by kernel_rfl) (by simp) ?_
                  refine AllReadyH.cons rfl (fun K hK => ?_) AllReadyH.nil
                  refine wp_append_own _ (.tmp 48) (.tmp 51) 76 rfl d0.heap.size 52 i0 (.agg #[.int .i64 0, .int .u64 0, .int .i64 0]) 3 24 Tryz.underlying76 Hi.out Hz0.out Hz1.out Hz2.out rfl (by decide) vP H.length (rowC idL H) rfl oVP ⟨nB, 0, none⟩ 1 1 (idL (oid o)) rfl rfl (fun j u hj => (by rw [Addr.add_mid, Nat.zero_add, blk_cell zVP]; have h9 : (#[.int .i64 o.ino, .int .u64 o.isq, .int .i64 o.iof] : Array Value)[j]? = some u := (by simpa [idL, oid] using hj); exact h9)) (idL_one _) (by have := HHL.out; unfold maxLen; omega) (by have := HHL.out; omega) bVP.size ?_
                  intro vQ VQ ho9 hg9 _
                  have bVQ : Below d0.heap.size d0 VQ := bVP.grown hg9 bVP.size (fun k e => (oVP.lt k e).1)
                  have oVQ : VQ.ownsRow d0.heap.size 52 3 vQ (H ++ [oid o]).length (rowC idL (H ++ [oid o])) := (by rw [rowC_append, rowC_one, List.length_append, List.length_singleton]; exact ho9)
                  clear ho9 hg9
                  refine hK.out _ _ (fun o9 => blk_cell (blk_below bVQ kb0) o9) (fun _ => ?_)
                  clear hK K
                  (try simp only [Act.put, List.setIfInBounds_toArray, List.set_cons_zero, List.set_cons_succ, List.getElem_toArray, List.getElem_cons_succ, List.getElem_cons_zero])
                  refine wpAnyH_take (i := 7) (oi := _) (v := ?_) rfl (by kernel_rfl) (by kernel_rfl) (by kernel_rfl) (fun _ _ _ h => h) (Or.inl ⟨by rfl, ?_⟩) (by assumption) ?_
                  rotate_left
                  focus (intro W hSw; (try dsimp only at hSw); go_simp; (try with_reducible rfl))
                  (try simp only [Act.put, List.setIfInBounds_toArray, List.set_cons_zero, List.set_cons_succ, List.getElem_toArray, List.getElem_cons_succ, List.getElem_cons_zero])
                  refine wpAnyH_done (by kernel_rfl) ?_ _
                  have HQ := Lib.hid (And.intro oVQ (bt hd0 bVQ))
                  go_wp2
                  go_ret
                  exact RetH.own HQ.out.1 (Nat.le_trans HB4.out.size hd0.size) (bt HB4.out HQ.out.2) HNEW.out
                refine AllReadyH.cons rfl (fun K hK => ?_) AllReadyH.nil
                go_simp
                obtain ⟨vB, evB⟩ : ∃ v, v = d0.alloc (.cells #[.int .i64 o.ino, .int .u64 o.isq, .int .i64 o.iof] 52) := ⟨_, rfl⟩
                obtain ⟨nB, enB⟩ : ∃ v, v = d0.heap.size := ⟨_, rfl⟩
                have hB9 : Below d0.heap.size d0 vB := (by rw [evB]; exact (Below.refl _ _).alloc (Nat.le_refl _) _)
                have lnB : d0.heap.size ≤ nB := (by rw [enB]; exact bd0.size)
                have bvB := bt bd0 hB9
                have zvB : blk vB nB = some #[.int .i64 o.ino, .int .u64 o.isq, .int .i64 o.iof] := (by rw [evB]; exact blk_alloc_new _ _ _ enB)
                rw [← evB, ← enB]
                clear evB enB hB9
                refine hK.out _ _ (fun o9 => blk_cell (blk_below bvB kb0) o9) (fun _ => ?_)
                clear hK K
                (try simp only [Act.put, List.setIfInBounds_toArray, List.set_cons_zero, List.set_cons_succ, List.getElem_toArray, List.getElem_cons_succ, List.getElem_cons_zero])
                refine wpAnyH_ready (rs := [0]) (by kernel_rfl) (by simp) ?_
                refine AllReadyH.cons rfl (fun K hK => ?_) AllReadyH.nil
                go_simp
                obtain ⟨vA, evA⟩ : ∃ v, v = vB.alloc (.cells #[] 52) := ⟨_, rfl⟩
                obtain ⟨nA, enA⟩ : ∃ v, v = vB.heap.size := ⟨_, rfl⟩
                have hB9 : Below vB.heap.size vB vA := (by rw [evA]; exact (Below.refl _ _).alloc (Nat.le_refl _) _)
                have lnA : d0.heap.size ≤ nA := (by rw [enA]; exact bvB.size)
                have bvA := bt bvB hB9
                have ovA : vA.ownsRow d0.heap.size 52 3 (.slice (some ⟨nA, 0, none⟩) 0 0) 0 [] := (by rw [evA, enA]; exact owns_base (own_emptyId _ _) bvB.size)
                have zvA := blk_below hB9 zvB
                have hnz : nA ≠ nB := (by have := blk_lt zvB; omega)
                rw [← evA, ← enA]
                clear evA enA hB9
                refine hK.out _ _ (fun o9 => blk_cell (blk_below bvA kb0) o9) (fun _ => ?_)
                clear hK K
                (try simp only [Act.put, List.setIfInBounds_toArray, List.set_cons_zero, List.set_cons_succ, List.getElem_toArray, List.getElem_cons_succ, List.getElem_cons_zero])
                refine wpAnyH_ready (rs := [2]) (by kernel_rfl) (by simp) ?_
                refine AllReadyH.cons rfl (fun K hK => ?_) AllReadyH.nil
                refine wp_append_own _ (.tmp 46) (.tmp 47) 76 rfl d0.heap.size 52 i0 (.agg #[.int .i64 0, .int .u64 0, .int .i64 0]) 3 24 Tryz.underlying76 Hi.out Hz0.out Hz1.out Hz2.out rfl (by decide) (.slice (some ⟨nA, 0, none⟩) 0 0) 0 [] rfl ovA ad H.length ch (rowC idL H) rfl (rowC_length idL_len _) (fun j u hj => by rw [HHH.out] at hj; simp [rowC] at hj) (rowId_one _) (by have := HHL.out; unfold maxLen; omega) (by have := HHL.out; omega) bvA.size ?_
                intro vP VP ho9 hg9 _
                have bVP : Below d0.heap.size d0 VP := bvA.grown hg9 bvA.size (fun k e => (ovA.lt k e).1)
                have oVP : VP.ownsRow d0.heap.size 52 3 vP H.length (rowC idL H) := (by rw [Nat.zero_add, List.nil_append] at ho9; exact ho9)
                have zVP : blk VP nB = some #[.int .i64 o.ino, .int .u64 o.isq, .int .i64 o.iof] := (blk_kept (hg9.block nB (blk_lt zvA) (fun e => hnz (Option.some.inj e).symm))).trans zvA
                clear ho9 hg9
                refine hK.out _ _ (fun o9 => blk_cell (blk_below bVP kb0) o9) (fun _ => ?_)
                clear hK K
                (try simp only [Act.put, List.setIfInBounds_toArray, List.set_cons_zero, List.set_cons_succ, List.getElem_toArray, List.getElem_cons_succ, List.getElem_cons_zero])
                refine wpAnyH_ready (rs := [6]) (by kernel_rfl) (by simp) ?_
                refine AllReadyH.cons rfl (fun K hK => ?_) AllReadyH.nil
                refine wp_append_own _ (.tmp 48) (.tmp 51) 76 rfl d0.heap.size 52 i0 (.agg #[.int .i64 0, .int .u64 0, .int .i64 0]) 3 24 Tryz.underlying76 Hi.out Hz0.out Hz1.out Hz2.out rfl (by decide) vP H.length (rowC idL H) rfl oVP ⟨nB, 0, none⟩ 1 1 (idL (oid o)) rfl rfl (fun j u hj => (by rw [Addr.add_mid, Nat.zero_add, blk_cell zVP]; have h9 : (#[.int .i64 o.ino, .int .u64 o.isq, .int .i64 o.iof] : Array Value)[j]? = some u := (by simpa [idL, oid] using hj); exact h9)) (idL_one _) (by have := HHL.out; unfold maxLen; omega) (by have := HHL.out; omega) bVP.size ?_
                intro vQ VQ ho9 hg9 _
                have bVQ : Below d0.heap.size d0 VQ := bVP.grown hg9 bVP.size (fun k e => (oVP.lt k e).1)
                have oVQ : VQ.ownsRow d0.heap.size 52 3 vQ (H ++ [oid o]).length (rowC idL (H ++ [oid o])) := (by rw [rowC_append, rowC_one, List.length_append, List.length_singleton]; exact ho9)
                clear ho9 hg9
                refine hK.out _ _ (fun o9 => blk_cell (blk_below bVQ kb0) o9) (fun _ => ?_)
                clear hK K
                (try simp only [Act.put, List.setIfInBounds_toArray, List.set_cons_zero, List.set_cons_succ, List.getElem_toArray, List.getElem_cons_succ, List.getElem_cons_zero])
                refine wpAnyH_take (i := 7) (oi := _) (v := ?_) rfl (by kernel_rfl) (by kernel_rfl) (by kernel_rfl) (fun _ _ _ h => h) (Or.inl ⟨by rfl, ?_⟩) (by assumption) ?_
                rotate_left
                focus (intro W hSw; (try dsimp only at hSw); go_simp; (try with_reducible rfl))
                (try simp only [Act.put, List.setIfInBounds_toArray, List.set_cons_zero, List.set_cons_succ, List.getElem_toArray, List.getElem_cons_succ, List.getElem_cons_zero])
                refine wpAnyH_done (by kernel_rfl) ?_ _
                have HQ := Lib.hid (And.intro oVQ (bt hd0 bVQ))
                go_wp2
                go_ret
                exact RetH.own HQ.out.1 (Nat.le_trans HB4.out.size hd0.size) (bt HB4.out HQ.out.2) HNEW.out
              · obtain ⟨g, off, e9, hgl, _⟩ := HS4.out.2.2.2 (by omega)
                obtain rfl : ad = ⟨g, off, none⟩ := Option.some.inj e9
                clear e9 h0
                have kb := KB.out
                refine wp_region_held_drew (S := fun W => ∀ o9, W.cell? ⟨w.heap.size, o9, none⟩ = (#[.int .i64 o.ti, .int .i64 o.no, .int .i64 o.ki, .int .i64 o.ino, .int .u64 o.isq, .int .i64 o.iof, .int .i64 o.ot] : Array Value)[o9]?) (by kernel_rfl) (fun o9 => blk_cell (blk_drew kb) o9) (fun hHeld => ?_)
                obtain ⟨d0, ed⟩ : ∃ v, v = w4.drew := ⟨_, rfl⟩
                have hd0 : Below w4.heap.size w4 d0 := (by rw [ed]; exact (Below.refl _ _).drew)
                have kb0 : blk d0 w.heap.size = some #[.int .i64 o.ti, .int .i64 o.no, .int .i64 o.ki, .int .i64 o.ino, .int .u64 o.isq, .int .i64 o.iof, .int .i64 o.ot] := (by rw [ed]; exact blk_drew kb)
                have bd0 : Below d0.heap.size d0 d0 := Below.refl _ _
                have hgd : g < d0.heap.size := Nat.lt_of_lt_of_le hgl hd0.size
                have HCE : Hid (∀ j u, (rowC idL H)[j]? = some u → d0.cell? ⟨g, off + j, none⟩ = some u) := Lib.hid fun j u hj => (hd0.cell (p := ⟨g, off + j, none⟩) hgl).trans (srow_cellsG idL_len HS4.out j u hj)
                rw [← ed] at hHeld ⊢
                clear ed kb
                refine wpAnyH_take (i := 1) (oi := _) (v := ?_) rfl (by kernel_rfl) (by kernel_rfl) (by kernel_rfl) (fun _ _ _ h => h) (Or.inl ⟨by rfl, ?_⟩) (by assumption) ?_
                rotate_left
                focus (intro W hSw; (try dsimp only at hSw); go_simp; (try with_reducible rfl))
                (try simp only [Act.put, List.setIfInBounds_toArray, List.set_cons_zero, List.set_cons_succ, List.getElem_toArray, List.getElem_cons_succ, List.getElem_cons_zero])
                refine wpAnyH_take (i := 3) (oi := _) (v := ?_) rfl (by kernel_rfl) (by kernel_rfl) (by kernel_rfl) (fun _ _ _ h => h) (Or.inl ⟨by rfl, ?_⟩) (by assumption) ?_
                rotate_left
                focus (intro W hSw; (try dsimp only at hSw); go_simp; (try with_reducible rfl))
                (try simp only [Act.put, List.setIfInBounds_toArray, List.set_cons_zero, List.set_cons_succ, List.getElem_toArray, List.getElem_cons_succ, List.getElem_cons_zero])
                refine wpAnyH_take (i := 4) (oi := _) (v := ?_) rfl (by kernel_rfl) (by kernel_rfl) (by kernel_rfl) (fun _ _ _ h => h) (Or.inl ⟨by rfl, ?_⟩) (by assumption) ?_
                rotate_left
                focus (intro W hSw; (try dsimp only at hSw); go_simp; (try with_reducible rfl))
                (try simp only [Act.put, List.setIfInBounds_toArray, List.set_cons_zero, List.set_cons_succ, List.getElem_toArray, List.getElem_cons_succ, List.getElem_cons_zero])
                refine wpAnyH_ready (rs := [0, 5]) (by kernel_rfl) (by simp) ?_
                refine AllReadyH.cons rfl (fun K hK => ?_) ?_
                · skip
                  go_simp
                  obtain ⟨vA, evA⟩ : ∃ v, v = d0.alloc (.cells #[] 52) := ⟨_, rfl⟩
                  obtain ⟨nA, enA⟩ : ∃ v, v = d0.heap.size := ⟨_, rfl⟩
                  have hB9 : Below d0.heap.size d0 vA := (by rw [evA]; exact (Below.refl _ _).alloc (Nat.le_refl _) _)
                  have lnA : d0.heap.size ≤ nA := (by rw [enA]; exact bd0.size)
                  have bvA := bt bd0 hB9
                  have ovA : vA.ownsRow d0.heap.size 52 3 (.slice (some ⟨nA, 0, none⟩) 0 0) 0 [] := (by rw [evA, enA]; exact owns_base (own_emptyId _ _) bd0.size)
                  rw [← evA, ← enA]
                  clear evA enA hB9
                  refine hK.out _ _ (fun o9 => blk_cell (blk_below bvA kb0) o9) (fun _ => ?_)
                  clear hK K
                  (try simp only [Act.put, List.setIfInBounds_toArray, List.set_cons_zero, List.set_cons_succ, List.getElem_toArray, List.getElem_cons_succ, List.getElem_cons_zero])
                  refine wpAnyH_ready (rs := [2, 5]) (by kernel_rfl) (by simp) ?_
                  refine AllReadyH.cons rfl (fun K hK => ?_) ?_
                  · skip
                    refine wp_append_own _ (.tmp 46) (.tmp 47) 76 rfl d0.heap.size 52 i0 (.agg #[.int .i64 0, .int .u64 0, .int .i64 0]) 3 24 Tryz.underlying76 Hi.out Hz0.out Hz1.out Hz2.out rfl (by decide) (.slice (some ⟨nA, 0, none⟩) 0 0) 0 [] rfl ovA ⟨g, off, none⟩ H.length ch (rowC idL H) rfl (rowC_length idL_len _) (fun j u hj => (by rw [Addr.add_mid, bvA.cell (p := ⟨g, off + j, none⟩) hgd]; exact HCE.out j u hj)) (rowId_one _) (by have := HHL.out; unfold maxLen; omega) (by have := HHL.out; omega) bvA.size ?_
                    intro vP VP ho9 hg9 _
                    have bVP : Below d0.heap.size d0 VP := bvA.grown hg9 bvA.size (fun k e => (ovA.lt k e).1)
                    have oVP : VP.ownsRow d0.heap.size 52 3 vP H.length (rowC idL H) := (by rw [Nat.zero_add, List.nil_append] at ho9; exact ho9)
                    clear ho9 hg9
                    refine hK.out _ _ (fun o9 => blk_cell (blk_below bVP kb0) o9) (fun _ => ?_)
                    clear hK K
                    (try simp only [Act.put, List.setIfInBounds_toArray, List.set_cons_zero, List.set_cons_succ, List.getElem_toArray, List.getElem_cons_succ, List.getElem_cons_zero])
                    refine wpAnyH_ready (rs := [5]) (by kernel_rfl) (by simp) ?_
                    refine AllReadyH.cons rfl (fun K hK => ?_) AllReadyH.nil
                    go_simp
                    obtain ⟨vB, evB⟩ : ∃ v, v = VP.alloc (.cells #[.int .i64 o.ino, .int .u64 o.isq, .int .i64 o.iof] 52) := ⟨_, rfl⟩
                    obtain ⟨nB, enB⟩ : ∃ v, v = VP.heap.size := ⟨_, rfl⟩
                    have hB9 : Below VP.heap.size VP vB := (by rw [evB]; exact (Below.refl _ _).alloc (Nat.le_refl _) _)
                    have lnB : d0.heap.size ≤ nB := (by rw [enB]; exact bVP.size)
                    have bvB := bt bVP hB9
                    have zvB : blk vB nB = some #[.int .i64 o.ino, .int .u64 o.isq, .int .i64 o.iof] := (by rw [evB]; exact blk_alloc_new _ _ _ enB)
                    have ovB := owns_belowS oVP hB9
                    rw [← evB, ← enB]
                    clear evB enB hB9
                    refine hK.out _ _ (fun o9 => blk_cell (blk_below bvB kb0) o9) (fun _ => ?_)
                    clear hK K
                    (try simp only [Act.put, List.setIfInBounds_toArray, List.set_cons_zero, List.set_cons_succ, List.getElem_toArray, List.getElem_cons_succ, List.getElem_cons_zero])
                    refine wpAnyH_ready (rs := [6]) (by kernel_rfl) (by simp) ?_
                    refine AllReadyH.cons rfl (fun K hK => ?_) AllReadyH.nil
                    refine wp_append_own _ (.tmp 48) (.tmp 51) 76 rfl d0.heap.size 52 i0 (.agg #[.int .i64 0, .int .u64 0, .int .i64 0]) 3 24 Tryz.underlying76 Hi.out Hz0.out Hz1.out Hz2.out rfl (by decide) vP H.length (rowC idL H) rfl ovB ⟨nB, 0, none⟩ 1 1 (idL (oid o)) rfl rfl (fun j u hj => (by rw [Addr.add_mid, Nat.zero_add, blk_cell zvB]; have h9 : (#[.int .i64 o.ino, .int .u64 o.isq, .int .i64 o.iof] : Array Value)[j]? = some u := (by simpa [idL, oid] using hj); exact h9)) (idL_one _) (by have := HHL.out; unfold maxLen; omega) (by have := HHL.out; omega) bvB.size ?_
                    intro vQ VQ ho9 hg9 _
                    have bVQ : Below d0.heap.size d0 VQ := bvB.grown hg9 bvB.size (fun k e => (ovB.lt k e).1)
                    have oVQ : VQ.ownsRow d0.heap.size 52 3 vQ (H ++ [oid o]).length (rowC idL (H ++ [oid o])) := (by rw [rowC_append, rowC_one, List.length_append, List.length_singleton]; exact ho9)
                    clear ho9 hg9
                    refine hK.out _ _ (fun o9 => blk_cell (blk_below bVQ kb0) o9) (fun _ => ?_)
                    clear hK K
                    (try simp only [Act.put, List.setIfInBounds_toArray, List.set_cons_zero, List.set_cons_succ, List.getElem_toArray, List.getElem_cons_succ, List.getElem_cons_zero])
                    refine wpAnyH_take (i := 7) (oi := _) (v := ?_) rfl (by kernel_rfl) (by kernel_rfl) (by kernel_rfl) (fun _ _ _ h => h) (Or.inl ⟨by rfl, ?_⟩) (by assumption) ?_
                    rotate_left
                    focus (intro W hSw; (try dsimp only at hSw); go_simp; (try with_reducible rfl))
                    (try simp only [Act.put, List.setIfInBounds_toArray, List.set_cons_zero, List.set_cons_succ, List.getElem_toArray, List.getElem_cons_succ, List.getElem_cons_zero])
                    refine wpAnyH_done (by kernel_rfl) ?_ _
                    have HQ := Lib.hid (And.intro oVQ (bt hd0 bVQ))
                    go_wp2
                    go_ret
                    exact RetH.own HQ.out.1 (Nat.le_trans HB4.out.size hd0.size) (bt HB4.out HQ.out.2) HNEW.out
                  refine AllReadyH.cons rfl (fun K hK => ?_) AllReadyH.nil
                  go_simp
                  obtain ⟨vB, evB⟩ : ∃ v, v = vA.alloc (.cells #[.int .i64 o.ino, .int .u64 o.isq, .int .i64 o.iof] 52) := ⟨_, rfl⟩
                  obtain ⟨nB, enB⟩ : ∃ v, v = vA.heap.size := ⟨_, rfl⟩
                  have hB9 : Below vA.heap.size vA vB := (by rw [evB]; exact (Below.refl _ _).alloc (Nat.le_refl _) _)
                  have lnB : d0.heap.size ≤ nB := (by rw [enB]; exact bvA.size)
                  have bvB := bt bvA hB9
                  have zvB : blk vB nB = some #[.int .i64 o.ino, .int .u64 o.isq, .int .i64 o.iof] := (by rw [evB]; exact blk_alloc_new _ _ _ enB)
                  have ovB := owns_belowS ovA hB9
                  have hnz : nA ≠ nB := (by have := (ovA.lt nA rfl).2; omega)
                  rw [← evB, ← enB]
                  clear evB enB hB9
                  refine hK.out _ _ (fun o9 => blk_cell (blk_below bvB kb0) o9) (fun _ => ?_)
                  clear hK K
                  (try simp only [Act.put, List.setIfInBounds_toArray, List.set_cons_zero, List.set_cons_succ, List.getElem_toArray, List.getElem_cons_succ, List.getElem_cons_zero])
                  refine wpAnyH_ready (rs := [2]) (by kernel_rfl) (by simp) ?_
                  refine AllReadyH.cons rfl (fun K hK => ?_) AllReadyH.nil
                  refine wp_append_own _ (.tmp 46) (.tmp 47) 76 rfl d0.heap.size 52 i0 (.agg #[.int .i64 0, .int .u64 0, .int .i64 0]) 3 24 Tryz.underlying76 Hi.out Hz0.out Hz1.out Hz2.out rfl (by decide) (.slice (some ⟨nA, 0, none⟩) 0 0) 0 [] rfl ovB ⟨g, off, none⟩ H.length ch (rowC idL H) rfl (rowC_length idL_len _) (fun j u hj => (by rw [Addr.add_mid, bvB.cell (p := ⟨g, off + j, none⟩) hgd]; exact HCE.out j u hj)) (rowId_one _) (by have := HHL.out; unfold maxLen; omega) (by have := HHL.out; omega) bvB.size ?_
                  intro vP VP ho9 hg9 _
                  have bVP : Below d0.heap.size d0 VP := bvB.grown hg9 bvB.size (fun k e => (ovB.lt k e).1)
                  have oVP : VP.ownsRow d0.heap.size 52 3 vP H.length (rowC idL H) := (by rw [Nat.zero_add, List.nil_append] at ho9; exact ho9)
                  have zVP : blk VP nB = some #[.int .i64 o.ino, .int .u64 o.isq, .int .i64 o.iof] := (blk_kept (hg9.block nB (blk_lt zvB) (fun e => hnz (Option.some.inj e).symm))).trans zvB
                  clear ho9 hg9
                  refine hK.out _ _ (fun o9 => blk_cell (blk_below bVP kb0) o9) (fun _ => ?_)
                  clear hK K
                  (try simp only [Act.put, List.setIfInBounds_toArray, List.set_cons_zero, List.set_cons_succ, List.getElem_toArray, List.getElem_cons_succ, List.getElem_cons_zero])
                  refine wpAnyH_ready (rs := [6]) (by kernel_rfl) (by simp) ?_
                  refine AllReadyH.cons rfl (fun K hK => ?_) AllReadyH.nil
                  refine wp_append_own _ (.tmp 48) (.tmp 51) 76 rfl d0.heap.size 52 i0 (.agg #[.int .i64 0, .int .u64 0, .int .i64 0]) 3 24 Tryz.underlying76 Hi.out Hz0.out Hz1.out Hz2.out rfl (by decide) vP H.length (rowC idL H) rfl oVP ⟨nB, 0, none⟩ 1 1 (idL (oid o)) rfl rfl (fun j u hj => (by rw [Addr.add_mid, Nat.zero_add, blk_cell zVP]; have h9 : (#[.int .i64 o.ino, .int .u64 o.isq, .int .i64 o.iof] : Array Value)[j]? = some u := (by simpa [idL, oid] using hj); exact h9)) (idL_one _) (by have := HHL.out; unfold maxLen; omega) (by have := HHL.out; omega) bVP.size ?_
                  intro vQ VQ ho9 hg9 _
                  have bVQ : Below d0.heap.size d0 VQ := bVP.grown hg9 bVP.size (fun k e => (oVP.lt k e).1)
                  have oVQ : VQ.ownsRow d0.heap.size 52 3 vQ (H ++ [oid o]).length (rowC idL (H ++ [oid o])) := (by rw [rowC_append, rowC_one, List.length_append, List.length_singleton]; exact ho9)
                  clear ho9 hg9
                  refine hK.out _ _ (fun o9 => blk_cell (blk_below bVQ kb0) o9) (fun _ => ?_)
                  clear hK K
                  (try simp only [Act.put, List.setIfInBounds_toArray, List.set_cons_zero, List.set_cons_succ, List.getElem_toArray, List.getElem_cons_succ, List.getElem_cons_zero])
                  refine wpAnyH_take (i := 7) (oi := _) (v := ?_) rfl (by kernel_rfl) (by kernel_rfl) (by kernel_rfl) (fun _ _ _ h => h) (Or.inl ⟨by rfl, ?_⟩) (by assumption) ?_
                  rotate_left
                  focus (intro W hSw; (try dsimp only at hSw); go_simp; (try with_reducible rfl))
                  (try simp only [Act.put, List.setIfInBounds_toArray, List.set_cons_zero, List.set_cons_succ, List.getElem_toArray, List.getElem_cons_succ, List.getElem_cons_zero])
                  refine wpAnyH_done (by kernel_rfl) ?_ _
                  have HQ := Lib.hid (And.intro oVQ (bt hd0 bVQ))
                  go_wp2
                  go_ret
                  exact RetH.own HQ.out.1 (Nat.le_trans HB4.out.size hd0.size) (bt HB4.out HQ.out.2) HNEW.out
                refine AllReadyH.cons rfl (fun K hK => ?_) AllReadyH.nil
                go_simp
                obtain ⟨vB, evB⟩ : ∃ v, v = d0.alloc (.cells #[.int .i64 o.ino, .int .u64 o.isq, .int .i64 o.iof] 52) := ⟨_, rfl⟩
                obtain ⟨nB, enB⟩ : ∃ v, v = d0.heap.size := ⟨_, rfl⟩
                have hB9 : Below d0.heap.size d0 vB := (by rw [evB]; exact (Below.refl _ _).alloc (Nat.le_refl _) _)
                have lnB : d0.heap.size ≤ nB := (by rw [enB]; exact bd0.size)
                have bvB := bt bd0 hB9
                have zvB : blk vB nB = some #[.int .i64 o.ino, .int .u64 o.isq, .int .i64 o.iof] := (by rw [evB]; exact blk_alloc_new _ _ _ enB)
                rw [← evB, ← enB]
                clear evB enB hB9
                refine hK.out _ _ (fun o9 => blk_cell (blk_below bvB kb0) o9) (fun _ => ?_)
                clear hK K
                (try simp only [Act.put, List.setIfInBounds_toArray, List.set_cons_zero, List.set_cons_succ, List.getElem_toArray, List.getElem_cons_succ, List.getElem_cons_zero])
                refine wpAnyH_ready (rs := [0]) (by kernel_rfl) (by simp) ?_
                refine AllReadyH.cons rfl (fun K hK => ?_) AllReadyH.nil
                go_simp
                obtain ⟨vA, evA⟩ : ∃ v, v = vB.alloc (.cells #[] 52) := ⟨_, rfl⟩
                obtain ⟨nA, enA⟩ : ∃ v, v = vB.heap.size := ⟨_, rfl⟩
                have hB9 : Below vB.heap.size vB vA := (by rw [evA]; exact (Below.refl _ _).alloc (Nat.le_refl _) _)
                have lnA : d0.heap.size ≤ nA := (by rw [enA]; exact bvB.size)
                have bvA := bt bvB hB9
                have ovA : vA.ownsRow d0.heap.size 52 3 (.slice (some ⟨nA, 0, none⟩) 0 0) 0 [] := (by rw [evA, enA]; exact owns_base (own_emptyId _ _) bvB.size)
                have zvA := blk_below hB9 zvB
                have hnz : nA ≠ nB := (by have := blk_lt zvB; omega)
                rw [← evA, ← enA]
                clear evA enA hB9
                refine hK.out _ _ (fun o9 => blk_cell (blk_below bvA kb0) o9) (fun _ => ?_)
                clear hK K
                (try simp only [Act.put, List.setIfInBounds_toArray, List.set_cons_zero, List.set_cons_succ, List.getElem_toArray, List.getElem_cons_succ, List.getElem_cons_zero])
                refine wpAnyH_ready (rs := [2]) (by kernel_rfl) (by simp) ?_
                refine AllReadyH.cons rfl (fun K hK => ?_) AllReadyH.nil
                refine wp_append_own _ (.tmp 46) (.tmp 47) 76 rfl d0.heap.size 52 i0 (.agg #[.int .i64 0, .int .u64 0, .int .i64 0]) 3 24 Tryz.underlying76 Hi.out Hz0.out Hz1.out Hz2.out rfl (by decide) (.slice (some ⟨nA, 0, none⟩) 0 0) 0 [] rfl ovA ⟨g, off, none⟩ H.length ch (rowC idL H) rfl (rowC_length idL_len _) (fun j u hj => (by rw [Addr.add_mid, bvA.cell (p := ⟨g, off + j, none⟩) hgd]; exact HCE.out j u hj)) (rowId_one _) (by have := HHL.out; unfold maxLen; omega) (by have := HHL.out; omega) bvA.size ?_
                intro vP VP ho9 hg9 _
                have bVP : Below d0.heap.size d0 VP := bvA.grown hg9 bvA.size (fun k e => (ovA.lt k e).1)
                have oVP : VP.ownsRow d0.heap.size 52 3 vP H.length (rowC idL H) := (by rw [Nat.zero_add, List.nil_append] at ho9; exact ho9)
                have zVP : blk VP nB = some #[.int .i64 o.ino, .int .u64 o.isq, .int .i64 o.iof] := (blk_kept (hg9.block nB (blk_lt zvA) (fun e => hnz (Option.some.inj e).symm))).trans zvA
                clear ho9 hg9
                refine hK.out _ _ (fun o9 => blk_cell (blk_below bVP kb0) o9) (fun _ => ?_)
                clear hK K
                (try simp only [Act.put, List.setIfInBounds_toArray, List.set_cons_zero, List.set_cons_succ, List.getElem_toArray, List.getElem_cons_succ, List.getElem_cons_zero])
                refine wpAnyH_ready (rs := [6]) (by kernel_rfl) (by simp) ?_
                refine AllReadyH.cons rfl (fun K hK => ?_) AllReadyH.nil
                refine wp_append_own _ (.tmp 48) (.tmp 51) 76 rfl d0.heap.size 52 i0 (.agg #[.int .i64 0, .int .u64 0, .int .i64 0]) 3 24 Tryz.underlying76 Hi.out Hz0.out Hz1.out Hz2.out rfl (by decide) vP H.length (rowC idL H) rfl oVP ⟨nB, 0, none⟩ 1 1 (idL (oid o)) rfl rfl (fun j u hj => (by rw [Addr.add_mid, Nat.zero_add, blk_cell zVP]; have h9 : (#[.int .i64 o.ino, .int .u64 o.isq, .int .i64 o.iof] : Array Value)[j]? = some u := (by simpa [idL, oid] using hj); exact h9)) (idL_one _) (by have := HHL.out; unfold maxLen; omega) (by have := HHL.out; omega) bVP.size ?_
                intro vQ VQ ho9 hg9 _
                have bVQ : Below d0.heap.size d0 VQ := bVP.grown hg9 bVP.size (fun k e => (oVP.lt k e).1)
                have oVQ : VQ.ownsRow d0.heap.size 52 3 vQ (H ++ [oid o]).length (rowC idL (H ++ [oid o])) := (by rw [rowC_append, rowC_one, List.length_append, List.length_singleton]; exact ho9)
                clear ho9 hg9
                refine hK.out _ _ (fun o9 => blk_cell (blk_below bVQ kb0) o9) (fun _ => ?_)
                clear hK K
                (try simp only [Act.put, List.setIfInBounds_toArray, List.set_cons_zero, List.set_cons_succ, List.getElem_toArray, List.getElem_cons_succ, List.getElem_cons_zero])
                refine wpAnyH_take (i := 7) (oi := _) (v := ?_) rfl (by kernel_rfl) (by kernel_rfl) (by kernel_rfl) (fun _ _ _ h => h) (Or.inl ⟨by rfl, ?_⟩) (by assumption) ?_
                rotate_left
                focus (intro W hSw; (try dsimp only at hSw); go_simp; (try with_reducible rfl))
                (try simp only [Act.put, List.setIfInBounds_toArray, List.set_cons_zero, List.set_cons_succ, List.getElem_toArray, List.getElem_cons_succ, List.getElem_cons_zero])
                refine wpAnyH_done (by kernel_rfl) ?_ _
                have HQ := Lib.hid (And.intro oVQ (bt hd0 bVQ))
                go_wp2
                go_ret
                exact RetH.own HQ.out.1 (Nat.le_trans HB4.out.size hd0.size) (bt HB4.out HQ.out.2) HNEW.out
    · have c1 : (o.ki == 1) = false := by simp; omega
      have c6 : (o.ki == 6) = false := by simp; omega
      have hD := HD.out
      rw [if_neg (fun h => h hn), if_neg hk] at hD
      by_cases h79 : o.ki = 7 ∨ o.ki = 9
      · rw [if_pos h79] at hD
        have HDD := Lib.hid hD
        have c79 : (o.ki == 7) = true ∨ ((o.ki == 7) = false ∧ (o.ki == 9) = true) := by
          rcases h79 with h | h
          · exact .inl (by simpa using h)
          · exact .inr ⟨by simp [h], by simpa using h⟩
        obtain ⟨i0, hi, hz0, hz1, hz2⟩ := info_parts infoId
        have Hi := Lib.hid hi; have Hz0 := Lib.hid hz0; have Hz1 := Lib.hid hz1; have Hz2 := Lib.hid hz2
        have hcap0 := HS.out.1
        have hmax0 := HS.out.2.1
        unfold maxLen at hmax0
        clear hi hz0 hz1 hz2 hD hn hk h79 HD GI GF
        obtain ⟨u1, hu1⟩ : ∃ u, u = w.alloc (.cells #[.int .i64 o.ti, .int .i64 o.no, .int .i64 o.ki, .int .i64 o.ino, .int .u64 o.isq, .int .i64 o.iof, .int .i64 o.ot] 56) := ⟨_, rfl⟩
        have KB := Lib.hid (hu1 ▸ kbx : blk u1 w.heap.size = some #[.int .i64 o.ti, .int .i64 o.no, .int .i64 o.ki, .int .i64 o.ino, .int .u64 o.isq, .int .i64 o.iof, .int .i64 o.ot])
        have BA := Lib.hid (hu1 ▸ bal : Below w.heap.size w u1)
        have HU := Lib.hid hu1
        have B0 : Below u1.heap.size u1 (w.alloc (.cells #[.int .i64 o.ti, .int .i64 o.no, .int .i64 o.ki, .int .i64 o.ino, .int .u64 o.isq, .int .i64 o.iof, .int .i64 o.ot] 56)) := by rw [hu1]; exact Below.refl _ _
        clear hu1 kbx bal
        rcases c79 with c7 | ⟨c7, c9⟩
        all_goals
          go_enter Tryz.func33, Tryz.ntmps33
          go_wp2
          go_loopw [11, 12] (fun s11 s12 wr => ∃ j : Nat, s12 = .int .i64 j ∧ j ≤ H.length ∧ Below u1.heap.size u1 wr ∧ Hid (wr.ownsRow u1.heap.size 52 3 s11 ((H.take j).filter fun x => decide (x ≠ oid o)).length (rowC idL ((H.take j).filter fun x => decide (x ≠ oid o))))) (fun _ s12 _ => H.length - (intOf s12).toNat)
          case atStart => exact ⟨0, rfl, Nat.zero_le _, B0, Lib.hid (by simpa [rowC] using World.ownsRow_nil _ _ _ _)⟩
          case round =>
            clear B0 nbx
            obtain ⟨j, rfl, hj, hB, HO⟩ := hrel
            by_cases hlt : j < H.length
            · have hltz : (j : Int) < (H.length : Int) := by omega
              obtain ⟨g, off, hab, hbl, hcs⟩ := (HS.out.below (bt BA.out hB)).2.2.2 (by omega)
              subst hab
              have hfs := flt_succ H (oid o) j hlt
              obtain ⟨x, hx⟩ : ∃ x, x = H[j] := ⟨_, rfl⟩
              have hr := hcs j hlt
              rw [← hx] at hr hfs
              have E := fun W => run_idKNe x (oid o) W
              obtain ⟨q, hq⟩ : ∃ q, (!decide (x = oid o)) = q := ⟨_, rfl⟩
              have hqn : decide (x ≠ oid o) = q := by rw [← hq]; by_cases h : x = oid o <;> simp [h]
              rw [hq] at E
              rw [hqn] at hfs
              obtain ⟨x1, x2, x3⟩ := x
              have E : ∀ W, Sem.run Tryz.prog (binOp BinOp.neq 52 (.agg #[.int .i64 x1, .int .u64 x2, .int .i64 x3]) (.agg #[.int .i64 o.ino, .int .u64 o.isq, .int .i64 o.iof])) W = .ok (.bool q) W := E
              have j1 : wr.cell? ⟨g, off + j * 3, none⟩ = some (.int .i64 x1) := hr 0 _ rfl
              have j2 : wr.cell? ⟨g, off + j * 3 + 1, none⟩ = some (.int .u64 x2) := hr 1 _ rfl
              have j3 : wr.cell? ⟨g, off + j * 3 + 2, none⟩ = some (.int .i64 x3) := hr 2 _ rfl
              have HFS := Lib.hid hfs
              obtain ⟨F, hF⟩ : ∃ F, (H.take j).filter (fun x => decide (x ≠ oid o)) = F := ⟨_, rfl⟩
              rw [hF] at HO HFS
              have hFl : F.length ≤ 10000 := by rw [← hF]; have h9 := List.length_filter_le (fun x => decide (x ≠ oid o)) (H.take j); have h8 := HHL.out; rw [List.length_take] at h9; omega
              clear hx hcs hq hqn hfs hr hF
              go_upto_region 16 with fail
              refine wp_region_in (by kernel_rfl) (by kernel_rfl) ?_
              intro W0 hE hN
              have q0 : blk W0 w.heap.size = some #[.int .i64 o.ti, .int .i64 o.no, .int .i64 o.ki, .int .i64 o.ino, .int .u64 o.isq, .int .i64 o.iof, .int .i64 o.ot] := (by rw [hE.out]; exact blk_below hB KB.out)
              have n0 := calm_kn q0
              have n1 := calm_cellQ (W0 := W0) (by rw [hE.out]; exact hbl) (by rw [hE.out]; exact j1)
              have n2 := calm_cellQ (W0 := W0) (by rw [hE.out]; exact hbl) (by rw [hE.out]; exact j2)
              have n3 := calm_cellQ (W0 := W0) (by rw [hE.out]; exact hbl) (by rw [hE.out]; exact j3)
              clear j1 j2 j3
              repeat (go_big_quiet_step (fail))
              refine wpQuiet_nil ?_
              rintro _ ⟨x', rfl⟩
              have bx : Below wr.heap.size wr x'.wd := by rw [← hE.out]; exact x'.ok
              have b3 := bt hB bx
              have ho3 := Lib.hid (owns_belowS HO.out bx)
              have j1 := n1 x'
              have j2 := n2 x'
              have j3 := n3 x'
              clear n0 n1 n2 n3 E q0 hE hN HO bx
              obtain ⟨u, hu⟩ : ∃ u, u = x'.wd := ⟨_, rfl⟩
              rw [← hu] at b3 ho3 j1 j2 j3 ⊢
              clear hu x'
              cases q
              · clear j1 j2 j3
                go_wp2
                go_roundw
                case rel => exact ⟨j + 1, by go_num, by omega, b3, Lib.hid (by rw [HFS.out]; simpa using ho3.out)⟩
                case measure => simp [intOf]; omega
              · go_wp2_with (at_builtin; refine wpList_append_struct (enc := idL) rfl _ _ 76 rfl u1.heap.size 52 i0 (.agg #[.int .i64 0, .int .u64 0, .int .i64 0]) 3 24 Tryz.underlying76 Hi.out Hz0.out Hz1.out Hz2.out rfl (by decide) idL_len idL_one _ F rfl (ho3.out.alloc _) u.heap.size 1 (x1, x2, x3) rfl (blk_alloc_new _ _ _ rfl) (by unfold maxLen; omega) (by omega) (by have := b3.size; simp; omega) ?_; intro v' wb hown2 hgrow2; (have HO2 := Lib.hid hown2); (have hB5 : Below u1.heap.size u1 wb := (b3.alloc b3.size _).grown hgrow2 (by have := b3.size; simp; omega) (fun k e => (ho3.out.lt k e).1)); clear hown2 hgrow2)
                go_roundw
                case rel => exact ⟨j + 1, by go_num, by omega, hB5, Lib.hid (by rw [HFS.out]; simpa using HO2.out)⟩
                case measure => simp [intOf]; omega
            · have hz : ¬ (j : Int) < (H.length : Int) := by omega
              have hjl : j = H.length := by omega
              have ho : wr.ownsRow u1.heap.size 52 3 u11 (H.filter fun x => decide (x ≠ oid o)).length (rowC idL (H.filter fun x => decide (x ≠ oid o))) := by have h9 := HO.out; rwa [hjl, List.take_length] at h9
              have HO9 := Lib.hid ho
              clear ho HO hjl
              go_wp2
              go_ret
              exact RetH.own HO9.out BA.out.size (bt BA.out hB) HDD.out
      · have c7 : (o.ki == 7) = false := by simp; omega
        have c9 : (o.ki == 9) = false := by simp; omega
        rw [if_neg h79] at hD
        have HDD := Lib.hid hD
        clear HD hD hn hk h79
        go_enter Tryz.func33, Tryz.ntmps33
        go_wp2
        go_ret
        exact RetH.same bal HDD.out
  · have t1 : (o.no != node) = true := by simpa using hn
    have hD := HD.out
    rw [if_pos hn] at hD
    have HDD := Lib.hid hD
    clear HD hD hn
    go_enter Tryz.func33, Tryz.ntmps33
    go_wp2
    go_ret
    exact RetH.same bal HDD.out
end Go.Proofs.YthfmkkkdjgkaoaaGreatDoor
