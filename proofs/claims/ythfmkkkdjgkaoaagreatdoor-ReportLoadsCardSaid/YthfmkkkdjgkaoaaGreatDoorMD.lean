/- Parts of a proof, printed by a program of mine out of my texts: WiFront2, WiEnc, WiRoom. -/
import Derived.Deep.RegionHeld3
import Derived.Test.YthfmkkkdjgkaoaaGreatDoorMC
set_option linter.unusedSimpArgs false
set_option linter.unusedVariables false
namespace Go.Proofs.YthfmkkkdjgkaoaaGreatDoor
open Go.RowKit
abbrev headsNm : String := "packhorse/wire.heads"
def headsTab : List Int := [176, 177, 178, 180, 181, 182]
def HTab (w : World) : Prop := Lib.TabBelow Tryz.prog w.heap.size w headsNm .u8 headsTab
theorem HTab.on {w w' : World} (h : HTab w) (hb : RowKit.Below w.heap.size w w') : HTab w' := Lib.tabBelow_of_tabIs (Lib.TabBelow.on h hb).here
theorem htab_of {w : World} (h : Lib.TabIs Tryz.prog w headsNm .u8 headsTab) : HTab w := Lib.tabBelow_of_tabIs h
theorem HTab.cell {w : World} (h : HTab w) (i : Nat) (hi : i < 6) : w.cell? ⟨0, i, none⟩ = some (.int .u8 (headsTab.getD i 0)) :=
  Lib.TabIs.cell (Lib.TabBelow.here h) (g := 0) (by kernel_rfl) i hi
theorem PtrRow.alloc {w : World} {b : Nat} {ns : List Nat} (h : PtrRow w b ns) (o : Obj) : PtrRow (w.alloc o) b ns := h.below ((Below.refl _ _).alloc (Nat.le_refl _) _)
theorem PtrRow.drew {w : World} {b : Nat} {ns : List Nat} (h : PtrRow w b ns) : PtrRow w.drew b ns := h.below (Below.refl _ _).drew
theorem PtrRow.new {X W : World} {B n : Nat} {C : Array Value} {T : TypeId} (os ns : List Nat) (hn : n = X.heap.size) (hW : W = X.alloc (.cells (os.map fun o => Value.pointer (some ⟨B, o, none⟩)).toArray T)) (hB : blk X B = some C) (hl : os.length = ns.length)
    (h : ∀ k (hk : k < ns.length), C[os.getD k 0]? = some (.int .i64 (ns[k] : Nat))) : PtrRow W n ns := by
  subst hn hW
  refine ⟨by simp, fun k hk => ⟨B, os.getD k 0, by have := blk_lt hB; simp; omega, ?_, ?_⟩⟩
  · have hk' : k < os.length := by omega
    have h1 := heap_alloc_new X (.cells (os.map fun o => Value.pointer (some ⟨B, o, none⟩)).toArray T)
    simp only [World.cell?, h1]
    simp [List.getD, hk']
  · rw [blk_cell (blk_alloc hB _)]; exact h k hk
theorem head_slice {P : Program} {src dst e : TypeId} (hs : P.underlying src = some (.slice e)) (he : P.underlying e = some (.int .u8)) (hd : P.underlying dst = some .string) (g i cap : Nat) (b : UInt8) (w : World) (hc : w.cell? ⟨g, i, none⟩ = some (.int .u8 (b.toNat : Int))) :
    (convert src dst (.slice (some ⟨g, i, none⟩) 1 cap)).run P w = .ok (.string ⟨#[b]⟩) w := by
  refine run_convert_bytes_back _ _ _ e ⟨g, i, none⟩ cap [b] hs he hd fun j hj => ?_
  match j, hj with
  | 0, _ => simpa [Addr.add] using hc
theorem numbers_str (ns : List Nat) (hn : ns.length ≤ 100) (hbd : ∀ n ∈ ns, n < 9223372036854775808) : ∃ p : ByteArray, p.data.toList = putAll ns ∧ p.size ≤ 11 * ns.length ∧ ∀ b w, PtrRow w b ns → Calls Tryz.prog 100 #[.slice (some ⟨b, 0, none⟩) ns.length ns.length] w fun e w' => e = .returned (.string p) ∧ Below w.heap.size w w' :=
  ⟨⟨(putAll ns).toArray⟩, rfl, by rw [bsize]; exact putAll_len ns, fun b w h => numbers_any b ns hn hbd w h⟩
set_option maxRecDepth 100000 in
set_option maxHeartbeats 3200000 in
theorem front_whole (no sq of de bo li to : Nat) (pr : Nat) (da : ByteArray) (hda : da.size ≤ maxLen) (h1 : no < 9223372036854775808) (h2 : sq < 9223372036854775808) (h3 : of < 9223372036854775808) (h4 : de < 9223372036854775808) (h5 : pr ≤ 2) (h6 : bo < 9223372036854775808) (h7 : li < 9223372036854775808) (h8 : to < 9223372036854775808)
    (hw : wholeB of to da.size = true) (w : World) (hH : HTab w) :
    Calls Tryz.prog 82 #[buv no sq of de pr bo li to da] w fun e w' => e = .returned (bstr (frontL no sq of de pr bo li to true)) ∧ Below w.heap.size w w' := by
  have g1 := fun w => whole_any no sq of de pr bo li to da hda w
  rw [hw] at g1
  obtain ⟨p1, y1, z1, c1⟩ := numbers_str [no] (by simp) (by simpa using h1)
  obtain ⟨p2, y2, z2, c2⟩ := numPut_str sq h2
  obtain ⟨p3, y3, z3, c3⟩ := numbers_str [de, bo, li] (by simp) (by simp; omega)
  have z1 : p1.size ≤ 11 := z1
  have z3 : p3.size ≤ 33 := z3
  have c1 : ∀ b w, PtrRow w b [no] → Calls Tryz.prog 100 #[.slice (some ⟨b, 0, none⟩) 1 1] w fun e w' => e = .returned (.string p1) ∧ Below w.heap.size w w' := c1
  have c3 : ∀ b w, PtrRow w b [de, bo, li] → Calls Tryz.prog 100 #[.slice (some ⟨b, 0, none⟩) 3 3] w fun e w' => e = .returned (.string p3) ∧ Below w.heap.size w w' := c3
  replace c1 := Lib.hid c1; replace c2 := Lib.hid c2; replace c3 := Lib.hid c3
  obtain ⟨R, hR⟩ : ∃ R, frontL no sq of de pr bo li to true = R := ⟨_, rfl⟩
  rw [hR]
  obtain ⟨hd, hhd⟩ : ∃ hd : ByteArray, ⟨#[UInt8.ofNat (180 + pr)]⟩ = hd := ⟨_, rfl⟩
  have zh : hd.size ≤ 1 := by rw [← hhd]; exact Nat.le_refl _
  have fin : bstr R = .string (((hd ++ p1) ++ p2) ++ p3) := by
    rw [← hR, ← hhd]
    refine (vstr ?_).symm
    simp [frontL, y1, y2, y3, putAll, show 176 + pr + 4 = 180 + pr by omega]
  have Fin := Lib.hid fin
  have hcell : ∀ w', HTab w' → w'.cell? ⟨0, pr + 3, none⟩ = some (.int .u8 ((UInt8.ofNat (180 + pr)).toNat : Int)) := fun w' h => by
    rw [h.cell (pr + 3) (by omega), (by decide : ∀ i, i < 3 → headsTab.getD (i + 3) 0 = ((UInt8.ofNat (180 + i)).toNat : Int)) pr (by omega)]
  have hcv : ∀ w', HTab w' → (convert 85 9 (.slice (some ⟨0, pr + 3, none⟩) 1 (6 - (pr + 3)))).run Tryz.prog w' = .ok (.string ⟨#[UInt8.ofNat (180 + pr)]⟩) w' := fun w' h => head_slice Tryz.underlying85 Tryz.underlying5 Tryz.underlying9 _ _ _ _ w' (hcell w' h)
  have hsl : ∀ X, (Instr.sliceAt 153 (.pointer (some ⟨0, 0, none⟩)) (some (.int .i64 ((pr : Int) + 3))) (some (.int .i64 (IntKind.i64.wrap ((pr : Int) + 3 + 1)))) none).run Tryz.prog X = .ok (.slice (some ⟨0, pr + 3, none⟩) 1 (6 - (pr + 3))) X := fun X => by
    rcases (show pr = 0 ∨ pr = 1 ∨ pr = 2 by omega) with rfl | rfl | rfl
    · kernel_rfl
    · kernel_rfl
    · kernel_rfl
  obtain ⟨cp, hcp⟩ : ∃ c, 6 - (pr + 3) = c := ⟨_, rfl⟩
  rw [hcp] at hsl hcv
  rw [hhd] at hcv
  clear hcp hhd
  have HT := Lib.hid hH
  clear fin hR y1 y2 y3 hw hH hcell
  replace hcv := Lib.hid hcv
  replace g1 := Lib.hid g1
  go_enter Tryz.func82, Tryz.ntmps82
  go_wp2_with fail
  (with_reducible refine (g1.out _).mono ?_)
  rintro e w1 ⟨rfl, hw1⟩
  have kk1 : blk w1 (w.heap.size) = some #[.int .i64 (no : Int), .int .u64 (sq : Int), .int .i64 (of : Int), .int .i64 (de : Int), .int .i64 (pr : Int), .int .i64 (bo : Int), .int .i64 (li : Int), .int .i64 (to : Int), .string da] := (by (apply blk_to; (focus (repeat (first | (with_reducible assumption) | (with_reducible apply blk_drew) | (with_reducible apply blk_set) | ((with_reducible apply blk_other'); (first | (focus (dsimp only; assumption)) | (focus (simp; done)) | (focus (dsimp only; omega)))) | ((with_reducible apply blk_alloc_new); (first | (with_reducible rfl) | (focus (simp; done)) | (focus (simp; omega)))) | (with_reducible apply blk_alloc) | ((with_reducible apply blk_below); (with_reducible assumption))))); rfl))
  have kn1 := kn kk1
  have bw1 : Below w.heap.size w w1 := (by (repeat (first | (with_reducible assumption) | (with_reducible exact Below.refl _ _) | (with_reducible refine beld_drew ?_) | ((with_reducible refine bset' ?_ ?_); (first | (focus (dsimp only; assumption)) | (focus (simp; done)) | (focus (dsimp only; omega)))) | (with_reducible refine belt_alloc ?_) | ((with_reducible refine zeroed_below' ?_ ?_); (first | (focus (simp; done)) | (focus (dsimp only; omega)))) | (with_reducible refine bt ?_ (by assumption)))))
  have sw1 := bw1.size
  clear hw1
  go_wp2
  have n1 : ¬ (9223372036854775807 < hd.size + p1.size) := by omega
  have n2 : ¬ (9223372036854775807 < hd.size + p1.size + p2.size) := by omega
  have n3 : ¬ (9223372036854775807 < hd.size + p1.size + p2.size + p3.size) := by omega
  have KP : Hid (∀ X, Below w1.heap.size w1 X → Below w1.heap.size w1 X ∧ (∀ o, X.cell? ⟨w.heap.size, o, none⟩ = (#[.int .i64 (no : Int), .int .u64 (sq : Int), .int .i64 (of : Int), .int .i64 (de : Int), .int .i64 (pr : Int), .int .i64 (bo : Int), .int .i64 (li : Int), .int .i64 (to : Int), .string da] : Array Value)[o]?) ∧ (convert 85 9 (.slice (some ⟨0, pr + 3, none⟩) 1 cp)).run Tryz.prog X = .ok (.string hd) X) := Lib.hid fun X hX => ⟨hX, fun o => blk_cell (blk_below hX kk1) o, hcv.out X (HT.out.on (bt bw1 hX))⟩
  go_region_held3 (fun X => Below w1.heap.size w1 X ∧ (∀ o, X.cell? ⟨w.heap.size, o, none⟩ = (#[.int .i64 (no : Int), .int .u64 (sq : Int), .int .i64 (of : Int), .int .i64 (de : Int), .int .i64 (pr : Int), .int .i64 (bo : Int), .int .i64 (li : Int), .int .i64 (to : Int), .string da] : Array Value)[o]?) ∧ (convert 85 9 (.slice (some ⟨0, pr + 3, none⟩) 1 cp)).run Tryz.prog X = .ok (.string hd) X) ((refine KP.out _ ?_; (repeat (first | (with_reducible assumption) | (with_reducible exact Below.refl _ _) | (with_reducible refine beld_drew ?_) | ((with_reducible refine bset' ?_ ?_); (first | (focus (dsimp only; assumption)) | (focus (simp; done)) | (focus (dsimp only; omega)))) | (with_reducible refine belt_alloc ?_) | ((with_reducible refine zeroed_below' ?_ ?_); (first | (focus (simp; done)) | (focus (dsimp only; omega)))) | (with_reducible refine bt ?_ (by assumption)))))) (first | ((go_at_call 101; (with_reducible refine (c2.out _).mono ?_); rintro e wb ⟨rfl, hb2⟩)) | ((go_at_call 100; ((with_reducible refine (c1.out _ _ ?_).mono ?_); (focus ((repeat (first | (with_reducible assumption) | (with_reducible refine PtrRow.below ?_ (by assumption)) | (with_reducible refine PtrRow.drew ?_) | (refine PtrRow.new [0] [no] ?_ rfl (B := w.heap.size) (C := #[.int .i64 (no : Int), .int .u64 (sq : Int), .int .i64 (of : Int), .int .i64 (de : Int), .int .i64 (pr : Int), .int .i64 (bo : Int), .int .i64 (li : Int), .int .i64 (to : Int), .string da]) ?_ rfl ?_; (focus (first | rfl | (simp; done) | (simp; omega))); (focus (apply blk_to; (focus (repeat (first | (with_reducible assumption) | (with_reducible apply blk_drew) | (with_reducible apply blk_set) | ((with_reducible apply blk_other'); (first | (focus (dsimp only; assumption)) | (focus (simp; done)) | (focus (dsimp only; omega)))) | ((with_reducible apply blk_alloc_new); (first | (with_reducible rfl) | (focus (simp; done)) | (focus (simp; omega)))) | (with_reducible apply blk_alloc) | ((with_reducible apply blk_below); (with_reducible assumption))))); rfl)); (focus (exact fun k hk => by match k, hk with | 0, _ => rfl))) | (with_reducible refine PtrRow.alloc ?_ _))); done)); rintro e wb ⟨rfl, hb1⟩))) | ((go_at_call 100; ((with_reducible refine (c3.out _ _ ?_).mono ?_); (focus ((repeat (first | (with_reducible assumption) | (with_reducible refine PtrRow.below ?_ (by assumption)) | (with_reducible refine PtrRow.drew ?_) | (refine PtrRow.new [3, 5, 6] [de, bo, li] ?_ rfl (B := w.heap.size) (C := #[.int .i64 (no : Int), .int .u64 (sq : Int), .int .i64 (of : Int), .int .i64 (de : Int), .int .i64 (pr : Int), .int .i64 (bo : Int), .int .i64 (li : Int), .int .i64 (to : Int), .string da]) ?_ rfl ?_; (focus (first | rfl | (simp; done) | (simp; omega))); (focus (apply blk_to; (focus (repeat (first | (with_reducible assumption) | (with_reducible apply blk_drew) | (with_reducible apply blk_set) | ((with_reducible apply blk_other'); (first | (focus (dsimp only; assumption)) | (focus (simp; done)) | (focus (dsimp only; omega)))) | ((with_reducible apply blk_alloc_new); (first | (with_reducible rfl) | (focus (simp; done)) | (focus (simp; omega)))) | (with_reducible apply blk_alloc) | ((with_reducible apply blk_below); (with_reducible assumption))))); rfl)); (focus (exact fun k hk => by match k, hk with | 0, _ => rfl | 1, _ => rfl | 2, _ => rfl))) | (with_reducible refine PtrRow.alloc ?_ _))); done)); rintro e wb ⟨rfl, hb3⟩))))
  all_goals
    have kk9 : blk wb w.heap.size = some (#[.int .i64 (no : Int), .int .u64 (sq : Int), .int .i64 (of : Int), .int .i64 (de : Int), .int .i64 (pr : Int), .int .i64 (bo : Int), .int .i64 (li : Int), .int .i64 (to : Int), .string da]) := (by (apply blk_to; (focus (repeat (first | (with_reducible assumption) | (with_reducible apply blk_drew) | (with_reducible apply blk_set) | ((with_reducible apply blk_other'); (first | (focus (dsimp only; assumption)) | (focus (simp; done)) | (focus (dsimp only; omega)))) | ((with_reducible apply blk_alloc_new); (first | (with_reducible rfl) | (focus (simp; done)) | (focus (simp; omega)))) | (with_reducible apply blk_alloc) | ((with_reducible apply blk_below); (with_reducible assumption))))); rfl))
    have kB : Below w.heap.size w wb := (by (repeat (first | (with_reducible assumption) | (with_reducible exact Below.refl _ _) | (with_reducible refine beld_drew ?_) | ((with_reducible refine bset' ?_ ?_); (first | (focus (dsimp only; assumption)) | (focus (simp; done)) | (focus (dsimp only; omega)))) | (with_reducible refine belt_alloc ?_) | ((with_reducible refine zeroed_below' ?_ ?_); (first | (focus (simp; done)) | (focus (dsimp only; omega)))) | (with_reducible refine bt ?_ (by assumption)))))
    have kn9 := kn kk9
    clear kk1 kn1 KP hcv hsl
    go_wp2_with (go_at_call 99; (with_reducible refine (g1.out _).mono ?_); rintro e w3 ⟨rfl, hb9⟩)
    go_ret
    exact ⟨(congrArg Ending.returned Fin.out).symm, bt kB hb9⟩
set_option maxRecDepth 100000 in
set_option maxHeartbeats 3200000 in
theorem front_part (no sq of de bo li to : Nat) (pr : Nat) (da : ByteArray) (hda : da.size ≤ maxLen) (h1 : no < 9223372036854775808) (h2 : sq < 9223372036854775808) (h3 : of < 9223372036854775808) (h4 : de < 9223372036854775808) (h5 : pr ≤ 2) (h6 : bo < 9223372036854775808) (h7 : li < 9223372036854775808) (h8 : to < 9223372036854775808)
    (hw : wholeB of to da.size = false) (w : World) (hH : HTab w) :
    Calls Tryz.prog 82 #[buv no sq of de pr bo li to da] w fun e w' => e = .returned (bstr (frontL no sq of de pr bo li to false)) ∧ Below w.heap.size w w' := by
  have g1 := fun w => whole_any no sq of de pr bo li to da hda w
  rw [hw] at g1
  obtain ⟨p1, y1, z1, c1⟩ := numbers_str [no] (by simp) (by simpa using h1)
  obtain ⟨p2, y2, z2, c2⟩ := numPut_str sq h2
  obtain ⟨p3, y3, z3, c3⟩ := numbers_str [de, bo, li] (by simp) (by simp; omega)
  have z1 : p1.size ≤ 11 := z1
  have z3 : p3.size ≤ 33 := z3
  have c1 : ∀ b w, PtrRow w b [no] → Calls Tryz.prog 100 #[.slice (some ⟨b, 0, none⟩) 1 1] w fun e w' => e = .returned (.string p1) ∧ Below w.heap.size w w' := c1
  have c3 : ∀ b w, PtrRow w b [de, bo, li] → Calls Tryz.prog 100 #[.slice (some ⟨b, 0, none⟩) 3 3] w fun e w' => e = .returned (.string p3) ∧ Below w.heap.size w w' := c3
  obtain ⟨p4, y4, z4, c4⟩ := numbers_str [of, to] (by simp) (by simp; omega)
  have z4 : p4.size ≤ 22 := z4
  have c4 : ∀ b w, PtrRow w b [of, to] → Calls Tryz.prog 100 #[.slice (some ⟨b, 0, none⟩) 2 2] w fun e w' => e = .returned (.string p4) ∧ Below w.heap.size w w' := c4
  replace c4 := Lib.hid c4
  replace c1 := Lib.hid c1; replace c2 := Lib.hid c2; replace c3 := Lib.hid c3
  obtain ⟨R, hR⟩ : ∃ R, frontL no sq of de pr bo li to false = R := ⟨_, rfl⟩
  rw [hR]
  obtain ⟨hd, hhd⟩ : ∃ hd : ByteArray, ⟨#[UInt8.ofNat (176 + pr)]⟩ = hd := ⟨_, rfl⟩
  have zh : hd.size ≤ 1 := by rw [← hhd]; exact Nat.le_refl _
  have fin : bstr R = .string ((((hd ++ p1) ++ p2) ++ p3) ++ p4) := by
    rw [← hR, ← hhd]
    refine (vstr ?_).symm
    simp [frontL, y1, y2, y3, y4, putAll]
  have Fin := Lib.hid fin
  have hcell : ∀ w', HTab w' → w'.cell? ⟨0, pr, none⟩ = some (.int .u8 ((UInt8.ofNat (176 + pr)).toNat : Int)) := fun w' h => by
    rw [h.cell pr (by omega), (by decide : ∀ i, i < 3 → headsTab.getD i 0 = ((UInt8.ofNat (176 + i)).toNat : Int)) pr (by omega)]
  have hcv : ∀ w', HTab w' → (convert 85 9 (.slice (some ⟨0, pr, none⟩) 1 (6 - pr))).run Tryz.prog w' = .ok (.string ⟨#[UInt8.ofNat (176 + pr)]⟩) w' := fun w' h => head_slice Tryz.underlying85 Tryz.underlying5 Tryz.underlying9 _ _ _ _ w' (hcell w' h)
  have hsl : ∀ X, (Instr.sliceAt 153 (.pointer (some ⟨0, 0, none⟩)) (some (.int .i64 ((pr : Int)))) (some (.int .i64 (IntKind.i64.wrap ((pr : Int) + 1)))) none).run Tryz.prog X = .ok (.slice (some ⟨0, pr, none⟩) 1 (6 - pr)) X := fun X => by
    rcases (show pr = 0 ∨ pr = 1 ∨ pr = 2 by omega) with rfl | rfl | rfl
    · kernel_rfl
    · kernel_rfl
    · kernel_rfl
  obtain ⟨cp, hcp⟩ : ∃ c, 6 - pr = c := ⟨_, rfl⟩
  rw [hcp] at hsl hcv
  rw [hhd] at hcv
  clear hcp hhd
  have HT := Lib.hid hH
  clear fin hR y1 y2 y3 y4 hw hH hcell
  replace hcv := Lib.hid hcv
  replace g1 := Lib.hid g1
  go_enter Tryz.func82, Tryz.ntmps82
  go_wp2_with fail
  (with_reducible refine (g1.out _).mono ?_)
  rintro e w1 ⟨rfl, hw1⟩
  have kk2 : blk w1 (w.heap.size) = some #[.int .i64 (no : Int), .int .u64 (sq : Int), .int .i64 (of : Int), .int .i64 (de : Int), .int .i64 (pr : Int), .int .i64 (bo : Int), .int .i64 (li : Int), .int .i64 (to : Int), .string da] := (by (apply blk_to; (focus (repeat (first | (with_reducible assumption) | (with_reducible apply blk_drew) | (with_reducible apply blk_set) | ((with_reducible apply blk_other'); (first | (focus (dsimp only; assumption)) | (focus (simp; done)) | (focus (dsimp only; omega)))) | ((with_reducible apply blk_alloc_new); (first | (with_reducible rfl) | (focus (simp; done)) | (focus (simp; omega)))) | (with_reducible apply blk_alloc) | ((with_reducible apply blk_below); (with_reducible assumption))))); rfl))
  have kn2 := kn kk2
  have bw1 : Below w.heap.size w w1 := (by (repeat (first | (with_reducible assumption) | (with_reducible exact Below.refl _ _) | (with_reducible refine beld_drew ?_) | ((with_reducible refine bset' ?_ ?_); (first | (focus (dsimp only; assumption)) | (focus (simp; done)) | (focus (dsimp only; omega)))) | (with_reducible refine belt_alloc ?_) | ((with_reducible refine zeroed_below' ?_ ?_); (first | (focus (simp; done)) | (focus (dsimp only; omega)))) | (with_reducible refine bt ?_ (by assumption)))))
  have sw1 := bw1.size
  clear hw1
  go_wp2
  have n1 : ¬ (9223372036854775807 < hd.size + p1.size) := by omega
  have n2 : ¬ (9223372036854775807 < hd.size + p1.size + p2.size) := by omega
  have n3 : ¬ (9223372036854775807 < hd.size + p1.size + p2.size + p3.size) := by omega
  have KP : Hid (∀ X, Below w1.heap.size w1 X → Below w1.heap.size w1 X ∧ (∀ o, X.cell? ⟨w.heap.size, o, none⟩ = (#[.int .i64 (no : Int), .int .u64 (sq : Int), .int .i64 (of : Int), .int .i64 (de : Int), .int .i64 (pr : Int), .int .i64 (bo : Int), .int .i64 (li : Int), .int .i64 (to : Int), .string da] : Array Value)[o]?) ∧ (convert 85 9 (.slice (some ⟨0, pr, none⟩) 1 cp)).run Tryz.prog X = .ok (.string hd) X) := Lib.hid fun X hX => ⟨hX, fun o => blk_cell (blk_below hX kk2) o, hcv.out X (HT.out.on (bt bw1 hX))⟩
  go_region_held3 (fun X => Below w1.heap.size w1 X ∧ (∀ o, X.cell? ⟨w.heap.size, o, none⟩ = (#[.int .i64 (no : Int), .int .u64 (sq : Int), .int .i64 (of : Int), .int .i64 (de : Int), .int .i64 (pr : Int), .int .i64 (bo : Int), .int .i64 (li : Int), .int .i64 (to : Int), .string da] : Array Value)[o]?) ∧ (convert 85 9 (.slice (some ⟨0, pr, none⟩) 1 cp)).run Tryz.prog X = .ok (.string hd) X) ((refine KP.out _ ?_; (repeat (first | (with_reducible assumption) | (with_reducible exact Below.refl _ _) | (with_reducible refine beld_drew ?_) | ((with_reducible refine bset' ?_ ?_); (first | (focus (dsimp only; assumption)) | (focus (simp; done)) | (focus (dsimp only; omega)))) | (with_reducible refine belt_alloc ?_) | ((with_reducible refine zeroed_below' ?_ ?_); (first | (focus (simp; done)) | (focus (dsimp only; omega)))) | (with_reducible refine bt ?_ (by assumption)))))) (first | ((go_at_call 101; (with_reducible refine (c2.out _).mono ?_); rintro e wb ⟨rfl, hb2⟩)) | ((go_at_call 100; ((with_reducible refine (c1.out _ _ ?_).mono ?_); (focus ((repeat (first | (with_reducible assumption) | (with_reducible refine PtrRow.below ?_ (by assumption)) | (with_reducible refine PtrRow.drew ?_) | (refine PtrRow.new [0] [no] ?_ rfl (B := w.heap.size) (C := #[.int .i64 (no : Int), .int .u64 (sq : Int), .int .i64 (of : Int), .int .i64 (de : Int), .int .i64 (pr : Int), .int .i64 (bo : Int), .int .i64 (li : Int), .int .i64 (to : Int), .string da]) ?_ rfl ?_; (focus (first | rfl | (simp; done) | (simp; omega))); (focus (apply blk_to; (focus (repeat (first | (with_reducible assumption) | (with_reducible apply blk_drew) | (with_reducible apply blk_set) | ((with_reducible apply blk_other'); (first | (focus (dsimp only; assumption)) | (focus (simp; done)) | (focus (dsimp only; omega)))) | ((with_reducible apply blk_alloc_new); (first | (with_reducible rfl) | (focus (simp; done)) | (focus (simp; omega)))) | (with_reducible apply blk_alloc) | ((with_reducible apply blk_below); (with_reducible assumption))))); rfl)); (focus (exact fun k hk => by match k, hk with | 0, _ => rfl))) | (with_reducible refine PtrRow.alloc ?_ _))); done)); rintro e wb ⟨rfl, hb1⟩))) | ((go_at_call 100; ((with_reducible refine (c3.out _ _ ?_).mono ?_); (focus ((repeat (first | (with_reducible assumption) | (with_reducible refine PtrRow.below ?_ (by assumption)) | (with_reducible refine PtrRow.drew ?_) | (refine PtrRow.new [3, 5, 6] [de, bo, li] ?_ rfl (B := w.heap.size) (C := #[.int .i64 (no : Int), .int .u64 (sq : Int), .int .i64 (of : Int), .int .i64 (de : Int), .int .i64 (pr : Int), .int .i64 (bo : Int), .int .i64 (li : Int), .int .i64 (to : Int), .string da]) ?_ rfl ?_; (focus (first | rfl | (simp; done) | (simp; omega))); (focus (apply blk_to; (focus (repeat (first | (with_reducible assumption) | (with_reducible apply blk_drew) | (with_reducible apply blk_set) | ((with_reducible apply blk_other'); (first | (focus (dsimp only; assumption)) | (focus (simp; done)) | (focus (dsimp only; omega)))) | ((with_reducible apply blk_alloc_new); (first | (with_reducible rfl) | (focus (simp; done)) | (focus (simp; omega)))) | (with_reducible apply blk_alloc) | ((with_reducible apply blk_below); (with_reducible assumption))))); rfl)); (focus (exact fun k hk => by match k, hk with | 0, _ => rfl | 1, _ => rfl | 2, _ => rfl))) | (with_reducible refine PtrRow.alloc ?_ _))); done)); rintro e wb ⟨rfl, hb3⟩))))
  all_goals
    have kk9 : blk wb w.heap.size = some (#[.int .i64 (no : Int), .int .u64 (sq : Int), .int .i64 (of : Int), .int .i64 (de : Int), .int .i64 (pr : Int), .int .i64 (bo : Int), .int .i64 (li : Int), .int .i64 (to : Int), .string da]) := (by (apply blk_to; (focus (repeat (first | (with_reducible assumption) | (with_reducible apply blk_drew) | (with_reducible apply blk_set) | ((with_reducible apply blk_other'); (first | (focus (dsimp only; assumption)) | (focus (simp; done)) | (focus (dsimp only; omega)))) | ((with_reducible apply blk_alloc_new); (first | (with_reducible rfl) | (focus (simp; done)) | (focus (simp; omega)))) | (with_reducible apply blk_alloc) | ((with_reducible apply blk_below); (with_reducible assumption))))); rfl))
    have kB : Below w.heap.size w wb := (by (repeat (first | (with_reducible assumption) | (with_reducible exact Below.refl _ _) | (with_reducible refine beld_drew ?_) | ((with_reducible refine bset' ?_ ?_); (first | (focus (dsimp only; assumption)) | (focus (simp; done)) | (focus (dsimp only; omega)))) | (with_reducible refine belt_alloc ?_) | ((with_reducible refine zeroed_below' ?_ ?_); (first | (focus (simp; done)) | (focus (dsimp only; omega)))) | (with_reducible refine bt ?_ (by assumption)))))
    have kn9 := kn kk9
    clear kk2 kn2 KP hcv hsl
    go_wp2_with (go_at_call 99; (with_reducible refine (g1.out _).mono ?_); rintro e w3 ⟨rfl, hb9⟩; have kk3 : blk w3 w.heap.size = some (#[.int .i64 (no : Int), .int .u64 (sq : Int), .int .i64 (of : Int), .int .i64 (de : Int), .int .i64 (pr : Int), .int .i64 (bo : Int), .int .i64 (li : Int), .int .i64 (to : Int), .string da]) := blk_below hb9 kk9; have kB3 : Below w.heap.size w w3 := bt kB hb9; clear kk9 kn9; have kn3 := kn kk3)
    go_wp2_with (go_at_call 100; ((with_reducible refine (c4.out _ _ ?_).mono ?_); (focus ((repeat (first | (with_reducible assumption) | (with_reducible refine PtrRow.below ?_ (by assumption)) | (with_reducible refine PtrRow.drew ?_) | (refine PtrRow.new [2, 7] [of, to] ?_ rfl (B := w.heap.size) (C := #[.int .i64 (no : Int), .int .u64 (sq : Int), .int .i64 (of : Int), .int .i64 (de : Int), .int .i64 (pr : Int), .int .i64 (bo : Int), .int .i64 (li : Int), .int .i64 (to : Int), .string da]) ?_ rfl ?_; (focus (first | rfl | (simp; done) | (simp; omega))); (focus (apply blk_to; (focus (repeat (first | (with_reducible assumption) | (with_reducible apply blk_drew) | (with_reducible apply blk_set) | ((with_reducible apply blk_other'); (first | (focus (dsimp only; assumption)) | (focus (simp; done)) | (focus (dsimp only; omega)))) | ((with_reducible apply blk_alloc_new); (first | (with_reducible rfl) | (focus (simp; done)) | (focus (simp; omega)))) | (with_reducible apply blk_alloc) | ((with_reducible apply blk_below); (with_reducible assumption))))); rfl)); (focus (exact fun k hk => by match k, hk with | 0, _ => rfl | 1, _ => rfl))) | (with_reducible refine PtrRow.alloc ?_ _))); done)); rintro e w4 ⟨rfl, hb8⟩))
    go_ret
    exact ⟨(congrArg Ending.returned Fin.out).symm, (by (repeat (first | (with_reducible assumption) | (with_reducible exact Below.refl _ _) | (with_reducible refine beld_drew ?_) | ((with_reducible refine bset' ?_ ?_); (first | (focus (dsimp only; assumption)) | (focus (simp; done)) | (focus (dsimp only; omega)))) | (with_reducible refine belt_alloc ?_) | ((with_reducible refine zeroed_below' ?_ ?_); (first | (focus (simp; done)) | (focus (dsimp only; omega)))) | (with_reducible refine bt ?_ (by assumption)))))⟩
end Go.Proofs.YthfmkkkdjgkaoaaGreatDoor
namespace Go.Proofs.YthfmkkkdjgkaoaaGreatDoor
open Go.RowKit
theorem front_strP (no sq of de pr bo li to : Nat) (da : ByteArray) (hv : buC no sq of de pr bo li to da.size = 0) :
    ∃ f : ByteArray, f.data.toList = frontL no sq of de pr bo li to (wholeB of to da.size) ∧ f.size = frLen no sq of de pr bo li to (wholeB of to da.size) ∧ f.size ≤ 78 ∧
      (∀ w, HTab w → Calls Tryz.prog 82 #[buv no sq of de pr bo li to da] w fun e w' => e = .returned (.string f) ∧ Below w.heap.size w w') := by
  obtain ⟨v1, v2, v3, v4, v5, v6, v7, v8, v9, v10, v11, v12, v13, v14, v15⟩ := buC_nat hv
  have hda : da.size ≤ maxLen := by unfold maxLen; omega
  refine ⟨⟨(frontL no sq of de pr bo li to (wholeB of to da.size)).toArray⟩, rfl, by rw [bsize]; rfl, by rw [bsize]; exact (frLen_le _ _ _ _ _ _ _ _ _).2, fun w hH => ?_⟩
  cases hw : wholeB of to da.size
  · exact front_part no sq of de bo li to pr da hda (by omega) (by omega) (by omega) (by omega) (by omega) (by omega) (by omega) (by omega) hw w hH
  · exact front_whole no sq of de bo li to pr da hda (by omega) (by omega) (by omega) (by omega) (by omega) (by omega) (by omega) (by omega) hw w hH
theorem front_str (no sq of de pr bo li to : Nat) (da : ByteArray) (hv : buC no sq of de pr bo li to da.size = 0) :
    ∃ f : ByteArray, f.data.toList = frontL no sq of de pr bo li to (wholeB of to da.size) ∧ f.size = frLen no sq of de pr bo li to (wholeB of to da.size) ∧ f.size ≤ 78 ∧
      (∀ w, HTab w → Calls Tryz.prog 82 #[buv no sq of de pr bo li to da] w fun e w' => e = .returned (.string f) ∧ Below w.heap.size w w') ∧
      (∀ w, Calls Tryz.prog 78 #[buv no sq of de pr bo li to da] w fun e w' => e = .returned (.string f) ∧ Below w.heap.size w w') := by
  obtain ⟨v1, v2, v3, v4, v5, v6, v7, v8, v9, v10, v11, v12, v13, v14, v15⟩ := buC_nat hv
  have hda : da.size ≤ maxLen := by unfold maxLen; omega
  refine ⟨⟨(frontL no sq of de pr bo li to (wholeB of to da.size)).toArray⟩, rfl, by rw [bsize]; rfl, by rw [bsize]; exact (frLen_le _ _ _ _ _ _ _ _ _).2, fun w hH => ?_, fun w => ?_⟩
  · cases hw : wholeB of to da.size
    · exact front_part no sq of de bo li to pr da hda (by omega) (by omega) (by omega) (by omega) (by omega) (by omega) (by omega) (by omega) hw w hH
    · exact front_whole no sq of de bo li to pr da hda (by omega) (by omega) (by omega) (by omega) (by omega) (by omega) (by omega) (by omega) hw w hH
  · cases hw : wholeB of to da.size
    · exact refFront_part no sq of de pr bo li to da hda (by omega) (by omega) (by omega) (by omega) (by omega) (by omega) (by omega) (by omega) hw w
    · exact refFront_whole no sq of de pr bo li to da hda (by omega) (by omega) (by omega) (by omega) (by omega) (by omega) (by omega) (by omega) hw w
set_option maxRecDepth 100000 in
set_option maxHeartbeats 1600000 in
theorem refEncode_err (no sq of de pr bo li to : Int) (da : ByteArray) (hda : da.size ≤ maxLen) (c : Int) (hc : buC no sq of de pr bo li to da.size = c) (hc0 : c ≠ 0) (w : World) :
    Calls Tryz.prog 55 #[buv no sq of de pr bo li to da] w fun e w' => e = .returned (.tuple #[bstr [], .int .i64 c]) ∧ Below w.heap.size w w' := by
  have g1 := fun w => refCheck_any no sq of de pr bo li to da hda w
  rw [hc] at g1
  have e1 : (c != 0) = true := by simp [hc0]
  clear hc0 hc
  replace g1 := Lib.hid g1
  go_enter Tryz.func55, Tryz.ntmps55
  go_wp2_with fail
  (with_reducible refine (g1.out _).mono ?_)
  rintro e w1 ⟨rfl, hw1⟩
  have kk1 : blk w1 (w.heap.size) = some #[.int .i64 no, .int .u64 sq, .int .i64 of, .int .i64 de, .int .i64 pr, .int .i64 bo, .int .i64 li, .int .i64 to, .string da] := (by (apply blk_to; (focus (repeat (first | (with_reducible assumption) | (with_reducible apply blk_drew) | (with_reducible apply blk_set) | ((with_reducible apply blk_other'); (first | (focus (dsimp only; assumption)) | (focus (simp; done)) | (focus (dsimp only; omega)))) | ((with_reducible apply blk_alloc_new); (first | (with_reducible rfl) | (focus (simp; done)) | (focus (simp; omega)))) | (with_reducible apply blk_alloc) | ((with_reducible apply blk_below); (with_reducible assumption))))); rfl))
  have kn1 := kn kk1
  have bw1 : Below w.heap.size w w1 := (by (repeat (first | (with_reducible assumption) | (with_reducible exact Below.refl _ _) | (with_reducible refine beld_drew ?_) | ((with_reducible refine bset' ?_ ?_); (first | (focus (dsimp only; assumption)) | (focus (simp; done)) | (focus (dsimp only; omega)))) | (with_reducible refine belt_alloc ?_) | ((with_reducible refine zeroed_below' ?_ ?_); (first | (focus (simp; done)) | (focus (dsimp only; omega)))) | (with_reducible refine bt ?_ (by assumption)))))
  have sw1 := bw1.size
  clear hw1
  go_wp2
  go_ret2
  exact ⟨rfl, bw1⟩
theorem text_strR (da : ByteArray) (h : da.size ≤ 100000) : ∃ t : ByteArray, t.data.toList = putTextN da.data.toList ∧ t.size ≤ da.size + 11 ∧
    (∀ w, Calls Tryz.prog 79 #[.string da] w fun e w' => e = .returned (.string t) ∧ Below w.heap.size w w') :=
  ⟨⟨(putTextN da.data.toList).toArray⟩, rfl, by rw [bsize]; have := (putN_length da.size).2; simp [putTextN]; omega, fun w => refPutText_any da w h⟩
theorem encL_of (no sq of de pr bo li to : Nat) (da f t : ByteArray) (hf : f.data.toList = frontL no sq of de pr bo li to (wholeB of to da.size)) (ht : t.data.toList = putTextN da.data.toList) :
    sealL (f ++ t).data.toList = encL no sq of de pr bo li to da.data.toList := by
  have : (da.data.toList).length = da.size := by simp
  unfold encL; rw [this, ← hf, ← ht]; simp
set_option maxRecDepth 100000 in
set_option maxHeartbeats 1600000 in
theorem refEncode_ok (no sq of de pr bo li to : Nat) (da : ByteArray) (hv : buC no sq of de pr bo li to da.size = 0) (w : World) :
    Calls Tryz.prog 55 #[buv no sq of de pr bo li to da] w fun e w' => e = .returned (.tuple #[bstr (encL no sq of de pr bo li to da.data.toList), .int .i64 0]) ∧ Below w.heap.size w w' := by
  obtain ⟨v1, v2, v3, v4, v5, v6, v7, v8, v9, v10, v11, v12, v13, v14, v15⟩ := buC_nat hv
  obtain ⟨f, f1, f2, f3, _, cf⟩ := front_str no sq of de pr bo li to da hv
  obtain ⟨t, t1, t2, ct⟩ := text_strR da (by omega)
  have g1 := fun w => refCheck_any no sq of de pr bo li to da (by unfold maxLen; omega) w
  rw [hv] at g1
  have he := encL_of no sq of de pr bo li to da f t f1 t1
  have cs := fun w => refCrc32_any (f ++ t) (by rw [ByteArray.size_append]; omega) w
  have cq := fun w => refFour_any (crcN (f ++ t).data.toList) (crcN_lt _) w
  obtain ⟨q, hq⟩ : ∃ q : ByteArray, q.data.toList = four (crcN (f ++ t).data.toList) := ⟨⟨(four (crcN (f ++ t).data.toList)).toArray⟩, rfl⟩
  have hqs : q.size ≤ 4 := by have := congrArg List.length hq; simp [four_len] at this; omega
  rw [← hq] at cq
  have fin : Value.string (f ++ t ++ q) = bstr (encL no sq of de pr bo li to da.data.toList) := by rw [← he]; exact vstr (by unfold sealL; rw [← hq]; simp)
  have hfx : ∀ l : ByteArray, bstr l.data.toList = .string l := fun l => rfl
  rw [hfx q] at cq
  obtain ⟨c, hc⟩ : ∃ c, crcN (f ++ t).data.toList = c := ⟨_, rfl⟩
  rw [hc] at cs cq
  have Fin := Lib.hid fin
  have n1 : ¬ (9223372036854775807 < f.size + t.size) := by omega
  have n2 : ¬ (9223372036854775807 < f.size + t.size + q.size) := by omega
  replace g1 := Lib.hid g1; replace cf := Lib.hid cf; replace ct := Lib.hid ct; replace cs := Lib.hid cs; replace cq := Lib.hid cq
  clear he f1 f2 t1 hq hv v1 v2 v3 v4 v5 v6 v7 v8 v9 v10 v11 v12 v13 v14 v15 fin hfx hc
  go_enter Tryz.func55, Tryz.ntmps55
  go_wp2_with fail
  (with_reducible refine (g1.out _).mono ?_)
  rintro e w1 ⟨rfl, hw1⟩
  have kk2 : blk w1 (w.heap.size) = some #[.int .i64 (no : Int), .int .u64 (sq : Int), .int .i64 (of : Int), .int .i64 (de : Int), .int .i64 (pr : Int), .int .i64 (bo : Int), .int .i64 (li : Int), .int .i64 (to : Int), .string da] := (by (apply blk_to; (focus (repeat (first | (with_reducible assumption) | (with_reducible apply blk_drew) | (with_reducible apply blk_set) | ((with_reducible apply blk_other'); (first | (focus (dsimp only; assumption)) | (focus (simp; done)) | (focus (dsimp only; omega)))) | ((with_reducible apply blk_alloc_new); (first | (with_reducible rfl) | (focus (simp; done)) | (focus (simp; omega)))) | (with_reducible apply blk_alloc) | ((with_reducible apply blk_below); (with_reducible assumption))))); rfl))
  have kn2 := kn kk2
  have bw1 : Below w.heap.size w w1 := (by (repeat (first | (with_reducible assumption) | (with_reducible exact Below.refl _ _) | (with_reducible refine beld_drew ?_) | ((with_reducible refine bset' ?_ ?_); (first | (focus (dsimp only; assumption)) | (focus (simp; done)) | (focus (dsimp only; omega)))) | (with_reducible refine belt_alloc ?_) | ((with_reducible refine zeroed_below' ?_ ?_); (first | (focus (simp; done)) | (focus (dsimp only; omega)))) | (with_reducible refine bt ?_ (by assumption)))))
  have sw1 := bw1.size
  clear hw1
  go_wp2_with fail
  refine wp_region_in (by kernel_rfl) (by kernel_rfl) ?_
  intro W0_3 hE_3 hN_3
  have bW0_3 : Below w.heap.size w W0_3 := (by rw [hE_3.out]; (repeat (first | (with_reducible assumption) | (with_reducible exact Below.refl _ _) | (with_reducible refine beld_drew ?_) | ((with_reducible refine bset' ?_ ?_); (first | (focus (dsimp only; assumption)) | (focus (simp; done)) | (focus (dsimp only; omega)))) | (with_reducible refine belt_alloc ?_) | ((with_reducible refine zeroed_below' ?_ ?_); (first | (focus (simp; done)) | (focus (dsimp only; omega)))) | (with_reducible refine bt ?_ (by assumption)))))
  have kk4 : blk W0_3 (w.heap.size) = some #[.int .i64 (no : Int), .int .u64 (sq : Int), .int .i64 (of : Int), .int .i64 (de : Int), .int .i64 (pr : Int), .int .i64 (bo : Int), .int .i64 (li : Int), .int .i64 (to : Int), .string da] := (by rw [hE_3.out]; (apply blk_to; (focus (repeat (first | (with_reducible assumption) | (with_reducible apply blk_drew) | (with_reducible apply blk_set) | ((with_reducible apply blk_other'); (first | (focus (dsimp only; assumption)) | (focus (simp; done)) | (focus (dsimp only; omega)))) | ((with_reducible apply blk_alloc_new); (first | (with_reducible rfl) | (focus (simp; done)) | (focus (simp; omega)))) | (with_reducible apply blk_alloc) | ((with_reducible apply blk_below); (with_reducible assumption))))); rfl))
  clear kk2 kn2
  have kn4 := calm_kn kk4
  clear hE_3
  repeat (go_big_quiet_step ((first | (go_at_call 78; (with_reducible refine Class.go _ (cf.out _))) | (go_at_call 79; (with_reducible refine Class.go _ (ct.out _))))))
  refine wpQuiet_nil ?_
  rintro _ ⟨x_3, rfl⟩
  have hx_3 : Calm W0_3 x_3.wd := x_3.ok
  have bw2 : Below w.heap.size w x_3.wd := bt bW0_3 hx_3
  clear kn4; replace kk4 := blk_below hx_3 kk4; have kn4 := kn kk4
  clear hx_3 bW0_3 hN_3 bw1
  generalize x_3.wd = w2 at *
  have sw2 := bw2.size
  go_wp2_with (first | (go_at_call 81; (with_reducible refine (cs.out _).mono ?_); rintro e wx ⟨rfl, rfl⟩) | (go_at_call 80; (with_reducible refine (cq.out _).mono ?_); rintro e w4 ⟨rfl, hb4⟩))
  go_ret2
  exact ⟨congrArg (fun v => Ending.returned (.tuple #[v, .int .i64 0])) Fin.out, bt bw2 hb4⟩
end Go.Proofs.YthfmkkkdjgkaoaaGreatDoor
namespace Go.Proofs.YthfmkkkdjgkaoaaGreatDoor
open Go.RowKit
theorem size_one (n : Nat) (h : n ≤ 1000) : ∀ w, Calls Tryz.prog 83 #[.int .u64 (n : Int)] w fun e w' => e = .returned (.int .i64 ((putN n).length : Nat)) ∧ Below w.heap.size w w' := fun w => numSize_any n (by omega) w
set_option maxRecDepth 100000 in
set_option maxHeartbeats 1600000 in
theorem size_err (no sq of de pr bo li to : Int) (da : ByteArray) (hda : da.size ≤ maxLen) (c : Int) (hc : buC no sq of de pr bo li to da.size = c) (hc0 : c ≠ 0) (w : World) :
    Calls Tryz.prog 56 #[buv no sq of de pr bo li to da] w fun e w' => e = .returned (.tuple #[.int .i64 0, .int .i64 c]) ∧ Below w.heap.size w w' := by
  have g1 := fun w => check_any no sq of de pr bo li to da hda w
  rw [hc] at g1
  have e1 : (c != 0) = true := by simp [hc0]
  clear hc0 hc
  replace g1 := Lib.hid g1
  go_enter Tryz.func56, Tryz.ntmps56
  go_wp2_with fail
  (with_reducible refine (g1.out _).mono ?_)
  rintro e w1 ⟨rfl, hw1⟩
  have kk1 : blk w1 (w.heap.size) = some #[.int .i64 no, .int .u64 sq, .int .i64 of, .int .i64 de, .int .i64 pr, .int .i64 bo, .int .i64 li, .int .i64 to, .string da] := (by (apply blk_to; (focus (repeat (first | (with_reducible assumption) | (with_reducible apply blk_drew) | (with_reducible apply blk_set) | ((with_reducible apply blk_other'); (first | (focus (dsimp only; assumption)) | (focus (simp; done)) | (focus (dsimp only; omega)))) | ((with_reducible apply blk_alloc_new); (first | (with_reducible rfl) | (focus (simp; done)) | (focus (simp; omega)))) | (with_reducible apply blk_alloc) | ((with_reducible apply blk_below); (with_reducible assumption))))); rfl))
  have kn1 := kn kk1
  have bw1 : Below w.heap.size w w1 := (by (repeat (first | (with_reducible assumption) | (with_reducible exact Below.refl _ _) | (with_reducible refine beld_drew ?_) | ((with_reducible refine bset' ?_ ?_); (first | (focus (dsimp only; assumption)) | (focus (simp; done)) | (focus (dsimp only; omega)))) | (with_reducible refine belt_alloc ?_) | ((with_reducible refine zeroed_below' ?_ ?_); (first | (focus (simp; done)) | (focus (dsimp only; omega)))) | (with_reducible refine bt ?_ (by assumption)))))
  have sw1 := bw1.size
  clear hw1
  go_wp2
  go_ret2
  exact ⟨rfl, bw1⟩
set_option maxRecDepth 100000 in
set_option maxHeartbeats 1600000 in
theorem refSizeB_err (no sq of de pr bo li to : Int) (da : ByteArray) (hda : da.size ≤ maxLen) (c : Int) (hc : buC no sq of de pr bo li to da.size = c) (hc0 : c ≠ 0) (w : World) :
    Calls Tryz.prog 24 #[buv no sq of de pr bo li to da] w fun e w' => e = .returned (.tuple #[.int .i64 0, .int .i64 c]) ∧ Below w.heap.size w w' := by
  have g1 : ∀ w, Calls Tryz.prog 55 #[buv no sq of de pr bo li to da] w fun e w' => e = .returned (.tuple #[.string ⟨#[]⟩, .int .i64 c]) ∧ Below w.heap.size w w' := fun w => refEncode_err no sq of de pr bo li to da hda c hc hc0 w
  replace g1 := Lib.hid g1
  go_enter Tryz.func24, Tryz.ntmps24
  go_wp2_with fail
  (with_reducible refine (g1.out _).mono ?_)
  rintro e w1 ⟨rfl, hw1⟩
  have bw1 : Below w.heap.size w w1 := (by (repeat (first | (with_reducible assumption) | (with_reducible exact Below.refl _ _) | (with_reducible refine beld_drew ?_) | ((with_reducible refine bset' ?_ ?_); (first | (focus (dsimp only; assumption)) | (focus (simp; done)) | (focus (dsimp only; omega)))) | (with_reducible refine belt_alloc ?_) | ((with_reducible refine zeroed_below' ?_ ?_); (first | (focus (simp; done)) | (focus (dsimp only; omega)))) | (with_reducible refine bt ?_ (by assumption)))))
  have sw1 := bw1.size
  clear hw1
  go_wp2
  go_ret2
  exact ⟨rfl, bw1⟩
set_option maxRecDepth 100000 in
set_option maxHeartbeats 1600000 in
theorem size_ok (no sq of de pr bo li to : Nat) (da : ByteArray) (hv : buC no sq of de pr bo li to da.size = 0) (w : World) (hH : HTab w) :
    Calls Tryz.prog 56 #[buv no sq of de pr bo li to da] w fun e w' => e = .returned (.tuple #[.int .i64 (szN (frLen no sq of de pr bo li to (wholeB of to da.size)) da.size : Nat), .int .i64 0]) ∧ Below w.heap.size w w' := by
  obtain ⟨v1, v2, v3, v4, v5, v6, v7, v8, v9, v10, v11, v12, v13, v14, v15⟩ := buC_nat hv
  obtain ⟨f, f1, f2, f3, cf⟩ := front_strP no sq of de pr bo li to da hv
  have ct := size_one da.size v14
  have g1 := fun w => check_any no sq of de pr bo li to da (by unfold maxLen; omega) w
  rw [hv] at g1
  rw [← f2]
  have hp := putN_length da.size
  obtain ⟨s, hs⟩ : ∃ s, (putN da.size).length = s := ⟨_, rfl⟩
  have fin : szN f.size da.size = f.size + s + da.size + 4 := by unfold szN; rw [hs]
  rw [fin]
  rw [hs] at ct hp
  obtain ⟨hp1, hp2⟩ := hp
  have q1 : IntKind.u64.wrap (da.size : Int) = (da.size : Int) := IntWalk.u64_in _ (by omega)
  have q2 : IntKind.i64.wrap ((f.size : Int) + (s : Int)) = (f.size : Int) + (s : Int) := IntWalk.i64_in _ (by omega)
  have q3 : IntKind.i64.wrap ((f.size : Int) + (s : Int) + (da.size : Int)) = (f.size : Int) + (s : Int) + (da.size : Int) := IntWalk.i64_in _ (by omega)
  have q4 : IntKind.i64.wrap ((f.size : Int) + (s : Int) + (da.size : Int) + 4) = (f.size : Int) + (s : Int) + (da.size : Int) + 4 := IntWalk.i64_in _ (by omega)
  replace g1 := Lib.hid g1; replace cf := Lib.hid cf; replace ct := Lib.hid ct
  have HT := Lib.hid hH
  clear fin f1 f2 hs hv hH v1 v2 v3 v4 v5 v6 v7 v8 v9 v10 v11 v12 v13 v15
  go_enter Tryz.func56, Tryz.ntmps56
  go_wp2_with fail
  (with_reducible refine (g1.out _).mono ?_)
  rintro e w1 ⟨rfl, hw1⟩
  have kk2 : blk w1 (w.heap.size) = some #[.int .i64 (no : Int), .int .u64 (sq : Int), .int .i64 (of : Int), .int .i64 (de : Int), .int .i64 (pr : Int), .int .i64 (bo : Int), .int .i64 (li : Int), .int .i64 (to : Int), .string da] := (by (apply blk_to; (focus (repeat (first | (with_reducible assumption) | (with_reducible apply blk_drew) | (with_reducible apply blk_set) | ((with_reducible apply blk_other'); (first | (focus (dsimp only; assumption)) | (focus (simp; done)) | (focus (dsimp only; omega)))) | ((with_reducible apply blk_alloc_new); (first | (with_reducible rfl) | (focus (simp; done)) | (focus (simp; omega)))) | (with_reducible apply blk_alloc) | ((with_reducible apply blk_below); (with_reducible assumption))))); rfl))
  have kn2 := kn kk2
  have bw1 : Below w.heap.size w w1 := (by (repeat (first | (with_reducible assumption) | (with_reducible exact Below.refl _ _) | (with_reducible refine beld_drew ?_) | ((with_reducible refine bset' ?_ ?_); (first | (focus (dsimp only; assumption)) | (focus (simp; done)) | (focus (dsimp only; omega)))) | (with_reducible refine belt_alloc ?_) | ((with_reducible refine zeroed_below' ?_ ?_); (first | (focus (simp; done)) | (focus (dsimp only; omega)))) | (with_reducible refine bt ?_ (by assumption)))))
  have sw1 := bw1.size
  clear hw1
  go_wp2_with fail
  refine wp_region_in (by kernel_rfl) (by kernel_rfl) ?_
  intro W0_3 hE_3 hN_3
  have bW0_3 : Below w.heap.size w W0_3 := (by rw [hE_3.out]; (repeat (first | (with_reducible assumption) | (with_reducible exact Below.refl _ _) | (with_reducible refine beld_drew ?_) | ((with_reducible refine bset' ?_ ?_); (first | (focus (dsimp only; assumption)) | (focus (simp; done)) | (focus (dsimp only; omega)))) | (with_reducible refine belt_alloc ?_) | ((with_reducible refine zeroed_below' ?_ ?_); (first | (focus (simp; done)) | (focus (dsimp only; omega)))) | (with_reducible refine bt ?_ (by assumption)))))
  have kk4 : blk W0_3 (w.heap.size) = some #[.int .i64 (no : Int), .int .u64 (sq : Int), .int .i64 (of : Int), .int .i64 (de : Int), .int .i64 (pr : Int), .int .i64 (bo : Int), .int .i64 (li : Int), .int .i64 (to : Int), .string da] := (by rw [hE_3.out]; (apply blk_to; (focus (repeat (first | (with_reducible assumption) | (with_reducible apply blk_drew) | (with_reducible apply blk_set) | ((with_reducible apply blk_other'); (first | (focus (dsimp only; assumption)) | (focus (simp; done)) | (focus (dsimp only; omega)))) | ((with_reducible apply blk_alloc_new); (first | (with_reducible rfl) | (focus (simp; done)) | (focus (simp; omega)))) | (with_reducible apply blk_alloc) | ((with_reducible apply blk_below); (with_reducible assumption))))); rfl))
  clear kk2 kn2
  have kn4 := calm_kn kk4
  clear hE_3
  repeat (go_big_quiet_step ((first | (go_at_call 82; (with_reducible refine Class.go _ (cf.out _ (HT.out.on (bt (by assumption) (Class.ok _)))))) | (go_at_call 83; (with_reducible refine Class.go _ (ct.out _))))))
  refine wpQuiet_nil ?_
  rintro _ ⟨x_3, rfl⟩
  have hx_3 : Calm W0_3 x_3.wd := x_3.ok
  have bw2 : Below w.heap.size w x_3.wd := bt bW0_3 hx_3
  clear kn4; replace kk4 := blk_below hx_3 kk4; have kn4 := kn kk4
  clear hx_3 bW0_3 hN_3 bw1
  generalize x_3.wd = w2 at *
  have sw2 := bw2.size
  go_wp2
  go_ret2
  exact ⟨ret_2 (by push_cast; rfl) rfl, bw2⟩
set_option maxRecDepth 100000 in
set_option maxHeartbeats 1600000 in
theorem refSizeB_ok (no sq of de pr bo li to : Nat) (da : ByteArray) (hv : buC no sq of de pr bo li to da.size = 0) (w : World) :
    Calls Tryz.prog 24 #[buv no sq of de pr bo li to da] w fun e w' => e = .returned (.tuple #[.int .i64 (szN (frLen no sq of de pr bo li to (wholeB of to da.size)) da.size : Nat), .int .i64 0]) ∧ Below w.heap.size w w' := by
  obtain ⟨v1, v2, v3, v4, v5, v6, v7, v8, v9, v10, v11, v12, v13, v14, v15⟩ := buC_nat hv
  have g1 := fun w => refEncode_ok no sq of de pr bo li to da hv w
  have hl := encL_len no sq of de pr bo li to da.data.toList
  rw [show (da.data.toList).length = da.size by simp] at hl
  obtain ⟨q, hq⟩ : ∃ q : ByteArray, q = ⟨(encL no sq of de pr bo li to da.data.toList).toArray⟩ := ⟨_, rfl⟩
  have hqs : q.size = szN (frLen no sq of de pr bo li to (wholeB of to da.size)) da.size := by rw [hq, bsize, hl]
  have hqb : q.size ≤ 2000 := by
    rw [hqs]; unfold szN
    have h1 := frLen_le no sq of de pr bo li to (wholeB of to da.size)
    have h2 := putN_length da.size
    omega
  have g2 : ∀ w, Calls Tryz.prog 55 #[buv no sq of de pr bo li to da] w fun e w' => e = .returned (.tuple #[.string q, .int .i64 0]) ∧ Below w.heap.size w w' := fun w => by rw [hq]; exact g1 w
  rw [← hqs]
  replace g2 := Lib.hid g2
  clear g1 hl hq hqs hv
  go_enter Tryz.func24, Tryz.ntmps24
  go_wp2_with fail
  (with_reducible refine (g2.out _).mono ?_)
  rintro e w1 ⟨rfl, hw1⟩
  have bw1 : Below w.heap.size w w1 := (by (repeat (first | (with_reducible assumption) | (with_reducible exact Below.refl _ _) | (with_reducible refine beld_drew ?_) | ((with_reducible refine bset' ?_ ?_); (first | (focus (dsimp only; assumption)) | (focus (simp; done)) | (focus (dsimp only; omega)))) | (with_reducible refine belt_alloc ?_) | ((with_reducible refine zeroed_below' ?_ ?_); (first | (focus (simp; done)) | (focus (dsimp only; omega)))) | (with_reducible refine bt ?_ (by assumption)))))
  have sw1 := bw1.size
  clear hw1
  go_wp2
  go_ret2
  exact ⟨rfl, bw1⟩
def sizeC (no sq of de pr bo li to n : Int) : Int × Int :=
  if buC no sq of de pr bo li to n = 0 then ((szN (frLen no.toNat sq.toNat of.toNat de.toNat pr.toNat bo.toNat li.toNat to.toNat (wholeB of to n.toNat)) n.toNat : Nat), 0) else (0, buC no sq of de pr bo li to n)
theorem nats_of {no sq of de pr bo li to n : Int} (h : buC no sq of de pr bo li to n = 0) (hsq : 0 ≤ sq) :
    ∃ no' sq' of' de' pr' bo' li' to' : Nat, no = no' ∧ sq = sq' ∧ of = of' ∧ de = de' ∧ pr = pr' ∧ bo = bo' ∧ li = li' ∧ to = to' := by
  obtain ⟨⟨a1, a2, a3, a4, a5⟩, ⟨b1, b2, b3, b4, b5, b6, b7, b8, b9, b10⟩, c1, c2, c3⟩ := buC_ok h
  exact ⟨no.toNat, sq.toNat, of.toNat, de.toNat, pr.toNat, bo.toNat, li.toNat, to.toNat, by omega, by omega, by omega, by omega, by omega, by omega, by omega, by omega⟩
theorem sizeB_any (no sq of de pr bo li to : Int) (da : ByteArray) (hda : da.size ≤ maxLen) (hsq : 0 ≤ sq) (w : World) (hH : HTab w) :
    Calls Tryz.prog 56 #[buv no sq of de pr bo li to da] w fun e w' => e = .returned (.tuple #[.int .i64 (sizeC no sq of de pr bo li to da.size).1, .int .i64 (sizeC no sq of de pr bo li to da.size).2]) ∧ Below w.heap.size w w' := by
  unfold sizeC
  by_cases h : buC no sq of de pr bo li to da.size = 0
  · rw [if_pos h]
    obtain ⟨no, sq, of, de, pr, bo, li, to, rfl, rfl, rfl, rfl, rfl, rfl, rfl, rfl⟩ := nats_of h hsq
    exact size_ok no sq of de pr bo li to da h w hH
  · rw [if_neg h]; exact size_err no sq of de pr bo li to da hda _ rfl h w
theorem refSizeB_any (no sq of de pr bo li to : Int) (da : ByteArray) (hda : da.size ≤ maxLen) (hsq : 0 ≤ sq) (w : World) :
    Calls Tryz.prog 24 #[buv no sq of de pr bo li to da] w fun e w' => e = .returned (.tuple #[.int .i64 (sizeC no sq of de pr bo li to da.size).1, .int .i64 (sizeC no sq of de pr bo li to da.size).2]) ∧ Below w.heap.size w w' := by
  unfold sizeC
  by_cases h : buC no sq of de pr bo li to da.size = 0
  · rw [if_pos h]
    obtain ⟨no, sq, of, de, pr, bo, li, to, rfl, rfl, rfl, rfl, rfl, rfl, rfl, rfl⟩ := nats_of h hsq
    exact refSizeB_ok no sq of de pr bo li to da h w
  · rw [if_neg h]; exact refSizeB_err no sq of de pr bo li to da hda _ rfl h w
end Go.Proofs.YthfmkkkdjgkaoaaGreatDoor
