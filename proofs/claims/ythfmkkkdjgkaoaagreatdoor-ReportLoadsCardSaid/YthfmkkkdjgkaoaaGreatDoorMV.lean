/- Parts of a proof, printed by a program of mine out of my texts: FrBuild, RpRow, RpCat. -/
import Derived.Lib.FrozenHead2
import Derived.Lib.OthersKept
import Derived.Lib.ItoaLen
import Derived.Deep.RegionHeld3
import Derived.Test.YthfmkkkdjgkaoaaGreatDoorMC
import Derived.Test.YthfmkkkdjgkaoaaGreatDoorMK
import Derived.Test.YthfmkkkdjgkaoaaGreatDoorMP
import Derived.Test.YthfmkkkdjgkaoaaGreatDoorMSH
import Derived.Test.YthfmkkkdjgkaoaaGreatDoorMT
set_option linter.unusedSimpArgs false
set_option linter.unusedVariables false
namespace Go.Proofs.YthfmkkkdjgkaoaaGreatDoor
open Go.RowKit
set_option maxRecDepth 100000 in
set_option maxHeartbeats 800000 in
theorem ccheck_fresh (b : Nat) (w : World) (h0 : w.cell? ⟨b, 0, none⟩ = some (.pointer none)) (hsh : w.shape? b = some (87, 2)) (hf : w.frozen? ⟨b, 0, none⟩ = false) :
    Calls Tryz.prog 92 #[.pointer (some ⟨b, 0, none⟩)] w fun e w' => e = .returned (.tuple #[]) ∧ w.setCell ⟨b, 0, none⟩ (.pointer (some ⟨b, 0, none⟩)) = w' := by
  obtain ⟨j, hj, hjs⟩ := Option.map_eq_some_iff.1 (show (Tryz.prog.info? 87).map (·.size) = some 2 by kernel_rfl)
  have hl : liesAt Tryz.prog Tryz.prog.depth 87 (2 / Tryz.prog.cellsOf 87) 0 87 1 = true := by kernel_rfl
  go_enter Tryz.func92, Tryz.ntmps92
  go_wp2
  rw [Lib.run_to_unsafe w ⟨b, 0, none⟩ Tryz.underlying84 Tryz.underlying170 hj (by rw [hjs]; decide) hsh (Nat.zero_lt_succ 1)]
  simp only [Result.andThen]
  rw [Oper.upon_value]
  go_wp2
  rw [run_callFunc_extern Tryz.func116 (by kernel_rfl) (by kernel_rfl) (by kernel_rfl) (e := Extern.AbiNoEscape.same) (by kernel_rfl)]
  rw [Lib.run_noEscape]
  simp only [Result.andThen]
  rw [Oper.upon_value]
  go_wp2
  rw [Lib.run_from_unsafe w ⟨b, 0, none⟩ Tryz.underlying170 Tryz.underlying84 hj hsh hl]
  simp only [Result.andThen]
  rw [Oper.upon_value]
  go_wp2
  go_end0
  exact ⟨rfl, rfl⟩
set_option maxRecDepth 100000 in
set_option maxHeartbeats 800000 in
theorem ccheck_used (b : Nat) (w : World) (h0 : w.cell? ⟨b, 0, none⟩ = some (.pointer (some ⟨b, 0, none⟩))) :
    Calls Tryz.prog 92 #[.pointer (some ⟨b, 0, none⟩)] w fun e w' => e = .returned (.tuple #[]) ∧ w = w' := by
  obtain ⟨j, hj, _⟩ := Option.map_eq_some_iff.1 (show (Tryz.prog.info? 87).map (·.size) = some 2 by kernel_rfl)
  go_enter Tryz.func92, Tryz.ntmps92
  go_wp2
  rw [Lib.run_neq_ptr_same w _ Tryz.underlying84 hj]
  go_wp2
  go_end0
  exact ⟨rfl, rfl⟩
abbrev IsB (B b : Nat) (bs : List Value) (w : World) : Prop := Lib.IsBuilderF 87 5 B b bs w
theorem ccheck_any (B b : Nat) (bs : List Value) (w : World) (h : IsB B b bs w) :
    Calls Tryz.prog 92 #[.pointer (some ⟨b, 0, none⟩)] w fun e w' => e = .returned (.tuple #[]) ∧ (Lib.BuilderAtF 87 5 B b (.pointer (some ⟨b, 0, none⟩)) bs w' ∧ Below B w w' ∧ Lib.OthersKept 5 (some b) w w') := by
  rcases h with h | h
  · refine (ccheck_fresh b w h.cell0 h.shape h.frozen0).mono ?_
    rintro e w' ⟨rfl, rfl⟩
    exact ⟨rfl, h.used _, (Below.refl B w).setCell (p := ⟨b, 0, none⟩) h.1 _, (Lib.OthersKept.refl _ _ w).setCell ⟨b, 0, none⟩ rfl _⟩
  · refine (ccheck_used b w h.cell0).mono ?_
    rintro e w' ⟨rfl, rfl⟩
    exact ⟨rfl, h, Below.refl B _, Lib.OthersKept.refl _ _ _⟩
set_option maxHeartbeats 2000000 in
set_option maxRecDepth 100000 in
theorem wstring_any (B b : Nat) (bs : List Value) (s : ByteArray) (w : World) (h : IsB B b bs w) (hlen : bs.length + s.size ≤ 140737488355328) (hBw : B ≤ w.heap.size) :
    Calls Tryz.prog 68 #[.pointer (some ⟨b, 0, none⟩), .string s] w fun e w' => e = .returned (.tuple #[.int .i64 s.size, .nilIface]) ∧ (IsB B b (bs ++ Lib.strCells s) w' ∧ Below B w w' ∧ Lib.OthersKept 5 (some b) w w') := by
  obtain ⟨i0, hi, hz0, hz1, hz2⟩ := info_parts Tryz.infoU8
  have g1 := Lib.hid (ccheck_any B b bs w h)
  have Hi := Lib.hid hi; clear hi h
  go_enter Tryz.func68, Tryz.ntmps68
  go_wp2_with fail
  (with_reducible refine g1.out.mono ?_)
  rintro e w1 ⟨rfl, h1, hb1, hk1⟩
  obtain ⟨hB, v, hbk, hown, hne⟩ := h1
  have c0 : w1.cell? ⟨b, 0, none⟩ = some (.pointer (some ⟨b, 0, none⟩)) := by rw [Lib.cell_of_heap hbk]; rfl
  have c1 : w1.cell? ⟨b, 1, none⟩ = some v := by rw [Lib.cell_of_heap hbk]; rfl
  go_wp2_with (at_builtin; refine Lib.wpList_append_own_stringF _ rfl _ _ 85 9 rfl B 5 i0 Tryz.underlying85 Tryz.underlying9 Hi.out hz0 hz1 hz2 _ _ _ rfl hown s rfl ?c3 ?c4 ?c5 ?_)
  case c3 => unfold maxLen; omega
  case c4 => omega
  case c5 => have := hb1.size; omega
  intro v' w2 hown' hgrow _
  have hlt : b < w1.heap.size := by
    rcases Nat.lt_or_ge b w1.heap.size with h' | h'
    · exact h'
    · simp [Array.getElem?_eq_none h'] at hbk
  have hb2 : w2.heap[b]? = some (.cells #[.pointer (some ⟨b, 0, none⟩), v] 87 (0, 0)) := by
    rw [hgrow.block b hlt (fun e => hne e.symm)]
    exact hbk
  have d0 : w2.cell? ⟨b, 0, none⟩ = some (.pointer (some ⟨b, 0, none⟩)) := by rw [Lib.cell_of_heap hb2]; rfl
  have d1 : w2.cell? ⟨b, 1, none⟩ = some v := by rw [Lib.cell_of_heap hb2]; rfl
  have f1 : w2.frozen? ⟨b, 1, none⟩ = false := Lib.frozen_of_heap hb2 1
  obtain ⟨ao, n', cap, rfl⟩ : ∃ ao n' cap, v' = .slice ao n' cap := by
    rcases hown'.2 with ⟨hv, _⟩ | ⟨g, cap, cur, fz, hv, _⟩
    · exact ⟨_, _, _, hv⟩
    · exact ⟨_, _, _, hv⟩
  go_wp2
  go_ret2
  refine ⟨rfl, .inr ?_, ?_, (hk1.grown hgrow (Lib.ownsRowF_kind hown)).setCell ⟨b, 1, none⟩ rfl _⟩
  · exact Lib.BuilderAtF.put (T := 87) (e := 5) hB hb2 (bs' := bs ++ Lib.strCells s) (by simpa [Lib.strCells_length] using hown') (by decide)
  · exact (hb1.grown hgrow (by have := hb1.size; omega) (fun k hk => (hown.lt k hk).1)).setCell (p := ⟨b, 1, none⟩) hB _
set_option maxHeartbeats 2000000 in
set_option maxRecDepth 100000 in
theorem wbyte_any (B b : Nat) (bs : List Value) (c : Int) (w : World) (h : IsB B b bs w) (hlen : bs.length + 1 ≤ 140737488355328) (hBw : B ≤ w.heap.size) :
    Calls Tryz.prog 70 #[.pointer (some ⟨b, 0, none⟩), .int .u8 c] w fun e w' => e = .returned .nilIface ∧ (IsB B b (bs ++ [.int .u8 c]) w' ∧ Below B w w' ∧ Lib.OthersKept 5 (some b) w w') := by
  obtain ⟨i0, hi, hz0, hz1, hz2⟩ := info_parts Tryz.infoU8
  have g1 := Lib.hid (ccheck_any B b bs w h)
  clear h
  go_enter Tryz.func70, Tryz.ntmps70
  go_wp2_with fail
  (with_reducible refine g1.out.mono ?_)
  rintro e w1 ⟨rfl, h1, hb1, hk1⟩
  obtain ⟨hB, v, hbk, hown, hne⟩ := h1
  have c0 : w1.cell? ⟨b, 0, none⟩ = some (.pointer (some ⟨b, 0, none⟩)) := by rw [Lib.cell_of_heap hbk]; rfl
  have c1 : w1.cell? ⟨b, 1, none⟩ = some v := by rw [Lib.cell_of_heap hbk]; rfl
  go_wp2_with (at_builtin; refine wpList_append_ownF _ rfl _ _ 85 rfl B 5 i0 (.int .u8 0) 1 1 Tryz.underlying85 hi hz0 hz1 hz2 rfl (by decide) _ _ _ rfl (hown.alloc _) ⟨w1.heap.size, 0, none⟩ 1 1 [.int .u8 c] rfl rfl ?c1 ?c2 ?c3 ?c4 ?c5 ?_)
  case c1 =>
    intro j u hj
    match j, hj with
    | 0, hj => simp at hj; subst hj; simp [Addr.add]
  case c2 => intro u hu; simp at hu; subst hu; rfl
  case c3 => unfold maxLen; omega
  case c4 => omega
  case c5 => have := hb1.size; simp; omega
  intro v' w2 hown' hgrow _
  have hlt : b < w1.heap.size := by
    rcases Nat.lt_or_ge b w1.heap.size with h' | h'
    · exact h'
    · simp [Array.getElem?_eq_none h'] at hbk
  have hb2 : w2.heap[b]? = some (.cells #[.pointer (some ⟨b, 0, none⟩), v] 87 (0, 0)) := by
    rw [hgrow.block b (by simp; omega) (fun e => hne e.symm), Lib.alloc_old w1 _ b hlt]
    exact hbk
  have d0 : w2.cell? ⟨b, 0, none⟩ = some (.pointer (some ⟨b, 0, none⟩)) := by rw [Lib.cell_of_heap hb2]; rfl
  have d1 : w2.cell? ⟨b, 1, none⟩ = some v := by rw [Lib.cell_of_heap hb2]; rfl
  have f1 : w2.frozen? ⟨b, 1, none⟩ = false := Lib.frozen_of_heap hb2 1
  obtain ⟨g, cap, rfl⟩ : ∃ g cap, v' = .slice (some ⟨g, 0, none⟩) (bs.length + 1) cap := by
    rcases hown'.2 with ⟨_, h0⟩ | ⟨g, cap, cur, fz, hv, _⟩
    · omega
    · exact ⟨g, cap, hv⟩
  go_wp2
  go_ret
  refine ⟨rfl, .inr ?_, ?_, ((hk1.alloc _).grown hgrow (Lib.ownsRowF_kind (hown.alloc _))).setCell ⟨b, 1, none⟩ rfl _⟩
  · exact Lib.BuilderAtF.put (T := 87) (e := 5) hB hb2 (bs' := bs ++ [.int .u8 c]) (by simpa using hown') (by decide)
  · exact ((hb1.alloc (by have := hb1.size; omega) _).grown hgrow (by have := hb1.size; simp; omega) (fun k hk => (hown.lt k hk).1)).setCell (p := ⟨b, 1, none⟩) hB _
end Go.Proofs.YthfmkkkdjgkaoaaGreatDoor
namespace Go.Proofs.YthfmkkkdjgkaoaaGreatDoor
open Go.RowKit
open Go.Lib (decDigits nDigits OthersKept byteCells strCells)
abbrev powNm : String := "internal/strconv.uint64pow10"
theorem isB_lt {B b : Nat} {bs : List Value} {w : World} (h : IsB B b bs w) : B ≤ b ∧ b < w.heap.size := by
  rcases h with ⟨h1, v, h2, _⟩ | ⟨h1, v, h2, _⟩ <;> exact ⟨h1, (Array.getElem?_eq_some_iff.1 h2).1⟩
theorem ownsF_below {w w' : World} {base : Nat} {e : TypeId} {size : Nat} {v : Value} {n : Nat} {xs : List Value} (h : w.ownsRowF base e size v n xs) (hb : Below w.heap.size w w') : w'.ownsRowF base e size v n xs := by
  obtain ⟨h1, h2⟩ := h
  refine ⟨h1, ?_⟩
  rcases h2 with h2 | ⟨g, cap, cur, fz, h3, h4, h5, h6⟩
  · exact .inl h2
  · exact .inr ⟨g, cap, cur, fz, h3, h4, (hb.block g (Array.getElem?_eq_some_iff.1 h5).1).trans h5, h6⟩
theorem isB_below {B b : Nat} {bs : List Value} {w w' : World} (h : IsB B b bs w) (hb : Below w.heap.size w w') : IsB B b bs w' := by
  have key : ∀ p, Lib.BuilderAtF 87 5 B b p bs w → Lib.BuilderAtF 87 5 B b p bs w' := fun p ⟨h1, v, h2, h3, h4⟩ =>
    ⟨h1, v, (hb.block b (Array.getElem?_eq_some_iff.1 h2).1).trans h2, ownsF_below h3 hb, h4⟩
  exact h.elim (fun x => .inl (key _ x)) (fun x => .inr (key _ x))
theorem ok_below {b : Option Nat} {w w' : World} (hb : Below w.heap.size w w') : OthersKept 5 b w w' := fun k o h _ _ => (hb.block k (Array.getElem?_eq_some_iff.1 h).1).trans h
theorem ok_cells {b : Nat} {w w' : World} (hk : OthersKept 5 (some b) w w') {k : Nat} {c : Array Value} {e : TypeId} {fz : Nat × Nat} (h : w.heap[k]? = some (.cells c e fz)) (hne : k ≠ b) (he : e ≠ 5) : w'.heap[k]? = some (.cells c e fz) :=
  hk k _ h (by simpa using hne) (fun c' fz' e' => he (by cases e'; rfl))
theorem itoaN (n : Int) (h0 : 0 ≤ n) (h1 : n < 9223372036854775808) (w : World) (h : Lib.TabIs Tryz.prog w powNm .u64 Lib.pow10Tab) : Calls Tryz.prog 69 #[.int .i64 n] w fun e w' => e = .returned (.string ⟨(decDigits n.toNat).toArray⟩) ∧ Below w.heap.size w w' :=
  (Tryz.strconv_Itoa n (by omega) (by omega) w h).mono fun e w' ⟨he, k, os, hw⟩ => ⟨by rw [he, show Lib.itoa n = decDigits n.toNat by have := Lib.itoa_nonneg n.toNat; rwa [Int.toNat_of_nonneg h0] at this], by rw [hw]; exact Lib.below_grow _ w (Nat.le_refl _) k os⟩
def rowB (word : List UInt8) (ns : List Int) : List UInt8 := word ++ ns.flatMap fun n => 32 :: decDigits n.toNat
theorem rowB_snoc (word : List UInt8) (ns : List Int) (n : Int) : rowB word (ns ++ [n]) = rowB word ns ++ (32 :: decDigits n.toNat) := by simp [rowB]
theorem rowT_eq (word : List UInt8) (ns : List Int) : rowT word (ns.map Int.toNat) = rowB word ns ++ [10] := by simp [rowT, rowB, List.flatMap_map]
theorem cellsB_app (a b : List UInt8) : byteCells (a ++ b) = byteCells a ++ byteCells b := by simp [byteCells]
structure RowI (B b d g : Nat) (cur : Array Value) (w : World) (bs : List Value) (W : World) : Prop where
  isb : IsB B b bs W
  box : W.heap[d]? = some (.cells #[.pointer (some ⟨b, 0, none⟩)] 89 (0, 0))
  row : W.heap[g]? = some (.cells cur 3 (0, 0))
  bel : Below B w W
  ok : OthersKept 5 (some b) w W
theorem RowI.below {B b d g : Nat} {cur : Array Value} {w W W' : World} {bs : List Value} (h : RowI B b d g cur w bs W) (hb : Below W.heap.size W W') (hBw : B ≤ w.heap.size) : RowI B b d g cur w bs W' :=
  ⟨isB_below h.isb hb, (hb.block d (Array.getElem?_eq_some_iff.1 h.box).1).trans h.box, (hb.block g (Array.getElem?_eq_some_iff.1 h.row).1).trans h.row, h.bel.trans (hb.mono (Nat.le_trans hBw h.bel.size)), h.ok.trans (ok_below hb)⟩
theorem RowI.wrote {B b d g : Nat} {cur : Array Value} {w W W' : World} {bs bs' : List Value} (h : RowI B b d g cur w bs W) (hI : IsB B b bs' W') (hB : Below B W W') (hK : OthersKept 5 (some b) W W') (hdb : d ≠ b) (hgb : g ≠ b) : RowI B b d g cur w bs' W' :=
  ⟨hI, ok_cells hK h.box hdb (by decide), ok_cells hK h.row hgb (by decide), h.bel.trans hB, h.ok.trans hK⟩
set_option maxRecDepth 100000 in
set_option maxHeartbeats 3200000 in
theorem row_any (B b g cap : Nat) (cur : Array Value) (L : List UInt8) (word : ByteArray) (l : List Int) (hl : l.length ≤ 100) (hn : ∀ n ∈ l, 0 ≤ n ∧ n < 9223372036854775808) (hL : L.length ≤ 1000000) (hwd : word.size ≤ 100) (w : World)
    (hT : Lib.TabBelow Tryz.prog B w powNm .u64 Lib.pow10Tab) (h : IsB B b (byteCells L) w) (hBw : B ≤ w.heap.size) (hg : w.heap[g]? = some (.cells cur 3 (0, 0))) (hgb : g ≠ b) (hcur : ∀ j (hj : j < l.length), cur[j]? = some (.int .i64 l[j])) (hcap : l.length ≤ cap ∧ cap ≤ maxLen) :
    Calls Tryz.prog 41 #[.agg #[.pointer (some ⟨b, 0, none⟩)], .string word, .slice (some ⟨g, 0, none⟩) l.length cap] w fun e w' => e = .returned (.tuple #[]) ∧ IsB B b (byteCells (L ++ rowT word.data.toList (l.map Int.toNat))) w' ∧ Below B w w' ∧ OthersKept 5 (some b) w w' := by
  have hbl := isB_lt h
  have hgl := (Array.getElem?_eq_some_iff.1 hg).1
  have H := Lib.hid h; have HT := Lib.hid hT; have HG := Lib.hid hg; have HC := Lib.hid hcur; have HN := Lib.hid hn
  obtain ⟨hc1, hc2⟩ := hcap
  unfold maxLen at hc2
  clear h hT hg hcur hn
  go_enter Tryz.func41, Tryz.ntmps41
  have hA : Below w.heap.size w (w.alloc (.cells #[.pointer (some ⟨b, 0, none⟩)] 89)) := (Below.refl _ _).alloc (Nat.le_refl _) _
  have h0 : (w.alloc (.cells #[.pointer (some ⟨b, 0, none⟩)] 89)).heap[w.heap.size]? = some (.cells #[.pointer (some ⟨b, 0, none⟩)] 89 (0, 0)) := heap_alloc_new w _
  have hg1 : (w.alloc (.cells #[.pointer (some ⟨b, 0, none⟩)] 89)).heap[g]? = some (.cells cur 3 (0, 0)) := (hA.block g hgl).trans HG.out
  have hB1 : Below B w (w.alloc (.cells #[.pointer (some ⟨b, 0, none⟩)] 89)) := hA.mono hBw
  have hI1 := isB_below H.out hA
  have hK1 : OthersKept 5 (some b) w (w.alloc (.cells #[.pointer (some ⟨b, 0, none⟩)] 89)) := ok_below hA
  obtain ⟨d, hd⟩ : ∃ d, d = w.heap.size := ⟨_, rfl⟩
  have hdb : d ≠ b := by omega
  have g1 := wstring_any B b (byteCells L) word _ hI1 (by rw [Lib.byteCells_length]; omega) (Nat.le_trans hBw hB1.size)
  have G1 := Lib.hid g1
  have HI1 := Lib.hid hI1
  have HF := Lib.hid (And.intro h0 (And.intro hg1 (And.intro hB1 hK1)))
  clear g1 hI1 h0 hg1 hB1 hK1 hA
  go_upto_region 2 with (go_at_call 68; (with_reducible refine (G1.out).mono ?_); rintro e w2 ⟨rfl, hI2, hB2, hK2⟩)
  have F1 : RowI B b w.heap.size g cur w (byteCells L) (w.alloc (.cells #[.pointer (some ⟨b, 0, none⟩)] 89)) := ⟨HI1.out, HF.out.1, HF.out.2.1, HF.out.2.2.1, HF.out.2.2.2⟩
  have F2 : Hid (RowI B b d g cur w (byteCells (L ++ rowB word.data.toList [])) w2) := Lib.hid (by
    have e : byteCells (L ++ rowB word.data.toList []) = byteCells L ++ strCells word := by rw [cellsB_app]; simp [rowB, byteCells, strCells]
    rw [e, hd]; exact F1.wrote hI2 hB2 hK2 (by omega) hgb)
  rw [← hd]
  clear F1 HI1 HF G1 hI2 hB2 hK2 H HG
  have hdl : w.heap.size ≤ d := by omega
  have hgd : g ≠ d := by omega
  clear hd
  go_wp2
  go_loopw [14] (fun s14 wr => ∃ j : Nat, s14 = .int .i64 j ∧ j ≤ l.length ∧ Hid (RowI B b d g cur w (byteCells (L ++ rowB word.data.toList (l.take j))) wr) ∧ (rowB word.data.toList (l.take j)).length ≤ 100 + j * 100) (fun s14 _ => l.length - (intOf s14).toNat)
  case atStart => exact ⟨0, rfl, Nat.zero_le _, F2, by simp [rowB]; exact hwd⟩
  case round =>
    clear F2
    obtain ⟨j, rfl, hj, HF, hrl⟩ := hrel
    by_cases hlt : j < l.length
    · have hltz : (j : Int) < (l.length : Int) := by omega
      obtain ⟨n, hnn⟩ : ∃ n, n = l[j] := ⟨_, rfl⟩
      have hnb := HN.out n (by rw [hnn]; exact List.getElem_mem _)
      have kc : wr.cell? ⟨g, j, none⟩ = some (.int .i64 n) := by
        rw [blk_cell (blk_of HF.out.row) j, HC.out j hlt, hnn]
      have hsn := rowB_snoc word.data.toList (l.take j) n
      have htk : l.take (j + 1) = l.take j ++ [n] := by rw [List.take_succ_eq_append_getElem hlt, hnn]
      have hdn : (decDigits n.toNat).length ≤ 20 := by
        rw [Lib.decDigits_length]; exact Lib.nDigits_le20 _ (by omega)
      have hl2 : (rowB word.data.toList (l.take (j + 1))).length ≤ 100 + (j + 1) * 100 := by
        rw [htk, hsn, List.length_append, List.length_cons]; omega
      have HTK : Hid (byteCells (L ++ rowB word.data.toList (l.take (j + 1))) = byteCells (L ++ rowB word.data.toList (l.take j)) ++ byteCells (32 :: decDigits n.toNat)) := Lib.hid (by
        rw [htk, hsn, ← List.append_assoc, cellsB_app])
      obtain ⟨P, hP⟩ : ∃ P, P = L ++ rowB word.data.toList (l.take j) := ⟨_, rfl⟩
      have hPl : P.length ≤ 1100000 := by rw [hP, List.length_append]; omega
      rw [← hP] at HF HTK
      have GI : Hid (∀ W, Below B w W → Calls Tryz.prog 69 #[.int .i64 n] W fun e w' => e = .returned (.string ⟨(decDigits n.toNat).toArray⟩) ∧ Below W.heap.size W w') := Lib.hid fun W hW => itoaN n hnb.1 hnb.2 W (HT.out.on hW).here
      obtain ⟨dg, hdg⟩ : ∃ q, decDigits n.toNat = q := ⟨_, rfl⟩
      rw [hdg] at HTK GI hdn
      obtain ⟨D, hD⟩ : ∃ D : ByteArray, (⟨dg.toArray⟩ : ByteArray) = D := ⟨_, rfl⟩
      rw [hD] at GI
      have hDs : D.size = dg.length := by rw [← hD]; simp [ByteArray.size]
      have hov : ¬ (9223372036854775807 < 1 + D.size) := by omega
      have HDS := Lib.hid hDs
      have HDD := Lib.hid hD
      clear hD hDs
      have GW : Hid (∀ (s : ByteArray) W, s.size ≤ 100 → B ≤ W.heap.size → IsB B b (byteCells P) W → Calls Tryz.prog 68 #[.pointer (some ⟨b, 0, none⟩), .string s] W fun e w' => e = .returned (.tuple #[.int .i64 s.size, .nilIface]) ∧ (IsB B b (byteCells P ++ strCells s) w' ∧ Below B W w' ∧ OthersKept 5 (some b) W w')) := Lib.hid fun s W h1 h2 h3 => wstring_any B b (byteCells P) s W h3 (by rw [Lib.byteCells_length]; omega) h2
      have nd : ∀ o, wr.cell? ⟨d, o, none⟩ = (#[.pointer (some ⟨b, 0, none⟩)] : Array Value)[o]? := fun o => blk_cell (blk_of HF.out.box) o
      have HF2 := HF
      clear hnn hsn htk hrl hP hdg HF
      go_upto_region 5 with fail
      go_region_held3 (fun W => ∀ o, W.cell? ⟨d, o, none⟩ = (#[.pointer (some ⟨b, 0, none⟩)] : Array Value)[o]?) (first | exact nd | assumption) (first
        | (go_at_call 69; (with_reducible refine (GI.out _ (HF2.out.bel.drew)).mono ?_); rintro e w5 ⟨rfl, h5⟩; (have F5 := Lib.hid (HF2.out.below ((Below.refl _ wr).drew.trans h5) hBw)); (have nd5 : ∀ o, w5.cell? ⟨d, o, none⟩ = (#[.pointer (some ⟨b, 0, none⟩)] : Array Value)[o]? := fun o => blk_cell (blk_of F5.out.box) o); clear h5)
        | (go_at_call 68; (with_reducible refine (GW.out _ _ ?_ ?_ F5.out.isb).mono ?_); (focus (rw [ByteArray.size_append]; show 1 + D.size ≤ 100; have := HDS.out; omega)); (focus (exact Nat.le_trans hBw F5.out.bel.size)); rintro e w6 ⟨rfl, hI6, hB6, hK6⟩; (have F6 := Lib.hid (F5.out.wrote hI6 hB6 hK6 hdb hgb)); (have nd6 : ∀ o, w6.cell? ⟨d, o, none⟩ = (#[.pointer (some ⟨b, 0, none⟩)] : Array Value)[o]? := fun o => blk_cell (blk_of F6.out.box) o); clear hI6 hB6 hK6))
      have hstr : strCells (⟨#[32]⟩ ++ D : ByteArray) = byteCells (32 :: dg) := by rw [← HDD.out]; simp [strCells, byteCells, ByteArray.data_append]
      have HN6 : Hid (RowI B b d g cur w (byteCells (L ++ rowB word.data.toList (l.take (j + 1)))) w6) := Lib.hid (by
        rw [HTK.out, ← hstr]; exact F6.out)
      clear F5 F6 HF2 HTK GI GW hstr
      go_wp2
      go_roundw
      case rel => exact ⟨j + 1, by go_num, by omega, HN6, hl2⟩
      case measure => simp [intOf]; omega
    · obtain rfl : j = l.length := by omega
      have hF := HF.out
      rw [List.take_length] at hF hrl
      obtain ⟨P, hP⟩ : ∃ P, P = L ++ rowB word.data.toList l := ⟨_, rfl⟩
      have hPl : P.length ≤ 1100000 := by rw [hP, List.length_append]; omega
      have hfin : byteCells (L ++ rowT word.data.toList (l.map Int.toNat)) = byteCells P ++ [.int .u8 10] := by
        rw [rowT_eq, ← List.append_assoc, ← hP, cellsB_app]; rfl
      rw [← hP] at hF
      have HFI := Lib.hid hfin
      have GB : Hid (Calls Tryz.prog 70 #[.pointer (some ⟨b, 0, none⟩), .int .u8 10] wr fun e w' => e = .returned .nilIface ∧ (IsB B b (byteCells P ++ [.int .u8 10]) w' ∧ Below B wr w' ∧ OthersKept 5 (some b) wr w')) := Lib.hid (wbyte_any B b (byteCells P) 10 wr hF.isb (by rw [Lib.byteCells_length]; omega) (Nat.le_trans hBw hF.bel.size))
      have nd : wr.cell? ⟨d, 0, none⟩ = some (.pointer (some ⟨b, 0, none⟩)) := blk_cell (blk_of hF.box) 0
      have HFF := Lib.hid hF
      clear HF hF hfin hP hrl HT HN HC
      go_wp2_with (go_at_call 70; (with_reducible refine (GB.out).mono ?_); rintro e w7 ⟨rfl, hI7, hB7, hK7⟩; (have F7 := Lib.hid (HFF.out.wrote hI7 hB7 hK7 hdb hgb)); clear hI7 hB7 hK7)
      go_end0
      exact ⟨rfl, by rw [HFI.out]; exact F7.out.isb, F7.out.bel, F7.out.ok⟩
end Go.Proofs.YthfmkkkdjgkaoaaGreatDoor
namespace Go.Proofs.YthfmkkkdjgkaoaaGreatDoor
open Go.RowKit
theorem infoInt3 : (Tryz.prog.info? 3).map (fun i => (i.zero, i.size, i.bytes)) = some (some (.int .i64 0), 1, 8) := by kernel_rfl
theorem run_append_mk (n : Nat) (h0 : 0 < n) (hn : n ≤ 1000) (w : World) : ∃ (cap : Nat) (cur : Array Value), (Builtin.append_ #[45, 3] 45 #[.slice none 0 0, .int .i64 (n : Int)]).run Tryz.prog w = .ok (.slice (some ⟨w.heap.size, 0, none⟩) n cap) (w.drew.alloc (.cells cur 3)) ∧ n ≤ cap ∧ cap ≤ maxLen ∧ cur.size = cap := by
  obtain ⟨i, hi, hz0, hz1, hz2⟩ := info_parts infoInt3
  have hge := grownCap_ge w n 0 3
  have hne : n ≠ 0 := by omega
  have h63' : ¬ (9223372036854775807 < (n : Int)) := by omega
  have h48' : ¬ (281474976710656 < Builtin.nextslicecap n 0 * i.bytes) := by rw [nextslicecap_zero h0, hz2]; omega
  have hwr : IntKind.i64.wrap (n : Int) = (n : Int) := IntWalk.i64_in _ (by omega)
  have hnn : ¬ ((n : Int) < 0) := by omega
  have hby : ¬ (281474976710656 < (n : Int) * (i.bytes : Int)) := by rw [hz2]; omega
  have ha : ∀ w, Sem.run Tryz.prog (asIntOf (.int .i64 (n : Int))) w = .ok (.i64, (n : Int)) w := fun _ => rfl
  have hle : ¬ ((n : Int) ≤ 0) := by omega
  have hmx : max (n : Int) 0 = (n : Int) := by omega
  refine ⟨grownCap w n 0 3, Builtin.zeroCells #[.int .i64 0] n ++ Builtin.zeroCells #[.int .i64 0] (grownCap w n 0 3 - n), ?_, hge, grownCap_le_maxLen w n 0 3 (by unfold maxLen; omega), by rw [Array.size_append, size_zeroCells, size_zeroCells]; simp; omega⟩
  simp [Builtin.append_, run_underlying Tryz.underlying45, run_underlying Tryz.underlying3, sizeOf, typeInfo, zeroValue, hi, hz0, hz1, hne, h63', h48', hwr, hnn, hby, ha, hle, hmx, asInt, Question.forced, run_firstCells_none, newRow, grownCap, Value.cells]
theorem wpList_append_mk {ops : Array Oper} {rest : List Oper} {o : Oper} {a : Act} {w : World} {Q : Exit → Act → World → Prop} (hg : o.guard = none) (s x : Operand)
    (ho : o.op = .call { callee := .builtin .append, args := #[s, x], argTypes := #[45, 3] }) (hty : o.type = 45) (n : Nat) (h0 : 0 < n) (hn : n ≤ 1000) (hs : a.eval s = .slice none 0 0) (hx : a.eval x = .int .i64 (n : Int))
    (h : ∀ (cap : Nat) (cur : Array Value), n ≤ cap → cap ≤ maxLen → cur.size = cap → wpList Tryz.prog ops Q rest (a.put o.dst (.slice (some ⟨w.heap.size, 0, none⟩) n cap)) (w.drew.alloc (.cells cur 3))) : wpList Tryz.prog ops Q (o :: rest) a w := by
  refine wpList_plain hg fun K' hK' => ?_
  obtain ⟨cap, cur, hr, h1, h2, h3⟩ := run_append_mk n h0 hn w
  unfold Oper.wp execOp
  simp only [ho, hty, resolve, invoke, builtin, Sem.run_bind, Sem.run_pure, Result.andThen_ok, List.map_toArray, List.map_cons, List.map_nil, hs, hx, hr]
  exact hK' _ _ (h cap cur h1 h2 h3)
set_option maxRecDepth 100000 in
set_option maxHeartbeats 1600000 in
theorem grow_any (n : Nat) (h0 : 0 < n) (hn : n ≤ 1000) (w : World) : Calls Tryz.prog 71 #[.slice none 0 0, .int .i64 (n : Int)] w (OwnR ic 1 3 [] w) := by
  have q1 : ¬ (n : Int) < 0 := by omega
  have q2 : (0 : Int) < (n : Int) := by omega
  go_enter Tryz.func71, Tryz.ntmps71
  go_wp2_with (at_builtin; go_loud (refine wpList_append_mk rfl _ _ rfl rfl n h0 hn rfl rfl ?_); intro cap cur h1 h2 h3)
  have hO : (w.drew.alloc (.cells cur 3)).ownsRow w.heap.size 3 1 (.slice (some ⟨w.heap.size, 0, none⟩) 0 cap) 0 [] := World.ownsRow_made w.drew cur cap (Nat.le_refl _) h2 (by omega)
  have hB : Below w.heap.size w (w.drew.alloc (.cells cur 3)) := (Below.refl _ _).drew.alloc (Nat.le_refl _) _
  have HF := Lib.hid (And.intro hO hB)
  unfold maxLen at h2
  clear hO hB
  go_wp2
  go_ret
  exact ⟨_, rfl, HF.out.1, HF.out.2⟩
abbrev Rw := Option Addr × Nat × List Int
def rwV (r : Rw) : Value := .slice r.1 r.2.2.length r.2.1
def catL (R : List Rw) : List Int := R.flatMap fun r => r.2.2
theorem catL_snoc (R : List Rw) (r : Rw) : catL (R ++ [r]) = catL R ++ r.2.2 := by simp [catL]
theorem catL_take {R : List Rw} {j : Nat} (h : j < R.length) : catL (R.take (j + 1)) = catL (R.take j) ++ R[j].2.2 := by
  rw [List.take_succ_eq_append_getElem h, catL_snoc]
theorem catL_le {R : List Rw} (h : ∀ r ∈ R, r.2.2.length ≤ 100) : (catL R).length ≤ R.length * 100 := by
  induction R with
  | nil => simp [catL]
  | cons a R ih =>
    have h1 := h a (by simp)
    have h2 := ih fun r hr => h r (List.mem_cons_of_mem _ hr)
    have e : catL (a :: R) = a.2.2 ++ catL R := by simp [catL]
    rw [e, List.length_append, List.length_cons]
    omega
set_option maxRecDepth 100000 in
set_option maxHeartbeats 3200000 in
theorem concat_any (g : Nat) (R : List Rw) (hR : R.length ≤ 10) (h1 : ∀ r ∈ R, 0 < r.2.2.length ∧ r.2.2.length ≤ 100) (h0 : 0 < R.length) (w : World) (hk : blk w g = some (R.map rwV).toArray) (hr : ∀ r ∈ R, SRow ic 1 w r.1 r.2.1 r.2.2) :
    Calls Tryz.prog 42 #[.slice (some ⟨g, 0, none⟩) R.length R.length] w (OwnR ic 1 3 (catL R) w) := by
  obtain ⟨i0, hi, hz0, hz1, hz2⟩ := info_parts infoInt3
  have Hi := Lib.hid hi; have Hz0 := Lib.hid hz0; have Hz1 := Lib.hid hz1; have Hz2 := Lib.hid hz2
  clear hi hz0 hz1 hz2
  have HK := Lib.hid hk; have HRR := Lib.hid hr; have H1 := Lib.hid h1
  have hcl := fun j => catL_le (R := R.take j) (fun r hr => (h1 r (List.mem_of_mem_take hr)).2)
  have hpos : 0 < (catL R).length := by
    have e := catL_take (R := R) (j := 0) h0
    have h2 := (h1 R[0] (List.getElem_mem _)).1
    have h3 : R = R.take 1 ++ R.drop 1 := (List.take_append_drop 1 R).symm
    have h4 : catL R = catL (R.take 1) ++ catL (R.drop 1) := by
      conv => lhs; rw [h3]
      simp [catL]
    rw [h4, e]
    simp only [List.length_append]
    omega
  have hcl2 : (catL R).length ≤ 1000 := by
    have := hcl R.length
    rw [List.take_length] at this
    omega
  have HCL := Lib.hid hcl; have HPOS := Lib.hid (And.intro hpos hcl2)
  obtain ⟨N, hN⟩ : ∃ N, N = R.length := ⟨_, rfl⟩
  have HN := Lib.hid hN
  rw [← hN] at hR h0 ⊢
  have hkb := blk_lt hk
  clear hk hr h1 hN hcl hpos hcl2
  go_enter Tryz.func42, Tryz.ntmps42
  go_wp2
  go_loopw [3, 11] (fun s3 s11 wr => ∃ j : Nat, s11 = .int .i64 j ∧ j ≤ N ∧ Hid (s3 = .int .i64 ((catL (R.take j)).length : Int)) ∧ w = wr) (fun _ s11 _ => N - (intOf s11).toNat)
  case atStart => exact ⟨0, rfl, Nat.zero_le _, Lib.hid rfl, rfl⟩
  case round =>
    obtain ⟨j, rfl, hj, HS, rfl⟩ := hrel
    by_cases hlt : j < N
    · have hltz : (j : Int) < (N : Int) := by omega
      have hjl : j < R.length := by have := HN.out; omega
      obtain ⟨r, hr⟩ : ∃ r, r = R[j] := ⟨_, rfl⟩
      have hc : w.cell? ⟨g, j, none⟩ = some (rwV r) := by
        rw [blk_cell HK.out j, hr]
        simp [hjl]
      have hct := catL_take hjl
      have hll := HCL.out (j + 1)
      rw [hct, ← hr, List.length_append, List.length_take] at hll
      have HS2 : Hid (Value.int .i64 (((catL (R.take j)).length : Int) + (r.2.2.length : Int)) = .int .i64 ((catL (R.take (j + 1))).length : Int)) := Lib.hid (by rw [hct, ← hr, List.length_append]; simp)
      have e3 := HS.out
      subst e3
      obtain ⟨T, hT⟩ : ∃ T : Nat, (catL (R.take j)).length = T := ⟨_, rfl⟩
      obtain ⟨L, hL⟩ : ∃ T : Nat, r.2.2.length = T := ⟨_, rfl⟩
      unfold rwV at hc
      rw [hL] at hc
      rw [hT, hL] at HS2 hll
      rw [hT]
      have m1 : IntKind.i64.wrap ((T : Int) + (L : Int)) = (T : Int) + (L : Int) := IntWalk.i64_in _ (by omega)
      have m2 : ¬ ((T : Int) + (L : Int) < 0) := by omega
      clear hr hct HS hT hL
      go_wp2
      go_roundw
      case rel => exact ⟨j + 1, by go_num, by omega, HS2, trivial⟩
      case measure => simp [intOf]; omega
    · obtain rfl : j = N := by omega
      have e3 := HS.out
      rw [HN.out, List.take_length] at e3
      subst e3
      clear HS hj hlt
      obtain ⟨T, hT⟩ : ∃ T : Nat, (catL R).length = T := ⟨_, rfl⟩
      have hTT := HPOS.out
      rw [hT] at hTT ⊢
      have GG := Lib.hid (fun W => grow_any T hTT.1 hTT.2 W)
      have HT := Lib.hid hT
      clear hT hTT
      go_wp2_with (go_at_call 71; (with_reducible refine (GG.out _).mono ?_); rintro e w2 ⟨v2, rfl, ho2, h2⟩; (have HO2 := Lib.hid ho2); clear ho2)
      clear GG
      go_loopw [6, 27] (fun s6 s27 wr => ∃ j' : Nat, s27 = .int .i64 j' ∧ j' ≤ j ∧ Below w.heap.size w wr ∧ Hid (wr.ownsRow w.heap.size 3 1 s6 (catL (R.take j')).length (rowC ic (catL (R.take j'))))) (fun _ s27 _ => j - (intOf s27).toNat)
      case atStart => exact ⟨0, rfl, Nat.zero_le _, h2, Lib.hid (by simpa [catL, rowC] using HO2.out)⟩
      case round =>
        clear h2 HO2
        obtain ⟨k, rfl, hk, hB, HO⟩ := hrel
        by_cases hlt : k < j
        · have hltz : (k : Int) < (j : Int) := by omega
          have hjl : k < R.length := by have := HN.out; omega
          obtain ⟨r, hr⟩ : ∃ r, r = R[k] := ⟨_, rfl⟩
          have hrm : r ∈ R := by rw [hr]; exact List.getElem_mem _
          have hc : wr.cell? ⟨g, k, none⟩ = some (rwV r) := by
            rw [blk_cell (blk_below hB HK.out) k, hr]
            simp [hjl]
          have hct := catL_take hjl
          have hll := HCL.out (k + 1)
          rw [hct, ← hr, List.length_append, List.length_take] at hll
          rw [← hr] at hct
          have h1r := (H1.out r hrm).1
          obtain ⟨gs, os, ha, hgs, hcs⟩ := ((HRR.out r hrm).below hB).2.2.2 h1r
          have hnews : ∀ i u, (rowC ic r.2.2)[i]? = some u → wr.cell? ((⟨gs, os, none⟩ : Addr).add i) = some u := fun i u hu => by
            have hadd : (⟨gs, os, none⟩ : Addr).add i = ⟨gs, os + i, none⟩ := by unfold Addr.add; split <;> simp_all
            rw [hadd, rowC_ic] at *
            have hi : i < r.2.2.length := by
              have := (List.getElem?_eq_some_iff.1 hu).1
              simpa using this
            have h5 := hcs i hi 0 _ rfl
            have h6 : (r.2.2.map (Value.int .i64))[i]? = some (.int .i64 r.2.2[i]) := by simp [hi]
            rw [h6] at hu
            cases hu
            simpa using h5
          have hone : ∀ u ∈ rowC ic r.2.2, u.oneCell' = true := by
            rw [rowC_ic]
            intro u hu
            obtain ⟨z, _, rfl⟩ := List.mem_map.1 hu
            rfl
          have hlen : (rowC ic r.2.2).length = r.2.2.length * 1 := rowC_length ic_len _
          have HNW := Lib.hid (And.intro hnews (And.intro hone hlen))
          have HCT := Lib.hid hct
          unfold rwV at hc
          rw [ha] at hc
          obtain ⟨lr, hlr⟩ : ∃ q, r.2.2 = q := ⟨_, rfl⟩
          rw [hlr] at hc HNW HCT hll h1r
          obtain ⟨rc, hrc⟩ : ∃ q, r.2.1 = q := ⟨_, rfl⟩
          rw [hrc] at hc
          obtain ⟨M, hM⟩ : ∃ q, catL (R.take k) = q := ⟨_, rfl⟩
          rw [hM] at HO HCT hll
          have HLL := Lib.hid (And.intro hll h1r)
          clear hr hrm hnews hone hlen ha hcs hlr hrc hM hct hgs hll h1r
          go_wp2_with (at_builtin; go_loud (refine wpList_append_own _ rfl _ _ 45 rfl w.heap.size 3 i0 (.int .i64 0) 1 8 Tryz.underlying45 Hi.out Hz0.out Hz1.out Hz2.out rfl (by decide) _ M.length (rowC ic M) rfl HO.out ⟨gs, os, none⟩ lr.length rc (rowC ic lr) rfl HNW.out.2.2 HNW.out.1 HNW.out.2.1 (by have := HLL.out; unfold maxLen; omega) (by have := HLL.out; omega) hB.size ?_); intro v' wb hown2 hgrow2 hnil)
          have hB4 : Below w.heap.size w wb := hB.grown hgrow2 hB.size (fun k e => (HO.out.lt k e).1)
          have ho3 : Hid (wb.ownsRow w.heap.size 3 1 v' (catL (R.take (k + 1))).length (rowC ic (catL (R.take (k + 1))))) := Lib.hid (by
            rw [HCT.out, List.length_append, rowC_append]; exact hown2)
          clear hown2 hgrow2 HO HNW HCT hnil hc HLL
          go_wp2
          go_roundw
          case rel => exact ⟨k + 1, by go_num, by omega, hB4, ho3⟩
          case measure => simp [intOf]; omega
        · obtain rfl : k = j := by omega
          have ho := HO.out
          rw [HN.out, List.take_length] at ho
          have HQ := Lib.hid ho
          clear HO ho
          go_wp2
          go_ret
          exact ⟨_, rfl, HQ.out, hB⟩
end Go.Proofs.YthfmkkkdjgkaoaaGreatDoor
