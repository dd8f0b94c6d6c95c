/- Parts of a proof, printed by a program of mine out of my texts: StSize, StSame, OpenRow, OpenItm. -/
import Derived.Deep.Slices
import Derived.DataReads
import Derived.Test.YtahopnlibmiafaaDoorMA
import Derived.Test.YtahopnlibmiafaaDoorMD
import Derived.Test.YtahopnlibmiafaaDoorMI
import Derived.Test.YtahopnlibmiafaaDoorMU
import Derived.Test.YtahopnlibmiafaaDoorMX
set_option linter.unusedSimpArgs false
set_option linter.unusedVariables false
namespace Go.Proofs.YtahopnlibmiafaaDoor
open Go.RowKit
def szI (b : Bn) : Int := (sizeC b.no b.sq b.of b.de b.pr b.bo b.li b.to b.da.size).1
def sumS (l : List Itm) : Int := l.foldl (fun s x => IntKind.u64.wrap (s + IntKind.u64.wrap (szI x.b))) 0
theorem sumS_snoc (l : List Itm) (x : Itm) : sumS (l ++ [x]) = IntKind.u64.wrap (sumS l + IntKind.u64.wrap (szI x.b)) := by simp [sumS]
theorem sumS_succ {l : List Itm} {j : Nat} (h : j < l.length) : sumS (l.take (j + 1)) = IntKind.u64.wrap (sumS (l.take j) + IntKind.u64.wrap (szI l[j].b)) := by
  rw [List.take_succ_eq_append_getElem h, sumS_snoc]
def sizeS (l : List Itm) : Int × Int := if (chkS l).1 ≠ 0 then (0, (chkS l).1) else (sumS l, 0)
def GdI (x : Itm) : Prop := x.b.da.size ≤ maxLen ∧ 0 ≤ x.b.sq
set_option maxRecDepth 100000 in
set_option maxHeartbeats 1600000 in
theorem size_any (a : Option Addr) (cap : Nat) (l : List Itm) (hd : ∀ x ∈ l, GdI x) (w : World) (hH : HTab w) (hrow : SRow itm 13 w a cap l) :
    Calls Tryd.prog 36 #[.slice a l.length cap] w fun e w' => e = .returned (.tuple #[.int .u64 (sizeS l).1, .int .i64 (sizeS l).2]) ∧ Below w.heap.size w w' := by
  have g1 : Calls Tryd.prog 74 #[.slice a l.length cap] w fun e w' => e = .returned (.int .i64 (chkS l).1) ∧ Below w.heap.size w w' := valid_any a cap l (fun x hx => (hd x hx).1) w hrow
  have HR := Lib.hid hrow; have HD := Lib.hid hd; have HH := Lib.hid hH
  have hcap := hrow.1
  have hmax := hrow.2.1
  unfold maxLen at hmax
  clear hrow hd hH
  unfold sizeS
  by_cases hf : (chkS l).1 = 0
  · rw [if_neg (fun h => h hf)]
    have h1000 := (chkS_zero hf).1
    rw [hf] at g1
    replace g1 := Lib.hid g1
    have q0 : ((0 : Int) != 0) = false := rfl
    clear hf
    go_enter Tryd.func36, Tryd.ntmps36
    go_wp2_with (go_at_call 74; (with_reducible refine (g1.out).mono ?_); rintro e w2 ⟨rfl, b2⟩)
    go_loopw [5, 17] (fun s i wr => ∃ j : Nat, s = .int .u64 (sumS (l.take j)) ∧ i = .int .i64 j ∧ j ≤ l.length ∧ Below w.heap.size w wr) (fun _ i _ => l.length - (intOf i).toNat)
    case atStart => exact ⟨0, rfl, rfl, Nat.zero_le _, b2⟩
    case round =>
      clear b2
      obtain ⟨j, rfl, rfl, hj, hB⟩ := hrel
      by_cases hlt : j < l.length
      · have hltz : (j : Int) < (l.length : Int) := by omega
        obtain ⟨b, off, hab, hbl, hcs⟩ := HR.out.2.2.2 (by omega)
        subst hab
        obtain ⟨x, hx⟩ : ∃ x, x = l[j] := ⟨_, rfl⟩
        have hr := hcs j hlt
        rw [← hx] at hr
        have hrw := range_below hbl hr hB
        have bwr : b < wr.heap.size := Nat.lt_of_lt_of_le hbl hB.size
        have hs := sumS_succ hlt
        rw [← hx] at hs
        have hgd : GdI x := by rw [hx]; exact HD.out _ (List.getElem_mem _)
        obtain ⟨z, hz⟩ : ∃ z, z = sizeC x.b.no x.b.sq x.b.of x.b.de x.b.pr x.b.bo x.b.li x.b.to x.b.da.size := ⟨_, rfl⟩
        have gs : ∀ W, HTab W → Calls Tryd.prog 80 #[.agg #[.int .i64 x.b.no, .int .u64 x.b.sq, .int .i64 x.b.of, .int .i64 x.b.de, .int .i64 x.b.pr, .int .i64 x.b.bo, .int .i64 x.b.li, .int .i64 x.b.to, .string x.b.da]] W fun e w' => e = .returned (.tuple #[.int .i64 z.1, .int .i64 z.2]) ∧ Below W.heap.size W w' := fun W h => by
          rw [hz]; exact sizeB_any x.b.no x.b.sq x.b.of x.b.de x.b.pr x.b.bo x.b.li x.b.to x.b.da hgd.1 hgd.2 W h
        have hz1 : szI x.b = z.1 := by rw [hz]; rfl
        rw [hz1] at hs
        have HS := Lib.hid hs
        replace gs := Lib.hid gs
        obtain ⟨s, hss⟩ : ∃ s, s = sumS (l.take j) := ⟨_, rfl⟩
        rw [← hss] at HS ⊢
        clear hx hr hcs hs hz hz1 hgd hss
        go_upto_region 7 with fail
        refine wp_region_tail0 1 ?_
        intro W0 hE hN
        have hrW : W0.rangeAt b (off + j * 13) (itm x) := (by rw [hE.out]; exact hrw)
        have hBW : Below w.heap.size w W0 := (by rw [hE.out]; exact hB)
        have bW : b < W0.heap.size := (by rw [hE.out]; exact bwr)
        clear hE hrw hB bwr
        simp only [List.take_succ_cons, List.take_zero, List.drop_succ_cons, List.drop_zero]
        repeat (go_big_quiet_step (fail))
        refine wpQuiet_nil ?_
        rintro _ ⟨x', rfl⟩
        have hr1 := range_below bW hrW x'.ok
        have hB1 := bt hBW x'.ok
        obtain ⟨u, hu⟩ : ∃ u, u = x'.wd := ⟨_, rfl⟩
        rw [← hu] at hr1 hB1 ⊢
        clear hu x' hN hrW hBW bW
        refine wpList_load_mid rfl 67 (.tmp 19) rfl b (off + j * 13) rfl (itm x) _ hr1 Tryd.underlying67 rfl (by kernel_rfl) ?_
        conv => arg 5; simp [Act.put]
        refine Go.Great.wpList_allocTo rfl (some 7) rfl (.pointer (some ⟨u.heap.size, 0, none⟩)) (.cells #[.int .i64 0, .int .u64 0, .int .i64 0, .int .i64 0, .int .i64 0, .int .i64 0, .int .i64 0, .int .i64 0, .string ⟨#[]⟩, .int .i64 0, .int .i64 0, .int .u64 0, .int .i64 0] 67) (by kernel_rfl) ?_
        conv => arg 5; simp [Act.put]
        refine wpList_store_midB 67 (.tmp 7) (.tmp 20) u.heap.size 0 #[.int .i64 0, .int .u64 0, .int .i64 0, .int .i64 0, .int .i64 0, .int .i64 0, .int .i64 0, .int .i64 0, .string ⟨#[]⟩, .int .i64 0, .int .i64 0, .int .u64 0, .int .i64 0] #[.int .i64 x.b.no, .int .u64 x.b.sq, .int .i64 x.b.of, .int .i64 x.b.de, .int .i64 x.b.pr, .int .i64 x.b.bo, .int .i64 x.b.li, .int .i64 x.b.to, .string x.b.da, .int .i64 x.st, .int .i64 x.to, .int .u64 x.off, .int .i64 x.od] #[.int .i64 x.b.no, .int .u64 x.b.sq, .int .i64 x.b.of, .int .i64 x.b.de, .int .i64 x.b.pr, .int .i64 x.b.bo, .int .i64 x.b.li, .int .i64 x.b.to, .string x.b.da, .int .i64 x.st, .int .i64 x.to, .int .u64 x.off, .int .i64 x.od] (blk_alloc_new _ _ _ rfl) rfl rfl rfl rfl (by simp) (by kernel_rfl) (by kernel_rfl) (by kernel_rfl) ?_
        intro w1 kb1 o1 B1 z1
        conv => arg 5; simp [Act.put]
        have hb1 : Below w.heap.size w w1 := B1 _ _ hB1.size (hB1.alloc hB1.size _)
        obtain ⟨c0, hc0⟩ : ∃ c, c = u.heap.size := ⟨_, rfl⟩
        rw [← hc0] at kb1 ⊢
        have nb1 := kn kb1
        clear o1 B1 z1 hr1 hB1 hc0 u
        go_wp2_with (go_at_call 80; (with_reducible refine (gs.out _ (HH.out.on hb1)).mono ?_); rintro e w3 ⟨rfl, h3⟩)
        go_roundw
        case rel => exact ⟨j + 1, by rw [HS.out], by go_num, by omega, bt hb1 h3⟩
        case measure => simp [intOf]; omega
      · obtain rfl : j = l.length := by omega
        rw [List.take_length]
        go_wp2
        go_ret2
        exact ⟨rfl, hB⟩
  · rw [if_pos hf]
    obtain ⟨c, hc⟩ : ∃ c, (chkS l).1 = c := ⟨_, rfl⟩
    rw [hc] at g1 hf ⊢
    have q0 : (c != 0) = true := by simpa using hf
    replace g1 := Lib.hid g1
    clear hc hf
    go_enter Tryd.func36, Tryd.ntmps36
    go_wp2_with (go_at_call 74; (with_reducible refine (g1.out).mono ?_); rintro e w2 ⟨rfl, b2⟩)
    go_ret2
    exact ⟨rfl, b2⟩
end Go.Proofs.YtahopnlibmiafaaDoor
namespace Go.Proofs.YtahopnlibmiafaaDoor
open Go.RowKit
theorem run_itmNe (x : Itm) (w : World) : Sem.run Tryd.prog (binOp BinOp.neq 67 (.agg (itm x).toArray) (.agg (itm x).toArray)) w = .ok (.bool false) w := by
  obtain ⟨⟨a1, a2, a3, a4, a5, a6, a7, a8, a9⟩, st, to, off, od⟩ := x
  simp only [itm, bn, List.cons_append, List.nil_append]
  go_simp
set_option maxRecDepth 100000 in
set_option maxHeartbeats 1600000 in
theorem same_self (a1 a2 : Option Addr) (c1 c2 : Nat) (l : List Itm) (w : World) (h1 : SRow itm 13 w a1 c1 l) (h2 : SRow itm 13 w a2 c2 l) :
    Calls Tryd.prog 27 #[.slice a1 l.length c1, .slice a2 l.length c2] w fun e w' => e = .returned (.bool true) ∧ Below w.heap.size w w' := by
  have hl : l.length ≤ 9223372036854775807 := by have h3 := h1.1; have h4 := h1.2.1; unfold maxLen at h4; omega
  have H1 := Lib.hid h1; have H2 := Lib.hid h2; clear h1 h2
  have q1 : ((l.length : Int) != (l.length : Int)) = false := by simp
  go_enter Tryd.func27, Tryd.ntmps27
  go_wp2
  go_loopw [5] (fun i wr => ∃ k : Nat, i = .int .i64 k ∧ k ≤ l.length ∧ Below w.heap.size w wr) (fun i _ => l.length - (intOf i).toNat)
  case atStart => exact ⟨0, rfl, Nat.zero_le _, Below.refl _ _⟩
  case round =>
    obtain ⟨k, rfl, hk, hB⟩ := hrel
    by_cases hlt : k < l.length
    · have i1 : (k : Int) < (l.length : Int) := by omega
      obtain ⟨b1, o1, rfl, g1, r1⟩ := (H1.out.below hB).2.2.2 (by omega)
      obtain ⟨b2, o2, rfl, g2, r2⟩ := (H2.out.below hB).2.2.2 (by omega)
      obtain ⟨x, hx⟩ : ∃ x, x = l[k] := ⟨_, rfl⟩
      have R1 := r1 k hlt
      have R2 := r2 k hlt
      rw [← hx] at R1 R2
      clear r1 r2
      have E := fun W => run_itmNe x W
      clear hx
      go_wp2_with fail
      refine wp_region_in (by kernel_rfl) (by kernel_rfl) ?_
      intro W0 hE hN
      have r1 : W0.rangeAt b1 (o1 + k * 13) (itm x) := (by rw [hE.out]; exact R1)
      have r2 : W0.rangeAt b2 (o2 + k * 13) (itm x) := (by rw [hE.out]; exact R2)
      have g1' : b1 < W0.heap.size := (by rw [hE.out]; exact g1)
      have g2' : b2 < W0.heap.size := (by rw [hE.out]; exact g2)
      have hB' : Below w.heap.size w W0 := (by rw [hE.out]; exact hB)
      clear hE R1 R2 g1 g2 hB
      refine wpQuiet_split 3 ?_
      simp only [List.take_succ_cons, List.take_zero, List.drop_succ_cons, List.drop_zero]
      repeat (go_big_quiet_step (fail))
      refine wpQuiet_nil ?_
      refine wpQuiet_load_range 67 (.tmp 19) b1 (o1 + k * 13) (itm x) (fun W hW => by obtain ⟨x', rfl⟩ := hW; exact range_below g1' r1 x'.ok) _ (by kernel_rfl) rfl (by kernel_rfl) Tryd.underlying67 rfl (by kernel_rfl) ?_
      conv => arg 6; simp [Act.put]
      refine wpQuiet_split 3 ?_
      simp only [List.take_succ_cons, List.take_zero, List.drop_succ_cons, List.drop_zero]
      repeat (go_big_quiet_step (fail))
      refine wpQuiet_nil ?_
      refine wpQuiet_load_range 67 (.tmp 23) b2 (o2 + k * 13) (itm x) (fun W hW => by obtain ⟨x', rfl⟩ := hW; exact range_below g2' r2 x'.ok) _ (by kernel_rfl) rfl (by kernel_rfl) Tryd.underlying67 rfl (by kernel_rfl) ?_
      conv => arg 6; simp [Act.put]
      repeat (go_big_quiet_step (fail))
      refine wpQuiet_nil ?_
      rintro _ ⟨x', rfl⟩
      have hB2 := bt hB' x'.ok
      obtain ⟨u, hu⟩ : ∃ u, u = x'.wd := ⟨_, rfl⟩
      rw [← hu] at hB2 ⊢
      clear hu x' hN r1 r2 g1' g2' hB' E
      go_wp2
      go_roundw
      case rel => exact ⟨k + 1, by go_num, by omega, hB2⟩
      case measure => simp [intOf]; omega
    · obtain rfl : k = l.length := by omega
      go_wp2
      go_ret
      exact ⟨rfl, hB⟩
theorem takeZ_succ {xs ys : List Int} {k : Nat} (h1 : k < xs.length) (h2 : k < ys.length) (h : xs.take k = ys.take k) (he : xs[k] = ys[k]) : xs.take (k + 1) = ys.take (k + 1) := by
  rw [List.take_succ_eq_append_getElem h1, List.take_succ_eq_append_getElem h2, h, he]
set_option maxRecDepth 100000 in
set_option maxHeartbeats 1600000 in
theorem sameZ_any (a1 a2 : Option Addr) (c1 c2 : Nat) (l m : List Int) (hl : l.length ≤ 100000) (hm : m.length ≤ 100000) (w : World) (h1 : SRow ic 1 w a1 c1 l) (h2 : SRow ic 1 w a2 c2 m) :
    Calls Tryd.prog 26 #[.slice a1 l.length c1, .slice a2 m.length c2] w fun e w' => e = .returned (.bool (decide (l = m))) ∧ Below w.heap.size w w' := by
  have H1 := Lib.hid h1; have H2 := Lib.hid h2; clear h1 h2
  by_cases hlen : l.length = m.length
  · have q1 : ((l.length : Int) != (m.length : Int)) = false := by simp [hlen]
    have HL := Lib.hid hlen
    clear hlen
    go_enter Tryd.func26, Tryd.ntmps26
    go_wp2
    go_loopw [5] (fun i wr => ∃ k : Nat, i = .int .i64 k ∧ k ≤ l.length ∧ Hid (l.take k = m.take k) ∧ Below w.heap.size w wr) (fun i _ => l.length - (intOf i).toNat)
    case atStart => exact ⟨0, rfl, Nat.zero_le _, Lib.hid rfl, Below.refl _ _⟩
    case round =>
      obtain ⟨k, rfl, hk, hE0, hB⟩ := hrel
      by_cases hlt : k < l.length
      · have hlm : k < m.length := by have := HL.out; omega
        have i1 : (k : Int) < (l.length : Int) := by omega
        have i2 : (k : Int) < (m.length : Int) := by omega
        obtain ⟨b1, o1, rfl, g1, r1⟩ := (H1.out.below hB).2.2.2 (by omega)
        obtain ⟨b2, o2, rfl, g2, r2⟩ := (H2.out.below hB).2.2.2 (by omega)
        obtain ⟨x, hx⟩ : ∃ x, x = l[k] := ⟨_, rfl⟩
        obtain ⟨y, hy⟩ : ∃ x, x = m[k] := ⟨_, rfl⟩
        have R1 := r1 k hlt 0 _ rfl
        have R2 := r2 k hlm 0 _ rfl
        rw [← hx] at R1
        rw [← hy] at R2
        rw [Nat.mul_one, Nat.add_zero] at R1 R2
        have HX := Lib.hid hx; have HY := Lib.hid hy
        clear hx hy r1 r2
        have hq : (x != y) = true ∨ (x != y) = false := by cases (x != y) <;> simp
        go_wp2_with fail
        refine wp_region_in (by kernel_rfl) (by kernel_rfl) ?_
        intro W0 hE hN
        have g1' : b1 < W0.heap.size := (by rw [hE.out]; exact g1)
        have g2' : b2 < W0.heap.size := (by rw [hE.out]; exact g2)
        have n1 : ∀ X : Class (Calm W0), X.wd.cell? ⟨b1, o1 + k, none⟩ = some (.int .i64 x) := fun X => (X.ok.cell (p := ⟨b1, o1 + k, none⟩) g1').trans (by rw [hE.out]; exact R1)
        have n2 : ∀ X : Class (Calm W0), X.wd.cell? ⟨b2, o2 + k, none⟩ = some (.int .i64 y) := fun X => (X.ok.cell (p := ⟨b2, o2 + k, none⟩) g2').trans (by rw [hE.out]; exact R2)
        have hB' : Below w.heap.size w W0 := (by rw [hE.out]; exact hB)
        clear hE R1 R2 g1 g2 hB
        repeat (go_big_quiet_step (fail))
        refine wpQuiet_nil ?_
        rintro _ ⟨x', rfl⟩
        have hB2 := bt hB' x'.ok
        obtain ⟨u, hu⟩ : ∃ u, u = x'.wd := ⟨_, rfl⟩
        rw [← hu] at hB2 ⊢
        clear hu x' hN n1 n2 g1' g2' hB'
        rcases hq with hq | hq
        · have hne : x ≠ y := by simpa using hq
          have hlm2 : decide (l = m) = false := decide_eq_false (fun e => by subst e; exact hne (by rw [HX.out, HY.out]))
          have HQ := Lib.hid hlm2
          clear hlm2
          go_wp2
          go_ret
          exact ⟨by rw [HQ.out]; rfl, hB2⟩
        · have hne : x = y := by simpa using hq
          have hT : Hid (l.take (k + 1) = m.take (k + 1)) := Lib.hid (takeZ_succ hlt hlm hE0.out (by rw [← HX.out, ← HY.out]; exact hne))
          clear hne
          go_wp2
          go_roundw
          case rel => exact ⟨k + 1, by go_num, by omega, hT, hB2⟩
          case measure => simp [intOf]; omega
      · obtain rfl : k = l.length := by omega
        have e : l = m := by
          have := hE0.out
          rwa [List.take_length, HL.out, List.take_length] at this
        have HS := Lib.hid (decide_eq_true e)
        clear e
        go_wp2
        go_ret
        exact ⟨by rw [HS.out]; rfl, hB⟩
  · have q1 : ((l.length : Int) != (m.length : Int)) = true := by simp; omega
    rw [decide_eq_false (fun e : l = m => hlen (by rw [e]))]
    clear hlen
    go_enter Tryd.func26, Tryd.ntmps26
    go_wp2
    go_ret
    exact ⟨rfl, Below.refl _ _⟩
end Go.Proofs.YtahopnlibmiafaaDoor
namespace Go.Proofs.YtahopnlibmiafaaDoor
open Go.RowKit Go.ChangeShapes Go.WideShapes Go.Deep
section
variable {H : Type} {enc : TypeId × Value → H} {P : Program} {w : World} {base : Nat} {spare : Nat → Bool} {held : Bool}
theorem open_structs {α : Type} {r : Reach} {b0 : Nat} {t e : TypeId} {v : Value} {d : DataW H} {p : List MemPlace} {ks : List CellKind} {en : α → List Value} {k : Nat} {Good : α → Prop} (n : Nat)
    (ht : P.underlying t = some (.slice e)) (hks : flat P n e = some ks) (hce : P.cellsOf e = k) (hk : 0 < k) (hlen : ∀ x, (en x).length = k) (hmk : ∀ cs, CellsAre ks cs → ∃ x, cs = en x ∧ Good x)
    (hv : Value.okWide P w r b0 t v) (h : DataW.Trod enc P w base spare held t v d p) : ∃ a cap, ∃ l : List α, v = .slice a l.length cap ∧ SRow en k w a cap l ∧ ∀ x ∈ l, Good x := by
  obtain ⟨a, len, cap, rfl⟩ := okWide_slice ht hv
  obtain ⟨fuel, hf⟩ := h
  rcases open_slice ht hf with ⟨hcs, _⟩ | ⟨x, len', cap', m, n', D, Pl, hcs, hb, hl, hm, hmm, _, hx⟩
  · simp [Value.cells] at hcs
    obtain ⟨rfl, rfl, rfl⟩ := hcs
    exact ⟨none, 0, [], rfl, srow_nil w, by simp⟩
  · simp [Value.cells] at hcs
    obtain ⟨rfl, rfl, rfl⟩ := hcs
    have hlm : len ≤ m := by rw [hmm]; split <;> omega
    have key : ∀ i, i < len → ∃ y : α, Good y ∧ ∀ j, j < k → w.cell? ((x.add (i * k)).add j) = (en y)[j]? := fun i hi => by
      obtain ⟨cs', h1, h2⟩ := hx i (by omega)
      rw [hce] at h1
      obtain ⟨_, hl2, hc2⟩ := World.cells?_some h1
      obtain ⟨y, rfl, hg⟩ := hmk cs' (flat_are n e ks _ _ _ hks h2)
      exact ⟨y, hg, hc2⟩
    rcases Nat.eq_zero_or_pos len with h0 | h0
    · subst h0
      exact ⟨some x, cap, [], rfl, ⟨Nat.zero_le _, hm, (fun h => by cases h), fun h => absurd h (by simp)⟩, by simp⟩
    · obtain ⟨y0, _, _⟩ := key 0 h0
      have : Inhabited α := ⟨y0⟩
      obtain ⟨f, hf2⟩ := choose_lt key
      have hll : ((List.range len).map f).length = len := by simp
      refine ⟨some x, cap, (List.range len).map f, by rw [hll], ⟨by rw [hll]; exact hl, hm, (fun h => by cases h), fun _ => ?_⟩, fun z hz => ?_⟩
      · have h1 := (hf2 0 h0).2 0 hk
        rw [Nat.zero_mul, Addr.add_zero', Addr.add_zero'] at h1
        have hy : (en (f 0))[0]? = some ((en (f 0))[0]'(by rw [hlen]; exact hk)) := List.getElem?_eq_getElem _
        rw [hy] at h1
        obtain ⟨b, off, spot⟩ := x
        have hs : spot = none := World.cell?_spot h1
        subst hs
        refine ⟨b, off, rfl, ?_, fun i hi j u hu => ?_⟩
        · unfold World.cell? at h1
          cases ho : w.heap[b]? with
          | none => simp [ho] at h1
          | some o => exact (Array.getElem?_eq_some_iff.1 ho).1
        · have hi' : i < len := by simpa using hi
          have hj : j < k := by
            have := (List.getElem?_eq_some_iff.1 hu).1
            rwa [hlen] at this
          have h2 := (hf2 i hi').2 j hj
          rw [Addr.add_lit, Addr.add_lit] at h2
          rw [h2]
          simpa using hu
      · obtain ⟨i, hi, rfl⟩ := List.mem_map.1 hz
        exact (hf2 i (by simpa using hi)).1
end
end Go.Proofs.YtahopnlibmiafaaDoor
namespace Go.Proofs.YtahopnlibmiafaaDoor
open Go.RowKit
abbrev ki : CellKind := some (some .i64)
abbrev ku : CellKind := some (some .u64)
def itmK : List CellKind := [ki, ku, ki, ki, ki, ki, ki, ki, some none, ki, ki, ku, ki]
theorem itm_mk (cs : List Value) (h : CellsAre itmK cs) : ∃ x : Itm, cs = itm x ∧ GdI x := by
  obtain ⟨c0, r0, rfl, q0, h⟩ := CellsAre.cons h
  obtain ⟨c1, r1, rfl, q1, h⟩ := CellsAre.cons h
  obtain ⟨c2, r2, rfl, q2, h⟩ := CellsAre.cons h
  obtain ⟨c3, r3, rfl, q3, h⟩ := CellsAre.cons h
  obtain ⟨c4, r4, rfl, q4, h⟩ := CellsAre.cons h
  obtain ⟨c5, r5, rfl, q5, h⟩ := CellsAre.cons h
  obtain ⟨c6, r6, rfl, q6, h⟩ := CellsAre.cons h
  obtain ⟨c7, r7, rfl, q7, h⟩ := CellsAre.cons h
  obtain ⟨c8, r8, rfl, q8, h⟩ := CellsAre.cons h
  obtain ⟨c9, r9, rfl, q9, h⟩ := CellsAre.cons h
  obtain ⟨c10, r10, rfl, q10, h⟩ := CellsAre.cons h
  obtain ⟨c11, r11, rfl, q11, h⟩ := CellsAre.cons h
  obtain ⟨c12, r12, rfl, q12, h⟩ := CellsAre.cons h
  obtain rfl := CellsAre.nil h
  obtain ⟨n0, rfl, _⟩ := q0
  obtain ⟨n1, rfl, w1⟩ := q1
  obtain ⟨n2, rfl, _⟩ := q2
  obtain ⟨n3, rfl, _⟩ := q3
  obtain ⟨n4, rfl, _⟩ := q4
  obtain ⟨n5, rfl, _⟩ := q5
  obtain ⟨n6, rfl, _⟩ := q6
  obtain ⟨n7, rfl, _⟩ := q7
  obtain ⟨s8, rfl, w8⟩ := q8
  obtain ⟨n9, rfl, _⟩ := q9
  obtain ⟨n10, rfl, _⟩ := q10
  obtain ⟨n11, rfl, _⟩ := q11
  obtain ⟨n12, rfl, _⟩ := q12
  refine ⟨⟨⟨n0, n1, n2, n3, n4, n5, n6, n7, s8⟩, n9, n10, n11, n12⟩, rfl, w8, ?_⟩
  simp [Lit.wf] at w1
  have h0 : IntKind.u64.min = 0 := by decide
  show 0 ≤ n1
  omega
end Go.Proofs.YtahopnlibmiafaaDoor
