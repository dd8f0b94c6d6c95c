/- Parts of a proof, printed by a program of mine out of my texts: StChosen, StFor, StFor2. -/
import Derived.Test.YtahopnlibmiafaaDoorMB
import Derived.Test.YtahopnlibmiafaaDoorMI
import Derived.Test.YtahopnlibmiafaaDoorMU
import Derived.Test.YtahopnlibmiafaaDoorMX
set_option linter.unusedSimpArgs false
set_option linter.unusedVariables false
namespace Go.Proofs.YtahopnlibmiafaaDoor
open Go.RowKit
section
variable {β : Type}
def chL (wanted : Itm → Bool) (f : Nat → Itm → β) (l : List Itm) (j : Nat) : List β := (List.range j).filterMap fun i => l[i]?.bind fun x => if wanted x then some (f i x) else none
theorem chL_zero (wanted : Itm → Bool) (f : Nat → Itm → β) (l : List Itm) : chL wanted f l 0 = [] := rfl
theorem chL_yes {wanted : Itm → Bool} {f : Nat → Itm → β} {l : List Itm} {j : Nat} (h : j < l.length) (hw : wanted l[j] = true) : chL wanted f l (j + 1) = chL wanted f l j ++ [f j l[j]] := by
  unfold chL
  rw [List.range_succ, List.filterMap_append]
  simp [h, hw]
theorem chL_no {wanted : Itm → Bool} {f : Nat → Itm → β} {l : List Itm} {j : Nat} (h : j < l.length) (hw : wanted l[j] = false) : chL wanted f l (j + 1) = chL wanted f l j := by
  unfold chL
  rw [List.range_succ, List.filterMap_append]
  simp [h, hw]
theorem chL_len (wanted : Itm → Bool) (f : Nat → Itm → β) (l : List Itm) (j : Nat) : (chL wanted f l j).length ≤ j := by
  unfold chL
  exact Nat.le_trans (List.length_filterMap_le _ _) (by simp)
end
set_option maxRecDepth 100000 in
set_option maxHeartbeats 1600000 in
theorem asked_any (a : Option Addr) (cap : Nat) (l : List Itm) (now : Int) (hd : ∀ x ∈ l, x.b.da.size ≤ maxLen) (w : World) (hrow : SRow itm 13 w a cap l) :
    Calls Tryd.prog 59 #[.slice a l.length cap, .int .i64 now] w fun e w' => e = .returned (.int .i64 (askS l now)) ∧ Below w.heap.size w w' := by
  have g1 := valid_any a cap l hd w hrow
  unfold askS
  obtain ⟨c, hc⟩ : ∃ c, (chkS l).1 = c := ⟨_, rfl⟩
  rw [hc] at g1 ⊢
  replace g1 := Lib.hid g1
  clear hc hd hrow
  by_cases h : c = 0
  · subst h
    rw [if_neg (fun h => h rfl)]
    have q0 : ((0 : Int) == 0) = true := rfl
    by_cases h1 : now < 0
    · rw [if_pos (.inl h1)]
      have t1 : decide (now < 0) = true := decide_eq_true h1
      go_enter Tryd.func59, Tryd.ntmps59
      go_wp2_with (go_at_call 74; (with_reducible refine (g1.out).mono ?_); rintro e w2 ⟨rfl, h2⟩)
      go_ret
      exact ⟨rfl, h2⟩
    · have t1 : decide (now < 0) = false := decide_eq_false h1
      by_cases h2 : 1099511627776 < now
      · rw [if_pos (.inr h2)]
        have t2 : decide (1099511627776 < now) = true := decide_eq_true h2
        go_enter Tryd.func59, Tryd.ntmps59
        go_wp2_with (go_at_call 74; (with_reducible refine (g1.out).mono ?_); rintro e w2 ⟨rfl, h2⟩)
        go_ret
        exact ⟨rfl, h2⟩
      · rw [if_neg (by omega)]
        have t2 : decide (1099511627776 < now) = false := decide_eq_false h2
        go_enter Tryd.func59, Tryd.ntmps59
        go_wp2_with (go_at_call 74; (with_reducible refine (g1.out).mono ?_); rintro e w2 ⟨rfl, hw2⟩)
        go_ret
        exact ⟨rfl, hw2⟩
  · rw [if_pos h]
    have q0 : (c == 0) = false := by simpa using h
    have hun : undef = Value.tuple #[] := rfl
    go_enter Tryd.func59, Tryd.ntmps59
    go_wp2_with (go_at_call 74; (with_reducible refine (g1.out).mono ?_); rintro e w2 ⟨rfl, h2⟩)
    go_ret
    exact ⟨rfl, h2⟩
set_option maxRecDepth 100000 in
set_option maxHeartbeats 1600000 in
theorem over_any (x : Itm) (now : Int) (hda : x.b.da.size ≤ maxLen) (w : World) : Calls Tryd.prog 62 #[.agg #[.int .i64 x.b.no, .int .u64 x.b.sq, .int .i64 x.b.of, .int .i64 x.b.de, .int .i64 x.b.pr, .int .i64 x.b.bo, .int .i64 x.b.li, .int .i64 x.b.to, .string x.b.da, .int .i64 x.st, .int .i64 x.to, .int .u64 x.off, .int .i64 x.od], .int .i64 now] w fun e w' => e = .returned (.bool (overI x now)) ∧ Below w.heap.size w w' := by
  have g1 : ∀ W, Calls Tryd.prog 98 #[.agg #[.int .i64 x.b.no, .int .u64 x.b.sq, .int .i64 x.b.of, .int .i64 x.b.de, .int .i64 x.b.pr, .int .i64 x.b.bo, .int .i64 x.b.li, .int .i64 x.b.to, .string x.b.da], .int .i64 now] W fun e w' => e = .returned (.tuple #[.bool (overI x now), .int .i64 (expM x.b.no x.b.sq x.b.of x.b.de x.b.pr x.b.bo x.b.li x.b.to x.b.da.size now).2]) ∧ Below W.heap.size W w' := fun W => expired_any x.b.no x.b.sq x.b.of x.b.de x.b.pr x.b.bo x.b.li x.b.to now x.b.da hda W
  obtain ⟨q, hq⟩ : ∃ q, overI x now = q := ⟨_, rfl⟩
  obtain ⟨z, hz⟩ : ∃ q, (expM x.b.no x.b.sq x.b.of x.b.de x.b.pr x.b.bo x.b.li x.b.to x.b.da.size now).2 = q := ⟨_, rfl⟩
  rw [hq, hz] at g1
  rw [hq]
  replace g1 := Lib.hid g1
  clear hq hz hda
  go_enter Tryd.func62, Tryd.ntmps62
  go_wp2_with (go_at_call 98; (with_reducible refine (g1.out _).mono ?_); rintro e w2 ⟨rfl, h2⟩)
  go_ret
  exact ⟨rfl, by (repeat (first | (with_reducible assumption) | (with_reducible exact Below.refl _ _) | (with_reducible refine beld_drew ?_) | ((with_reducible refine bset' ?_ ?_); (first | (focus (dsimp only; assumption)) | (focus (simp; done)) | (focus (dsimp only; omega)))) | (with_reducible refine belt_alloc ?_) | ((with_reducible refine zeroed_below' ?_ ?_); (first | (focus (simp; done)) | (focus (dsimp only; omega)))) | (with_reducible refine bt ?_ (by assumption))))⟩
def wantF (prio now : Int) (x : Itm) : Bool := decide (x.st = 1 ∧ x.b.pr = prio) && !overI x now
set_option maxRecDepth 100000 in
set_option maxHeartbeats 1600000 in
theorem for1_any (x : Itm) (prio now : Int) (p q : Nat) (hda : x.b.da.size ≤ maxLen) (w : World) (hp : blk w p = some #[.int .i64 prio]) (hq : blk w q = some #[.int .i64 now]) :
    Calls Tryd.prog 66 #[.agg #[.int .i64 x.b.no, .int .u64 x.b.sq, .int .i64 x.b.of, .int .i64 x.b.de, .int .i64 x.b.pr, .int .i64 x.b.bo, .int .i64 x.b.li, .int .i64 x.b.to, .string x.b.da, .int .i64 x.st, .int .i64 x.to, .int .u64 x.off, .int .i64 x.od], .pointer (some ⟨p, 0, none⟩), .pointer (some ⟨q, 0, none⟩)] w fun e w' => e = .returned (.bool (wantF prio now x)) ∧ Below w.heap.size w w' := by
  have go := Lib.hid (fun W => over_any x now hda W)
  have nq := kn hq
  have np := kn hp
  unfold wantF
  obtain ⟨o, ho⟩ : ∃ o, overI x now = o := ⟨_, rfl⟩
  rw [ho] at go ⊢
  clear ho hda hp hq
  by_cases h1 : x.st = 1
  · have t1 : (x.st == 1) = true := by simpa using h1
    by_cases h2 : x.b.pr = prio
    · have t2 : (x.b.pr == prio) = true := by simpa using h2
      rw [decide_eq_true ⟨h1, h2⟩, Bool.true_and]
      clear h1 h2
      go_enter Tryd.func66, Tryd.ntmps66
      go_wp2_with (go_at_call 62; (with_reducible refine (go.out _).mono ?_); rintro e w2 ⟨rfl, h2⟩)
      go_ret
      exact ⟨rfl, by (repeat (first | (with_reducible assumption) | (with_reducible exact Below.refl _ _) | (with_reducible refine beld_drew ?_) | ((with_reducible refine bset' ?_ ?_); (first | (focus (dsimp only; assumption)) | (focus (simp; done)) | (focus (dsimp only; omega)))) | (with_reducible refine belt_alloc ?_) | ((with_reducible refine zeroed_below' ?_ ?_); (first | (focus (simp; done)) | (focus (dsimp only; omega)))) | (with_reducible refine bt ?_ (by assumption))))⟩
    · have t2 : (x.b.pr == prio) = false := by simpa using h2
      have hun : undef = Value.tuple #[] := rfl
      rw [decide_eq_false (fun h => h2 h.2), Bool.false_and]
      clear h1 h2
      go_enter Tryd.func66, Tryd.ntmps66
      go_wp2
      go_ret
      exact ⟨rfl, by (repeat (first | (with_reducible assumption) | (with_reducible exact Below.refl _ _) | (with_reducible refine beld_drew ?_) | ((with_reducible refine bset' ?_ ?_); (first | (focus (dsimp only; assumption)) | (focus (simp; done)) | (focus (dsimp only; omega)))) | (with_reducible refine belt_alloc ?_) | ((with_reducible refine zeroed_below' ?_ ?_); (first | (focus (simp; done)) | (focus (dsimp only; omega)))) | (with_reducible refine bt ?_ (by assumption))))⟩
  · have t1 : (x.st == 1) = false := by simpa using h1
    have hun : undef = Value.tuple #[] := rfl
    rw [decide_eq_false (fun h => h1 h.1), Bool.false_and]
    clear h1
    go_enter Tryd.func66, Tryd.ntmps66
    go_wp2
    go_ret
    exact ⟨rfl, by (repeat (first | (with_reducible assumption) | (with_reducible exact Below.refl _ _) | (with_reducible refine beld_drew ?_) | ((with_reducible refine bset' ?_ ?_); (first | (focus (dsimp only; assumption)) | (focus (simp; done)) | (focus (dsimp only; omega)))) | (with_reducible refine belt_alloc ?_) | ((with_reducible refine zeroed_below' ?_ ?_); (first | (focus (simp; done)) | (focus (dsimp only; omega)))) | (with_reducible refine bt ?_ (by assumption))))⟩
set_option maxRecDepth 100000 in
theorem exp1_any (x : Itm) (now : Int) (q : Nat) (hda : x.b.da.size ≤ maxLen) (w : World) (hq : blk w q = some #[.int .i64 now]) :
    Calls Tryd.prog 61 #[.agg #[.int .i64 x.b.no, .int .u64 x.b.sq, .int .i64 x.b.of, .int .i64 x.b.de, .int .i64 x.b.pr, .int .i64 x.b.bo, .int .i64 x.b.li, .int .i64 x.b.to, .string x.b.da, .int .i64 x.st, .int .i64 x.to, .int .u64 x.off, .int .i64 x.od], .pointer (some ⟨q, 0, none⟩)] w fun e w' => e = .returned (.bool (overI x now)) ∧ Below w.heap.size w w' := by
  have go := Lib.hid (fun W => over_any x now hda W)
  have nq := kn hq
  clear hq hda
  go_enter Tryd.func61, Tryd.ntmps61
  go_wp2_with (go_at_call 62; (with_reducible refine (go.out _).mono ?_); rintro e w2 ⟨rfl, h2⟩)
  go_ret
  exact ⟨rfl, by (repeat (first | (with_reducible assumption) | (with_reducible exact Below.refl _ _) | (with_reducible refine beld_drew ?_) | ((with_reducible refine bset' ?_ ?_); (first | (focus (dsimp only; assumption)) | (focus (simp; done)) | (focus (dsimp only; omega)))) | (with_reducible refine belt_alloc ?_) | ((with_reducible refine zeroed_below' ?_ ?_); (first | (focus (simp; done)) | (focus (dsimp only; omega)))) | (with_reducible refine bt ?_ (by assumption))))⟩
set_option maxRecDepth 100000 in
theorem for2_any (i : Int) (x : Itm) (w : World) : Calls Tryd.prog 67 #[.int .i64 i, .agg #[.int .i64 x.b.no, .int .u64 x.b.sq, .int .i64 x.b.of, .int .i64 x.b.de, .int .i64 x.b.pr, .int .i64 x.b.bo, .int .i64 x.b.li, .int .i64 x.b.to, .string x.b.da, .int .i64 x.st, .int .i64 x.to, .int .u64 x.off, .int .i64 x.od]] w fun e w' => e = .returned (.int .i64 i) ∧ Below w.heap.size w w' := by
  go_enter Tryd.func67, Tryd.ntmps67
  go_wp2
  go_ret
  exact ⟨rfl, by (repeat (first | (with_reducible assumption) | (with_reducible exact Below.refl _ _) | (with_reducible refine beld_drew ?_) | ((with_reducible refine bset' ?_ ?_); (first | (focus (dsimp only; assumption)) | (focus (simp; done)) | (focus (dsimp only; omega)))) | (with_reducible refine belt_alloc ?_) | ((with_reducible refine zeroed_below' ?_ ?_); (first | (focus (simp; done)) | (focus (dsimp only; omega)))) | (with_reducible refine bt ?_ (by assumption))))⟩
set_option maxRecDepth 100000 in
theorem exp2_any (i : Int) (x : Itm) (w : World) : Calls Tryd.prog 63 #[.int .i64 i, .agg #[.int .i64 x.b.no, .int .u64 x.b.sq, .int .i64 x.b.of, .int .i64 x.b.de, .int .i64 x.b.pr, .int .i64 x.b.bo, .int .i64 x.b.li, .int .i64 x.b.to, .string x.b.da, .int .i64 x.st, .int .i64 x.to, .int .u64 x.off, .int .i64 x.od]] w fun e w' => e = .returned (.agg #[.int .i64 x.b.no, .int .u64 x.b.sq, .int .i64 x.b.of]) ∧ Below w.heap.size w w' := by
  go_enter Tryd.func63, Tryd.ntmps63
  go_wp2
  refine ret_blk (b := w.heap.size + 1) (c := #[.int .i64 x.b.no, .int .u64 x.b.sq, .int .i64 x.b.of]) (v := .agg #[.int .i64 x.b.no, .int .u64 x.b.sq, .int .i64 x.b.of]) (by (apply blk_to; (focus (repeat (first | (with_reducible assumption) | (with_reducible apply blk_drew) | (with_reducible apply blk_set) | ((with_reducible apply blk_other'); (first | (focus (dsimp only; assumption)) | (focus (simp; done)) | (focus (dsimp only; omega)))) | ((with_reducible apply blk_alloc_new); (first | (with_reducible rfl) | (focus (simp; done)) | (focus (simp; omega)))) | (with_reducible apply blk_alloc) | ((with_reducible apply blk_below); (with_reducible assumption))))); rfl)) (fun W' hc => by simp [results, Tryd.results63, go_sem, hc]) rfl ⟨rfl, by (repeat (first | (with_reducible assumption) | (with_reducible exact Below.refl _ _) | (with_reducible refine beld_drew ?_) | ((with_reducible refine bset' ?_ ?_); (first | (focus (dsimp only; assumption)) | (focus (simp; done)) | (focus (dsimp only; omega)))) | (with_reducible refine belt_alloc ?_) | ((with_reducible refine zeroed_below' ?_ ?_); (first | (focus (simp; done)) | (focus (dsimp only; omega)))) | (with_reducible refine bt ?_ (by assumption))))⟩
theorem infoI64 : (Tryd.prog.info? 3).map (fun i => (i.zero, i.size, i.bytes)) = some (some (.int .i64 0), 1, 8) := by kernel_rfl
theorem infoID : (Tryd.prog.info? 26).map (fun i => (i.zero, i.size, i.bytes)) = some (some (.agg #[.int .i64 0, .int .u64 0, .int .i64 0]), 3, 24) := by kernel_rfl
set_option maxRecDepth 100000 in
set_option maxHeartbeats 3200000 in
theorem chI_any (a : Option Addr) (cap : Nat) (l : List Itm) (q0 q1 : Nat) (wanted : Itm → Bool) (Hd : World → Prop) (hB : ∀ W W', Hd W → Below W.heap.size W W' → Hd W') (hl : l.length ≤ 100000)
    (hw : ∀ x ∈ l, ∀ W, Hd W → Calls Tryd.prog 66 #[.agg #[.int .i64 x.b.no, .int .u64 x.b.sq, .int .i64 x.b.of, .int .i64 x.b.de, .int .i64 x.b.pr, .int .i64 x.b.bo, .int .i64 x.b.li, .int .i64 x.b.to, .string x.b.da, .int .i64 x.st, .int .i64 x.to, .int .u64 x.off, .int .i64 x.od], .pointer (some ⟨q0, 0, none⟩), .pointer (some ⟨q1, 0, none⟩)] W fun e w' => e = .returned (.bool (wanted x)) ∧ Below W.heap.size W w') (w : World) (h0 : Hd w) (hrow : SRow itm 13 w a cap l) :
    Calls Tryd.prog 65 #[.slice a l.length cap, .func (.func 66) #[] #[.pointer (some ⟨q0, 0, none⟩), .pointer (some ⟨q1, 0, none⟩)], .func (.func 67) #[] #[]] w fun e w' =>
      ∃ v, e = .returned v ∧ w'.ownsRow w.heap.size 3 1 v (chL wanted (fun i _ => (i : Int)) l l.length).length (rowC ic (chL wanted (fun i _ => (i : Int)) l l.length)) ∧ Below w.heap.size w w' := by
  obtain ⟨i0, hi, hz0, hz1, hz2⟩ := info_parts infoI64
  have Hi := Lib.hid hi; have Hz0 := Lib.hid hz0; have Hz1 := Lib.hid hz1; have Hz2 := Lib.hid hz2
  have HR := Lib.hid hrow; have HW := Lib.hid hw; have H0 := Lib.hid h0
  have hcap := hrow.1
  have hmax := hrow.2.1
  unfold maxLen at hmax
  replace hB := Lib.hid hB
  clear hi hz0 hz1 hz2 hrow hw h0
  go_enter Tryd.func65, Tryd.ntmps65
  go_wp2
  go_loopw [7, 12] (fun o i wr => ∃ j : Nat, i = .int .i64 j ∧ j ≤ l.length ∧ Below w.heap.size w wr ∧ Hid (wr.ownsRow w.heap.size 3 1 o (chL wanted (fun i _ => (i : Int)) l j).length (rowC ic (chL wanted (fun i _ => (i : Int)) l j)))) (fun _ i _ => l.length - (intOf i).toNat)
  case atStart => exact ⟨0, rfl, Nat.zero_le _, Below.refl _ _, Lib.hid (by rw [chL_zero]; simpa [rowC] using World.ownsRow_nil w _ _ _)⟩
  case round =>
    obtain ⟨j, rfl, hj, hBw, hown⟩ := hrel
    by_cases hlt : j < l.length
    · have hltz : (j : Int) < (l.length : Int) := by omega
      obtain ⟨b, off, hab, hbl, hcs⟩ := HR.out.2.2.2 (by omega)
      subst hab
      obtain ⟨x, hx⟩ : ∃ x, x = l[j] := ⟨_, rfl⟩
      have hr := hcs j hlt
      rw [← hx] at hr
      have hrw := range_below hbl hr hBw
      have gw := HW.out x (by rw [hx]; exact List.getElem_mem _)
      have HX := Lib.hid hx
      have GW := Lib.hid gw
      have gf := Lib.hid (fun W => for2_any (j : Int) x W)
      have bwr : b < wr.heap.size := Nat.lt_of_lt_of_le hbl hBw.size
      clear hx hr hcs gw
      go_upto_region 4 with fail
      refine wp_region_tail0 2 ?_
      intro W0 hE hN
      have hrW : W0.rangeAt b (off + j * 13) (itm x) := (by rw [hE.out]; exact hrw)
      have hBW : Below w.heap.size w W0 := (by rw [hE.out]; exact hBw)
      have hoW := hown
      rw [← hE.out] at hoW
      have bW : b < W0.heap.size := (by rw [hE.out]; exact bwr)
      clear hE hrw hBw hown bwr
      simp only [List.take_succ_cons, List.take_zero, List.drop_succ_cons, List.drop_zero]
      repeat (go_big_quiet_step (fail))
      refine wpQuiet_nil ?_
      rintro _ ⟨x', rfl⟩
      have hr1 := range_below bW hrW x'.ok
      have hB1 := bt hBW x'.ok
      have ho1 := Lib.hid (owns_belowS hoW.out x'.ok)
      obtain ⟨u, hu⟩ : ∃ u, u = x'.wd := ⟨_, rfl⟩
      rw [← hu] at hr1 hB1 ho1 ⊢
      clear hu x' hN hrW hBW hoW bW
      refine wpList_load_mid rfl 67 (.tmp 15) rfl b (off + j * 13) rfl (itm x) _ hr1 Tryd.underlying67 rfl (by kernel_rfl) ?_
      conv => arg 5; simp [Act.put]
      refine Go.Great.wpList_allocTo rfl (some 9) rfl (.pointer (some ⟨u.heap.size, 0, none⟩)) (.cells #[.int .i64 0, .int .u64 0, .int .i64 0, .int .i64 0, .int .i64 0, .int .i64 0, .int .i64 0, .int .i64 0, .string ⟨#[]⟩, .int .i64 0, .int .i64 0, .int .u64 0, .int .i64 0] 67) (by kernel_rfl) ?_
      conv => arg 5; simp [Act.put]
      refine wpList_assign rfl (.tmp 14) (.int .i64 j) rfl rfl ?_
      conv => arg 5; simp [Act.put]
      refine wpList_store_midB 67 (.tmp 9) (.tmp 16) u.heap.size 0 #[.int .i64 0, .int .u64 0, .int .i64 0, .int .i64 0, .int .i64 0, .int .i64 0, .int .i64 0, .int .i64 0, .string ⟨#[]⟩, .int .i64 0, .int .i64 0, .int .u64 0, .int .i64 0] #[.int .i64 x.b.no, .int .u64 x.b.sq, .int .i64 x.b.of, .int .i64 x.b.de, .int .i64 x.b.pr, .int .i64 x.b.bo, .int .i64 x.b.li, .int .i64 x.b.to, .string x.b.da, .int .i64 x.st, .int .i64 x.to, .int .u64 x.off, .int .i64 x.od] #[.int .i64 x.b.no, .int .u64 x.b.sq, .int .i64 x.b.of, .int .i64 x.b.de, .int .i64 x.b.pr, .int .i64 x.b.bo, .int .i64 x.b.li, .int .i64 x.b.to, .string x.b.da, .int .i64 x.st, .int .i64 x.to, .int .u64 x.off, .int .i64 x.od] (blk_alloc_new _ _ _ rfl) rfl rfl rfl rfl (by simp) (by kernel_rfl) (by kernel_rfl) (by kernel_rfl) ?_
      intro w1 kb1 o1 B1 z1
      conv => arg 5; simp [Act.put]
      have hb1 : Below w.heap.size w w1 := B1 _ _ hB1.size (hB1.alloc hB1.size _)
      have hBu : Below u.heap.size u w1 := B1 _ _ (Nat.le_refl _) ((Below.refl _ _).alloc (Nat.le_refl _) _)
      have ho2 := Lib.hid (owns_belowS ho1.out hBu)
      have nb1 := kn kb1
      obtain ⟨c0, hc0⟩ : ∃ c, c = u.heap.size := ⟨_, rfl⟩
      rw [← hc0] at kb1 nb1 ⊢
      clear o1 B1 z1 ho1 hBu hr1 hB1 hc0 u
      obtain ⟨q, hq⟩ : ∃ q, wanted x = q := ⟨_, rfl⟩
      rw [hq] at GW
      have g5 := Lib.hid (GW.out w1 (hB.out _ _ H0.out hb1))
      clear GW
      have lc := chL_len wanted (fun i _ => (i : Int)) l j
      cases q
      · go_wp2_with (go_at_call 66; (with_reducible refine (g5.out).mono ?_); rintro e w2 ⟨rfl, h2⟩)
        have e5 : chL wanted (fun i _ => (i : Int)) l (j + 1) = chL wanted (fun i _ => (i : Int)) l j := chL_no hlt (by rw [← HX.out]; exact hq)
        have hN : Hid (w2.ownsRow w.heap.size 3 1 _ (chL wanted (fun i _ => (i : Int)) l (j + 1)).length (rowC ic (chL wanted (fun i _ => (i : Int)) l (j + 1)))) := Lib.hid (by rw [e5]; exact owns_belowS ho2.out h2)
        have hb2 := bt hb1 h2
        go_roundw
        case rel => exact ⟨j + 1, by go_num, by omega, hb2, hN⟩
        case measure => simp [intOf]; omega
      · have e5 : chL wanted (fun i _ => (i : Int)) l (j + 1) = chL wanted (fun i _ => (i : Int)) l j ++ [(j : Int)] := by
          have := chL_yes (wanted := wanted) (f := (fun i _ => (i : Int))) hlt (by rw [← HX.out]; exact hq)
          (try rw [← HX.out] at this)
          exact this
        have E5 := Lib.hid e5
        clear e5 hq
        go_upto_region 6 with (go_at_call 66; (with_reducible refine (g5.out).mono ?_); rintro e w2 ⟨rfl, h2⟩; (have kb2 := blk_below h2 kb1); (have nb2 := kn kb2); (have hb2 := bt hb1 h2); (have ho3 := Lib.hid (owns_belowS ho2.out h2)); clear h2 kb1 nb1 hb1 ho2)
        go_wp2_with (first
          | (go_at_call 67; (with_reducible refine (gf.out _).mono ?_); rintro e w3 ⟨rfl, h3⟩; (have hb3 := bt hb2 h3); (have ho4 := Lib.hid (owns_belowS ho3.out h3)); (have s3 := hb3.size); clear h3 kb2 nb2 hb2 ho3)
          | (at_builtin; go_loud (refine wpList_append_struct (enc := ic) rfl _ _ 35 rfl w.heap.size 3 i0 (.int .i64 0) 1 8 Tryd.underlying35 Hi.out Hz0.out Hz1.out Hz2.out rfl (by decide) ic_len ic_one _ (chL wanted (fun i _ => (i : Int)) l j) rfl (ho4.out.alloc _) w3.heap.size 1 (j : Int) rfl (blk_alloc_new _ _ _ rfl) (by unfold maxLen; omega) (by omega) (by simp; omega) ?_); intro v' wb hown2 hgrow2))
        have hB3 : Below w.heap.size w wb := (hb3.alloc hb3.size _).grown hgrow2 (by simp; omega) (fun k e => (ho4.out.lt k e).1)
        have hN : Hid (wb.ownsRow w.heap.size 3 1 v' (chL wanted (fun i _ => (i : Int)) l (j + 1)).length (rowC ic (chL wanted (fun i _ => (i : Int)) l (j + 1)))) := Lib.hid (by rw [E5.out]; exact hown2)
        clear hown2 hgrow2 ho4
        go_wp2
        go_roundw
        case rel => exact ⟨j + 1, by go_num, by omega, hB3, hN⟩
        case measure => simp [intOf]; omega
    · obtain rfl : j = l.length := by omega
      go_wp2
      go_ret
      exact ⟨_, rfl, hown.out, hBw⟩
set_option maxRecDepth 100000 in
set_option maxHeartbeats 3200000 in
theorem chK_any (a : Option Addr) (cap : Nat) (l : List Itm) (q0 : Nat) (wanted : Itm → Bool) (Hd : World → Prop) (hB : ∀ W W', Hd W → Below W.heap.size W W' → Hd W') (hl : l.length ≤ 100000)
    (hw : ∀ x ∈ l, ∀ W, Hd W → Calls Tryd.prog 61 #[.agg #[.int .i64 x.b.no, .int .u64 x.b.sq, .int .i64 x.b.of, .int .i64 x.b.de, .int .i64 x.b.pr, .int .i64 x.b.bo, .int .i64 x.b.li, .int .i64 x.b.to, .string x.b.da, .int .i64 x.st, .int .i64 x.to, .int .u64 x.off, .int .i64 x.od], .pointer (some ⟨q0, 0, none⟩)] W fun e w' => e = .returned (.bool (wanted x)) ∧ Below W.heap.size W w') (w : World) (h0 : Hd w) (hrow : SRow itm 13 w a cap l) :
    Calls Tryd.prog 60 #[.slice a l.length cap, .func (.func 61) #[] #[.pointer (some ⟨q0, 0, none⟩)], .func (.func 63) #[] #[]] w fun e w' =>
      ∃ v, e = .returned v ∧ w'.ownsRow w.heap.size 26 3 v (chL wanted (fun _ x => bid x.b) l l.length).length (rowC idL (chL wanted (fun _ x => bid x.b) l l.length)) ∧ Below w.heap.size w w' := by
  obtain ⟨i0, hi, hz0, hz1, hz2⟩ := info_parts infoID
  have Hi := Lib.hid hi; have Hz0 := Lib.hid hz0; have Hz1 := Lib.hid hz1; have Hz2 := Lib.hid hz2
  have HR := Lib.hid hrow; have HW := Lib.hid hw; have H0 := Lib.hid h0
  have hcap := hrow.1
  have hmax := hrow.2.1
  unfold maxLen at hmax
  replace hB := Lib.hid hB
  clear hi hz0 hz1 hz2 hrow hw h0
  go_enter Tryd.func60, Tryd.ntmps60
  go_wp2
  go_loopw [7, 12] (fun o i wr => ∃ j : Nat, i = .int .i64 j ∧ j ≤ l.length ∧ Below w.heap.size w wr ∧ Hid (wr.ownsRow w.heap.size 26 3 o (chL wanted (fun _ x => bid x.b) l j).length (rowC idL (chL wanted (fun _ x => bid x.b) l j)))) (fun _ i _ => l.length - (intOf i).toNat)
  case atStart => exact ⟨0, rfl, Nat.zero_le _, Below.refl _ _, Lib.hid (by rw [chL_zero]; simpa [rowC] using World.ownsRow_nil w _ _ _)⟩
  case round =>
    obtain ⟨j, rfl, hj, hBw, hown⟩ := hrel
    by_cases hlt : j < l.length
    · have hltz : (j : Int) < (l.length : Int) := by omega
      obtain ⟨b, off, hab, hbl, hcs⟩ := HR.out.2.2.2 (by omega)
      subst hab
      obtain ⟨x, hx⟩ : ∃ x, x = l[j] := ⟨_, rfl⟩
      have hr := hcs j hlt
      rw [← hx] at hr
      have hrw := range_below hbl hr hBw
      have gw := HW.out x (by rw [hx]; exact List.getElem_mem _)
      have HX := Lib.hid hx
      have GW := Lib.hid gw
      have gf := Lib.hid (fun W => exp2_any (j : Int) x W)
      have bwr : b < wr.heap.size := Nat.lt_of_lt_of_le hbl hBw.size
      clear hx hr hcs gw
      go_upto_region 4 with fail
      refine wp_region_tail0 2 ?_
      intro W0 hE hN
      have hrW : W0.rangeAt b (off + j * 13) (itm x) := (by rw [hE.out]; exact hrw)
      have hBW : Below w.heap.size w W0 := (by rw [hE.out]; exact hBw)
      have hoW := hown
      rw [← hE.out] at hoW
      have bW : b < W0.heap.size := (by rw [hE.out]; exact bwr)
      clear hE hrw hBw hown bwr
      simp only [List.take_succ_cons, List.take_zero, List.drop_succ_cons, List.drop_zero]
      repeat (go_big_quiet_step (fail))
      refine wpQuiet_nil ?_
      rintro _ ⟨x', rfl⟩
      have hr1 := range_below bW hrW x'.ok
      have hB1 := bt hBW x'.ok
      have ho1 := Lib.hid (owns_belowS hoW.out x'.ok)
      obtain ⟨u, hu⟩ : ∃ u, u = x'.wd := ⟨_, rfl⟩
      rw [← hu] at hr1 hB1 ho1 ⊢
      clear hu x' hN hrW hBW hoW bW
      refine wpList_load_mid rfl 67 (.tmp 15) rfl b (off + j * 13) rfl (itm x) _ hr1 Tryd.underlying67 rfl (by kernel_rfl) ?_
      conv => arg 5; simp [Act.put]
      refine Go.Great.wpList_allocTo rfl (some 9) rfl (.pointer (some ⟨u.heap.size, 0, none⟩)) (.cells #[.int .i64 0, .int .u64 0, .int .i64 0, .int .i64 0, .int .i64 0, .int .i64 0, .int .i64 0, .int .i64 0, .string ⟨#[]⟩, .int .i64 0, .int .i64 0, .int .u64 0, .int .i64 0] 67) (by kernel_rfl) ?_
      conv => arg 5; simp [Act.put]
      refine wpList_assign rfl (.tmp 14) (.int .i64 j) rfl rfl ?_
      conv => arg 5; simp [Act.put]
      refine wpList_store_midB 67 (.tmp 9) (.tmp 16) u.heap.size 0 #[.int .i64 0, .int .u64 0, .int .i64 0, .int .i64 0, .int .i64 0, .int .i64 0, .int .i64 0, .int .i64 0, .string ⟨#[]⟩, .int .i64 0, .int .i64 0, .int .u64 0, .int .i64 0] #[.int .i64 x.b.no, .int .u64 x.b.sq, .int .i64 x.b.of, .int .i64 x.b.de, .int .i64 x.b.pr, .int .i64 x.b.bo, .int .i64 x.b.li, .int .i64 x.b.to, .string x.b.da, .int .i64 x.st, .int .i64 x.to, .int .u64 x.off, .int .i64 x.od] #[.int .i64 x.b.no, .int .u64 x.b.sq, .int .i64 x.b.of, .int .i64 x.b.de, .int .i64 x.b.pr, .int .i64 x.b.bo, .int .i64 x.b.li, .int .i64 x.b.to, .string x.b.da, .int .i64 x.st, .int .i64 x.to, .int .u64 x.off, .int .i64 x.od] (blk_alloc_new _ _ _ rfl) rfl rfl rfl rfl (by simp) (by kernel_rfl) (by kernel_rfl) (by kernel_rfl) ?_
      intro w1 kb1 o1 B1 z1
      conv => arg 5; simp [Act.put]
      have hb1 : Below w.heap.size w w1 := B1 _ _ hB1.size (hB1.alloc hB1.size _)
      have hBu : Below u.heap.size u w1 := B1 _ _ (Nat.le_refl _) ((Below.refl _ _).alloc (Nat.le_refl _) _)
      have ho2 := Lib.hid (owns_belowS ho1.out hBu)
      have nb1 := kn kb1
      obtain ⟨c0, hc0⟩ : ∃ c, c = u.heap.size := ⟨_, rfl⟩
      rw [← hc0] at kb1 nb1 ⊢
      clear o1 B1 z1 ho1 hBu hr1 hB1 hc0 u
      obtain ⟨q, hq⟩ : ∃ q, wanted x = q := ⟨_, rfl⟩
      rw [hq] at GW
      have g5 := Lib.hid (GW.out w1 (hB.out _ _ H0.out hb1))
      clear GW
      have lc := chL_len wanted (fun _ x => bid x.b) l j
      cases q
      · go_wp2_with (go_at_call 61; (with_reducible refine (g5.out).mono ?_); rintro e w2 ⟨rfl, h2⟩)
        have e5 : chL wanted (fun _ x => bid x.b) l (j + 1) = chL wanted (fun _ x => bid x.b) l j := chL_no hlt (by rw [← HX.out]; exact hq)
        have hN : Hid (w2.ownsRow w.heap.size 26 3 _ (chL wanted (fun _ x => bid x.b) l (j + 1)).length (rowC idL (chL wanted (fun _ x => bid x.b) l (j + 1)))) := Lib.hid (by rw [e5]; exact owns_belowS ho2.out h2)
        have hb2 := bt hb1 h2
        go_roundw
        case rel => exact ⟨j + 1, by go_num, by omega, hb2, hN⟩
        case measure => simp [intOf]; omega
      · have e5 : chL wanted (fun _ x => bid x.b) l (j + 1) = chL wanted (fun _ x => bid x.b) l j ++ [(bid x.b)] := by
          have := chL_yes (wanted := wanted) (f := (fun _ x => bid x.b)) hlt (by rw [← HX.out]; exact hq)
          (try rw [← HX.out] at this)
          exact this
        have E5 := Lib.hid e5
        clear e5 hq
        go_upto_region 6 with (go_at_call 61; (with_reducible refine (g5.out).mono ?_); rintro e w2 ⟨rfl, h2⟩; (have kb2 := blk_below h2 kb1); (have nb2 := kn kb2); (have hb2 := bt hb1 h2); (have ho3 := Lib.hid (owns_belowS ho2.out h2)); clear h2 kb1 nb1 hb1 ho2)
        go_wp2_with (first
          | (go_at_call 63; (with_reducible refine (gf.out _).mono ?_); rintro e w3 ⟨rfl, h3⟩; (have hb3 := bt hb2 h3); (have ho4 := Lib.hid (owns_belowS ho3.out h3)); (have s3 := hb3.size); clear h3 kb2 nb2 hb2 ho3)
          | (at_builtin; go_loud (refine wpList_append_struct (enc := idL) rfl _ _ 42 rfl w.heap.size 26 i0 (.agg #[.int .i64 0, .int .u64 0, .int .i64 0]) 3 24 Tryd.underlying42 Hi.out Hz0.out Hz1.out Hz2.out rfl (by decide) idL_len idL_one _ (chL wanted (fun _ x => bid x.b) l j) rfl (ho4.out.alloc _) w3.heap.size 1 (bid x.b) rfl (blk_alloc_new _ _ _ rfl) (by unfold maxLen; omega) (by omega) (by simp; omega) ?_); intro v' wb hown2 hgrow2))
        have hB3 : Below w.heap.size w wb := (hb3.alloc hb3.size _).grown hgrow2 (by simp; omega) (fun k e => (ho4.out.lt k e).1)
        have hN : Hid (wb.ownsRow w.heap.size 26 3 v' (chL wanted (fun _ x => bid x.b) l (j + 1)).length (rowC idL (chL wanted (fun _ x => bid x.b) l (j + 1)))) := Lib.hid (by rw [E5.out]; exact hown2)
        clear hown2 hgrow2 ho4
        go_wp2
        go_roundw
        case rel => exact ⟨j + 1, by go_num, by omega, hB3, hN⟩
        case measure => simp [intOf]; omega
    · obtain rfl : j = l.length := by omega
      go_wp2
      go_ret
      exact ⟨_, rfl, hown.out, hBw⟩
end Go.Proofs.YtahopnlibmiafaaDoor
namespace Go.Proofs.YtahopnlibmiafaaDoor
open Go.RowKit
theorem range_bnF {w : World} {b o : Nat} {x : Itm} (h : w.rangeAt b o (itm x)) : w.rangeAt b o (bn x.b) := fun j v hj => h j v (by
  have hj9 : j < 9 := (List.getElem?_eq_some_iff.1 hj).1
  unfold itm
  rw [List.getElem?_append_left (by rw [bn_len]; exact hj9)]
  exact hj)
theorem bcode_i {b : Bn} (h : bcode b = 0) : BnI b := by
  obtain ⟨_, ⟨_, _, _, _, h1, h2, h3, h4, _⟩, _⟩ := buC_ok h
  exact ⟨⟨by omega, by omega⟩, ⟨by omega, by omega⟩⟩
theorem StV.code {l : List Itm} (h : StV l) {i : Nat} (hi : i < l.length) : bcode l[i].b = 0 := by
  have := h.2 i hi
  rw [fltS_at hi] at this
  exact itE_b (itF_e this)
theorem lessC_any (a b : Bn) (ha : BnI a) (hb : BnI b) (w : World) : Calls Tryd.prog 18 #[.agg (bn a).toArray, .agg (bn b).toArray] w fun e w' => e = .returned (.bool (ltB a b)) ∧ Below w.heap.size w w' :=
  less_any a.no a.sq a.of a.de a.pr a.bo a.li a.to a.da b.no b.sq b.of b.de b.pr b.bo b.li b.to b.da ha.1 ha.2 hb.1 hb.2 w
def bnAt (l : List Itm) (i : Int) : Bn := (l[i.toNat]?.elim ⟨0, 0, 0, 0, 0, 0, 0, 0, ⟨#[]⟩⟩ (·.b))
theorem bnAt_nat (l : List Itm) (i : Nat) (hi : i < l.length) : bnAt l (i : Int) = l[i].b := by
  unfold bnAt
  rw [Int.toNat_natCast, List.getElem?_eq_getElem hi]
  rfl
def ltF (l : List Itm) (i k : Int) : Bool := ltB (bnAt l i) (bnAt l k)
def cmF (l : List Itm) (i k : Int) : Int := if ltB (bnAt l i) (bnAt l k) then -1 else if ltB (bnAt l k) (bnAt l i) then 1 else 0
theorem ltF_cm (l : List Itm) (i k : Int) : ltF l i k = decide (cmF l i k < 0) := by
  unfold ltF cmF
  cases ltB (bnAt l i) (bnAt l k)
  · cases ltB (bnAt l k) (bnAt l i) <;> rfl
  · rfl
def HdF (c : Nat) (a : Option Addr) (cap : Nat) (l : List Itm) (W : World) : Prop := blk W c = some #[.slice a l.length cap] ∧ SRow itm 13 W a cap l
theorem HdF.below {c : Nat} {a : Option Addr} {cap : Nat} {l : List Itm} {W W' : World} (h : HdF c a cap l W) (hb : Below W.heap.size W W') : HdF c a cap l W' := ⟨blk_below hb h.1, h.2.below hb⟩
theorem range_other {w : World} {b o g j : Nat} {cs : List Value} {v : Value} (h : w.rangeAt b o cs) (hne : b ≠ g) : (w.setCell ⟨g, j, none⟩ v).rangeAt b o cs := fun i u hu => by
  have := h i u hu
  unfold World.cell? at this ⊢
  rw [Below.heap_setCell w ⟨g, j, none⟩ v b hne]
  exact this
theorem SRow.setOther {α : Type} {enc : α → List Value} {k : Nat} {w : World} {a : Option Addr} {cap : Nat} {l : List α} (h : SRow enc k w a cap l) {g : Nat} (hne : ∀ b off, a = some ⟨b, off, none⟩ → b ≠ g) (j : Nat) (v : Value) : SRow enc k (w.setCell ⟨g, j, none⟩ v) a cap l := by
  obtain ⟨h1, h2, h3, h4⟩ := h
  refine ⟨h1, h2, h3, fun h0 => ?_⟩
  obtain ⟨b, off, e, hlt, hc⟩ := h4 h0
  exact ⟨b, off, e, by simpa using hlt, fun i hi => range_other (hc i hi) (hne b off e)⟩
set_option maxRecDepth 100000 in
set_option maxHeartbeats 3200000 in
theorem for3_any (l : List Itm) (i k : Nat) (hi : i < l.length) (hk : k < l.length) (hI : ∀ x ∈ l, BnI x.b) (c : Nat) (a : Option Addr) (cap : Nat) (w : World) (h : HdF c a cap l w) :
    Calls Tryd.prog 69 #[.int .i64 i, .int .i64 k, .pointer (some ⟨c, 0, none⟩)] w fun e w' => e = .returned (.int .i64 (cmF l i k)) ∧ Below w.heap.size w w' := by
  unfold cmF
  rw [bnAt_nat l i hi, bnAt_nat l k hk]
  obtain ⟨b, off, rfl, hbl, hcs⟩ := h.2.2.2.2 (by omega)
  obtain ⟨x, hx⟩ : ∃ x, x = l[i].b := ⟨_, rfl⟩
  obtain ⟨y, hy⟩ : ∃ x, x = l[k].b := ⟨_, rfl⟩
  have r1 := range_bnF (hcs i hi)
  have r2 := range_bnF (hcs k hk)
  rw [← hx] at r1 ⊢
  rw [← hy] at r2 ⊢
  have g1 := fun W => lessC_any x y (by rw [hx]; exact hI _ (List.getElem_mem hi)) (by rw [hy]; exact hI _ (List.getElem_mem hk)) W
  have g2 := fun W => lessC_any y x (by rw [hy]; exact hI _ (List.getElem_mem hk)) (by rw [hx]; exact hI _ (List.getElem_mem hi)) W
  obtain ⟨p, hp⟩ : ∃ q, ltB x y = q := ⟨_, rfl⟩
  obtain ⟨q, hq⟩ : ∃ q, ltB y x = q := ⟨_, rfl⟩
  rw [hp] at g1 ⊢
  rw [hq] at g2 ⊢
  replace g1 := Lib.hid g1; replace g2 := Lib.hid g2
  have hc := h.1
  have hcap := h.2.1
  have hmax := h.2.2.1
  unfold maxLen at hmax
  have p1 : (i : Int) < (l.length : Int) := by omega
  have p2 : (k : Int) < (l.length : Int) := by omega
  have R1 := Lib.hid r1; have R2 := Lib.hid r2
  clear hx hy hp hq hcs h hI r1 r2
  have b0 : Below w.heap.size w w := Below.refl _ _
  go_enter Tryd.func69, Tryd.ntmps69
  go_wp2_with fail
  refine wp_region_in (by kernel_rfl) (by kernel_rfl) ?_
  intro W0 hE hN
  have q1 : blk W0 c = some #[.slice (some ⟨b, off, none⟩) l.length cap] := (by rw [hE.out]; exact hc)
  have n1 := calm_kn q1
  have bW : Below w.heap.size w W0 := (by rw [hE.out]; exact b0)
  have r1 := range_below hbl R1.out bW
  have r2 := range_below hbl R2.out bW
  have gl : b < W0.heap.size := Nat.lt_of_lt_of_le hbl bW.size
  clear hE b0 hc
  refine wpQuiet_split 4 ?_
  simp only [List.take_succ_cons, List.take_zero, List.drop_succ_cons, List.drop_zero]
  repeat (go_big_quiet_step (fail))
  refine wpQuiet_nil ?_
  refine wpQuiet_load_range 28 (.tmp 10) b (off + i * 13) (bn x) (fun W hW => by obtain ⟨x', rfl⟩ := hW; exact range_below gl r1 x'.ok) _ (by kernel_rfl) rfl (by kernel_rfl) Tryd.underlying28 rfl (by kernel_rfl) ?_
  conv => arg 6; simp [Act.put]
  refine wpQuiet_split 4 ?_
  simp only [List.take_succ_cons, List.take_zero, List.drop_succ_cons, List.drop_zero]
  repeat (go_big_quiet_step (fail))
  refine wpQuiet_nil ?_
  refine wpQuiet_load_range 28 (.tmp 15) b (off + k * 13) (bn y) (fun W hW => by obtain ⟨x', rfl⟩ := hW; exact range_below gl r2 x'.ok) _ (by kernel_rfl) rfl (by kernel_rfl) Tryd.underlying28 rfl (by kernel_rfl) ?_
  conv => arg 6; simp [Act.put]
  repeat (go_big_quiet_step ((go_at_call 18; (with_reducible refine Class.go _ (g1.out _)))))
  refine wpQuiet_nil ?_
  rintro _ ⟨x', rfl⟩
  have b1 := bt bW x'.ok
  have hc1 := blk_below x'.ok q1
  obtain ⟨u, hu⟩ : ∃ u, u = x'.wd := ⟨_, rfl⟩
  rw [← hu] at b1 hc1 ⊢
  clear hu x' hN n1 q1 bW r1 r2 gl g1
  cases p
  · go_wp2_with fail
    refine wp_region_in (by kernel_rfl) (by kernel_rfl) ?_
    intro W0 hE hN
    have q1 : blk W0 c = some #[.slice (some ⟨b, off, none⟩) l.length cap] := (by rw [hE.out]; exact hc1)
    have n1 := calm_kn q1
    have bW : Below w.heap.size w W0 := (by rw [hE.out]; exact b1)
    have r1 := range_below hbl R1.out bW
    have r2 := range_below hbl R2.out bW
    have gl : b < W0.heap.size := Nat.lt_of_lt_of_le hbl bW.size
    clear hE b1 hc1
    refine wpQuiet_split 4 ?_
    simp only [List.take_succ_cons, List.take_zero, List.drop_succ_cons, List.drop_zero]
    repeat (go_big_quiet_step (fail))
    refine wpQuiet_nil ?_
    refine wpQuiet_load_range 28 (.tmp 22) b (off + k * 13) (bn y) (fun W hW => by obtain ⟨x', rfl⟩ := hW; exact range_below gl r2 x'.ok) _ (by kernel_rfl) rfl (by kernel_rfl) Tryd.underlying28 rfl (by kernel_rfl) ?_
    conv => arg 6; simp [Act.put]
    refine wpQuiet_split 4 ?_
    simp only [List.take_succ_cons, List.take_zero, List.drop_succ_cons, List.drop_zero]
    repeat (go_big_quiet_step (fail))
    refine wpQuiet_nil ?_
    refine wpQuiet_load_range 28 (.tmp 27) b (off + i * 13) (bn x) (fun W hW => by obtain ⟨x', rfl⟩ := hW; exact range_below gl r1 x'.ok) _ (by kernel_rfl) rfl (by kernel_rfl) Tryd.underlying28 rfl (by kernel_rfl) ?_
    conv => arg 6; simp [Act.put]
    repeat (go_big_quiet_step ((go_at_call 18; (with_reducible refine Class.go _ (g2.out _)))))
    refine wpQuiet_nil ?_
    rintro _ ⟨x', rfl⟩
    have b2 := bt bW x'.ok
    obtain ⟨u2, hu⟩ : ∃ u, u = x'.wd := ⟨_, rfl⟩
    rw [← hu] at b2 ⊢
    clear hu x' hN n1 q1 bW r1 r2 gl g2
    cases q
    · go_wp2
      go_ret
      exact ⟨rfl, b2⟩
    · go_wp2
      go_ret
      exact ⟨rfl, b2⟩
  · go_wp2
    go_ret
    exact ⟨rfl, b1⟩
def forS (l : List Itm) (prio now : Int) : List Int × Int :=
  if askS l now ≠ 0 then ([], askS l now) else if prio < 0 ∨ 2 < prio then ([], 2) else (isort (ltF l) (chL (wantF prio now) (fun i _ => (i : Int)) l l.length), 0)
def RetN (R : List Int × Int) (w : World) (e : Ending) (w' : World) : Prop := ∃ a cap, e = .returned (.tuple #[.slice a R.1.length cap, .int .i64 R.2]) ∧ SRow ic 1 w' a cap R.1 ∧ Below w.heap.size w w'
theorem RetN.err {w w' : World} (c : Int) (h : Below w.heap.size w w') : RetN ([], c) w (.returned (.tuple #[.slice none 0 0, .int .i64 c])) w' := ⟨none, 0, rfl, srow_nil w', h⟩
theorem askS_ok {l : List Itm} {now : Int} (h : askS l now = 0) : StV l := by
  unfold askS at h
  by_cases h1 : (chkS l).1 = 0
  · exact chkS_zero h1
  · rw [if_pos h1] at h; exact absurd h h1
theorem chL_int_mem {wanted : Itm → Bool} {l : List Itm} {j : Nat} {x : Int} (hx : x ∈ chL wanted (fun i _ => (i : Int)) l j) : ∃ i : Nat, x = i ∧ i < l.length := by
  unfold chL at hx
  obtain ⟨i, _, h⟩ := List.mem_filterMap.1 hx
  by_cases hi : i < l.length
  · rw [List.getElem?_eq_getElem hi] at h
    simp only [Option.bind_some] at h
    split at h
    · exact ⟨i, (Option.some.inj h).symm, hi⟩
    · cases h
  · rw [List.getElem?_eq_none (by omega)] at h
    simp at h
end Go.Proofs.YtahopnlibmiafaaDoor
namespace Go.Proofs.YtahopnlibmiafaaDoor
open Go.RowKit
set_option maxRecDepth 100000 in
set_option maxHeartbeats 3200000 in
theorem for_any (a : Option Addr) (cap : Nat) (l : List Itm) (prio now : Int) (hd : ∀ x ∈ l, x.b.da.size ≤ maxLen) (h20 : l.length ≤ 20) (w : World) (hrow : SRow itm 13 w a cap l) :
    Calls Tryd.prog 24 #[.slice a l.length cap, .int .i64 prio, .int .i64 now] w fun e w' => RetN (forS l prio now) w e w' := by
  have g1 : ∀ W, Below w.heap.size w W → Calls Tryd.prog 59 #[.slice a l.length cap, .int .i64 now] W fun e w' => e = .returned (.int .i64 (askS l now)) ∧ Below W.heap.size W w' := fun W hB => asked_any a cap l now hd W (hrow.below hB)
  unfold forS
  by_cases hf : askS l now = 0
  · rw [if_neg (fun h => h hf)]
    have hv := askS_ok hf
    rw [hf] at g1
    replace g1 := Lib.hid g1
    have q0 : ((0 : Int) != 0) = false := rfl
    by_cases h1 : prio < 0 ∨ 2 < prio
    · rw [if_pos h1]
      rcases h1 with h1 | h1
      · have t1 : decide (prio < 0) = true := decide_eq_true h1
        clear hf hv hd h20 hrow h1
        go_enter Tryd.func24, Tryd.ntmps24
        go_wp2_with (go_at_call 59; (with_reducible refine (g1.out _ (by (repeat (first | (with_reducible assumption) | (with_reducible exact Below.refl _ _) | (with_reducible refine beld_drew ?_) | ((with_reducible refine bset' ?_ ?_); (first | (focus (dsimp only; assumption)) | (focus (simp; done)) | (focus (dsimp only; omega)))) | (with_reducible refine belt_alloc ?_) | ((with_reducible refine zeroed_below' ?_ ?_); (first | (focus (simp; done)) | (focus (dsimp only; omega)))) | (with_reducible refine bt ?_ (by assumption)))))).mono ?_); rintro e w2 ⟨rfl, h2⟩; (have k0 : blk w2 w.heap.size = some #[.slice a l.length cap] := (by (apply blk_to; (focus (repeat (first | (with_reducible assumption) | (with_reducible apply blk_drew) | (with_reducible apply blk_set) | ((with_reducible apply blk_other'); (first | (focus (dsimp only; assumption)) | (focus (simp; done)) | (focus (dsimp only; omega)))) | ((with_reducible apply blk_alloc_new); (first | (with_reducible rfl) | (focus (simp; done)) | (focus (simp; omega)))) | (with_reducible apply blk_alloc) | ((with_reducible apply blk_below); (with_reducible assumption))))); rfl))); (have k1 : blk w2 (w.heap.size + 1) = some #[.int .i64 prio] := (by (apply blk_to; (focus (repeat (first | (with_reducible assumption) | (with_reducible apply blk_drew) | (with_reducible apply blk_set) | ((with_reducible apply blk_other'); (first | (focus (dsimp only; assumption)) | (focus (simp; done)) | (focus (dsimp only; omega)))) | ((with_reducible apply blk_alloc_new); (first | (with_reducible rfl) | (focus (simp; done)) | (focus (simp; omega)))) | (with_reducible apply blk_alloc) | ((with_reducible apply blk_below); (with_reducible assumption))))); rfl))); (have k2 : blk w2 (w.heap.size + 2) = some #[.int .i64 now] := (by (apply blk_to; (focus (repeat (first | (with_reducible assumption) | (with_reducible apply blk_drew) | (with_reducible apply blk_set) | ((with_reducible apply blk_other'); (first | (focus (dsimp only; assumption)) | (focus (simp; done)) | (focus (dsimp only; omega)))) | ((with_reducible apply blk_alloc_new); (first | (with_reducible rfl) | (focus (simp; done)) | (focus (simp; omega)))) | (with_reducible apply blk_alloc) | ((with_reducible apply blk_below); (with_reducible assumption))))); rfl))); (have b2 : Below w.heap.size w w2 := (by (repeat (first | (with_reducible assumption) | (with_reducible exact Below.refl _ _) | (with_reducible refine beld_drew ?_) | ((with_reducible refine bset' ?_ ?_); (first | (focus (dsimp only; assumption)) | (focus (simp; done)) | (focus (dsimp only; omega)))) | (with_reducible refine belt_alloc ?_) | ((with_reducible refine zeroed_below' ?_ ?_); (first | (focus (simp; done)) | (focus (dsimp only; omega)))) | (with_reducible refine bt ?_ (by assumption)))))); (have n0 := kn k0); (have n1 := kn k1); (have n2 := kn k2); clear h2)
        go_ret2
        exact RetN.err _ b2
      · have t1 : decide (prio < 0) = false := decide_eq_false (by omega)
        have t2 : decide (2 < prio) = true := decide_eq_true h1
        clear hf hv hd h20 hrow h1
        go_enter Tryd.func24, Tryd.ntmps24
        go_wp2_with (go_at_call 59; (with_reducible refine (g1.out _ (by (repeat (first | (with_reducible assumption) | (with_reducible exact Below.refl _ _) | (with_reducible refine beld_drew ?_) | ((with_reducible refine bset' ?_ ?_); (first | (focus (dsimp only; assumption)) | (focus (simp; done)) | (focus (dsimp only; omega)))) | (with_reducible refine belt_alloc ?_) | ((with_reducible refine zeroed_below' ?_ ?_); (first | (focus (simp; done)) | (focus (dsimp only; omega)))) | (with_reducible refine bt ?_ (by assumption)))))).mono ?_); rintro e w2 ⟨rfl, h2⟩; (have k0 : blk w2 w.heap.size = some #[.slice a l.length cap] := (by (apply blk_to; (focus (repeat (first | (with_reducible assumption) | (with_reducible apply blk_drew) | (with_reducible apply blk_set) | ((with_reducible apply blk_other'); (first | (focus (dsimp only; assumption)) | (focus (simp; done)) | (focus (dsimp only; omega)))) | ((with_reducible apply blk_alloc_new); (first | (with_reducible rfl) | (focus (simp; done)) | (focus (simp; omega)))) | (with_reducible apply blk_alloc) | ((with_reducible apply blk_below); (with_reducible assumption))))); rfl))); (have k1 : blk w2 (w.heap.size + 1) = some #[.int .i64 prio] := (by (apply blk_to; (focus (repeat (first | (with_reducible assumption) | (with_reducible apply blk_drew) | (with_reducible apply blk_set) | ((with_reducible apply blk_other'); (first | (focus (dsimp only; assumption)) | (focus (simp; done)) | (focus (dsimp only; omega)))) | ((with_reducible apply blk_alloc_new); (first | (with_reducible rfl) | (focus (simp; done)) | (focus (simp; omega)))) | (with_reducible apply blk_alloc) | ((with_reducible apply blk_below); (with_reducible assumption))))); rfl))); (have k2 : blk w2 (w.heap.size + 2) = some #[.int .i64 now] := (by (apply blk_to; (focus (repeat (first | (with_reducible assumption) | (with_reducible apply blk_drew) | (with_reducible apply blk_set) | ((with_reducible apply blk_other'); (first | (focus (dsimp only; assumption)) | (focus (simp; done)) | (focus (dsimp only; omega)))) | ((with_reducible apply blk_alloc_new); (first | (with_reducible rfl) | (focus (simp; done)) | (focus (simp; omega)))) | (with_reducible apply blk_alloc) | ((with_reducible apply blk_below); (with_reducible assumption))))); rfl))); (have b2 : Below w.heap.size w w2 := (by (repeat (first | (with_reducible assumption) | (with_reducible exact Below.refl _ _) | (with_reducible refine beld_drew ?_) | ((with_reducible refine bset' ?_ ?_); (first | (focus (dsimp only; assumption)) | (focus (simp; done)) | (focus (dsimp only; omega)))) | (with_reducible refine belt_alloc ?_) | ((with_reducible refine zeroed_below' ?_ ?_); (first | (focus (simp; done)) | (focus (dsimp only; omega)))) | (with_reducible refine bt ?_ (by assumption)))))); (have n0 := kn k0); (have n1 := kn k1); (have n2 := kn k2); clear h2)
        go_ret2
        exact RetN.err _ b2
    · rw [if_neg h1]
      have t1 : decide (prio < 0) = false := decide_eq_false (by omega)
      have t2 : decide (2 < prio) = false := decide_eq_false (by omega)
      obtain ⟨L, hL⟩ : ∃ L, L = chL (wantF prio now) (fun i _ => (i : Int)) l l.length := ⟨_, rfl⟩
      have hLl : L.length ≤ l.length := by rw [hL]; exact chL_len _ _ _ _
      have hLm : ∀ x ∈ L, ∃ i : Nat, x = i ∧ i < l.length := by rw [hL]; exact fun x hx => chL_int_mem hx
      have g2 : ∀ W, Below w.heap.size w W → blk W (w.heap.size + 1) = some #[.int .i64 prio] → blk W (w.heap.size + 2) = some #[.int .i64 now] → Calls Tryd.prog 65 #[.slice a l.length cap, .func (.func 66) #[] #[.pointer (some ⟨w.heap.size + 1, 0, none⟩), .pointer (some ⟨w.heap.size + 2, 0, none⟩)], .func (.func 67) #[] #[]] W fun e w' =>
          ∃ v, e = .returned v ∧ w'.ownsRow W.heap.size 3 1 v L.length (rowC ic L) ∧ Below W.heap.size W w' := fun W hB h1 h2 => by
        rw [hL]
        exact chI_any a cap l (w.heap.size + 1) (w.heap.size + 2) (wantF prio now) (fun W => blk W (w.heap.size + 1) = some #[.int .i64 prio] ∧ blk W (w.heap.size + 2) = some #[.int .i64 now]) (fun W W' h hb => ⟨blk_below hb h.1, blk_below hb h.2⟩) (by omega) (fun x hx W h => for1_any x prio now _ _ (hd x hx) W h.1 h.2) W ⟨h1, h2⟩ (hrow.below hB)
      rw [← hL]
      have HI : ∀ x ∈ l, BnI x.b := fun x hx => by
        obtain ⟨i, hi, rfl⟩ := List.getElem_of_mem hx
        exact bcode_i (hv.code hi)
      replace g2 := Lib.hid g2; replace HI := Lib.hid HI
      have HL := Lib.hid hLm
      have HR := Lib.hid hrow
      have hcap := hrow.1
      have hmax := hrow.2.1
      unfold maxLen at hmax
      clear hL hLm hrow hd hf hv h1
      go_enter Tryd.func24, Tryd.ntmps24
      go_upto_region 7 with (first | (go_at_call 59; (with_reducible refine (g1.out _ (by (repeat (first | (with_reducible assumption) | (with_reducible exact Below.refl _ _) | (with_reducible refine beld_drew ?_) | ((with_reducible refine bset' ?_ ?_); (first | (focus (dsimp only; assumption)) | (focus (simp; done)) | (focus (dsimp only; omega)))) | (with_reducible refine belt_alloc ?_) | ((with_reducible refine zeroed_below' ?_ ?_); (first | (focus (simp; done)) | (focus (dsimp only; omega)))) | (with_reducible refine bt ?_ (by assumption)))))).mono ?_); rintro e w2 ⟨rfl, h2⟩; (have k0 : blk w2 w.heap.size = some #[.slice a l.length cap] := (by (apply blk_to; (focus (repeat (first | (with_reducible assumption) | (with_reducible apply blk_drew) | (with_reducible apply blk_set) | ((with_reducible apply blk_other'); (first | (focus (dsimp only; assumption)) | (focus (simp; done)) | (focus (dsimp only; omega)))) | ((with_reducible apply blk_alloc_new); (first | (with_reducible rfl) | (focus (simp; done)) | (focus (simp; omega)))) | (with_reducible apply blk_alloc) | ((with_reducible apply blk_below); (with_reducible assumption))))); rfl))); (have k1 : blk w2 (w.heap.size + 1) = some #[.int .i64 prio] := (by (apply blk_to; (focus (repeat (first | (with_reducible assumption) | (with_reducible apply blk_drew) | (with_reducible apply blk_set) | ((with_reducible apply blk_other'); (first | (focus (dsimp only; assumption)) | (focus (simp; done)) | (focus (dsimp only; omega)))) | ((with_reducible apply blk_alloc_new); (first | (with_reducible rfl) | (focus (simp; done)) | (focus (simp; omega)))) | (with_reducible apply blk_alloc) | ((with_reducible apply blk_below); (with_reducible assumption))))); rfl))); (have k2 : blk w2 (w.heap.size + 2) = some #[.int .i64 now] := (by (apply blk_to; (focus (repeat (first | (with_reducible assumption) | (with_reducible apply blk_drew) | (with_reducible apply blk_set) | ((with_reducible apply blk_other'); (first | (focus (dsimp only; assumption)) | (focus (simp; done)) | (focus (dsimp only; omega)))) | ((with_reducible apply blk_alloc_new); (first | (with_reducible rfl) | (focus (simp; done)) | (focus (simp; omega)))) | (with_reducible apply blk_alloc) | ((with_reducible apply blk_below); (with_reducible assumption))))); rfl))); (have b2 : Below w.heap.size w w2 := (by (repeat (first | (with_reducible assumption) | (with_reducible exact Below.refl _ _) | (with_reducible refine beld_drew ?_) | ((with_reducible refine bset' ?_ ?_); (first | (focus (dsimp only; assumption)) | (focus (simp; done)) | (focus (dsimp only; omega)))) | (with_reducible refine belt_alloc ?_) | ((with_reducible refine zeroed_below' ?_ ?_); (first | (focus (simp; done)) | (focus (dsimp only; omega)))) | (with_reducible refine bt ?_ (by assumption)))))); (have n0 := kn k0); (have n1 := kn k1); (have n2 := kn k2); clear h2) | (go_at_call 65; (with_reducible refine (g2.out _ b2 k1 k2).mono ?_); rintro e w3 ⟨v3, rfl, ho3, h3⟩; (have k03 := blk_below h3 k0); (have b3 := bt b2 h3); (have w2s := blk_lt k2); (have HS := Lib.hid h3.size); (obtain ⟨a3, cap3, rfl, hS3, hd3⟩ := srow_of_owns ic_len ho3); clear h3 n0 n1 n2))
      rcases Nat.eq_zero_or_pos L.length with h0 | h0
      · obtain rfl := List.length_eq_zero_iff.1 h0
        have gs := Lib.hid (fun W => sortI_none a3 cap3 (.func (.func 69) #[] #[.pointer (some ⟨w.heap.size, 0, none⟩)]) W)
        have HS3 := Lib.hid hS3
        clear hS3 hd3 ho3 k03
        go_wp2_with (go_at_call 68; (with_reducible refine (gs.out _).mono ?_); rintro e w5 ⟨rfl, rfl⟩)
        go_ret2
        exact ⟨a3, cap3, rfl, HS3.out, b3⟩
      · rcases hd3 with ⟨_, rfl⟩ | ⟨g, cur, rfl, hgb, hbg, hcs, hct⟩
        · simp at h0
        obtain ⟨sp, hsp⟩ : ∃ sp, sp = cur.toList.drop (L.length * 1) := ⟨_, rfl⟩
        have hbg2 : blk w3 g = some (rowC ic L ++ sp).toArray := (by rw [hbg, hsp, ← hct, List.take_append_drop])
        have hl3 : HdF w.heap.size a cap l w3 := ⟨k03, HR.out.below b3⟩
        have hgw : w.heap.size + 3 ≤ g := by omega
        have gs := Lib.hid (sortI_any g cap3 w.heap.size L sp h0 (by omega) hS3.1 (HdF w.heap.size a cap l) (ltF l) (cmF l) (ltF_cm l) (fun W W' h hb => h.below hb)
          (fun W o v h => ⟨blk_other h.1 (by show w.heap.size ≠ g; omega), h.2.setOther (fun b off e => by obtain ⟨b', o', e', hlt, _⟩ := HR.out.2.2.2 (by omega); rw [e'] at e; cases e; omega) _ _⟩)
          (fun W h => ⟨blk_drew h.1, h.2⟩)
          (fun x hx y hy W h => by obtain ⟨i, rfl, hi⟩ := HL.out x hx; obtain ⟨k, rfl, hk⟩ := HL.out y hy; exact for3_any l i k hi hk HI.out w.heap.size a cap W h) w3 hl3 hbg2)
        have hc3 := hS3.1
        have hm3 := hS3.2.1
        clear hbg hcs hct hsp hbg2 hS3 hl3 ho3 k03
        go_wp2_with (go_at_call 68; (with_reducible refine (gs.out).mono ?_); rintro e w5 ⟨rfl, hg5, hb5, _⟩)
        have hB5 : Below w.heap.size w w5 := b3.grown hg5 b3.size (fun k e => by cases e; omega)
        have lI := isort_length (ltF l) L
        have hr5 : SRow ic 1 w5 (some ⟨g, 0, none⟩) cap3 (isort (ltF l) L) := ⟨by rw [lI]; exact hc3, hm3, (fun h => by cases h), fun _ => ⟨g, 0, rfl, blk_lt hb5, fun i hi => by rw [Nat.zero_add]; exact range_row ic_len hb5 (List.getElem?_eq_getElem hi)⟩⟩
        have HR5 := Lib.hid hr5
        have LI := Lib.hid lI
        clear hr5 lI hb5 hg5 gs
        go_ret2
        exact ⟨some ⟨g, 0, none⟩, cap3, by rw [LI.out]; rfl, HR5.out, hB5⟩
  · rw [if_pos hf]
    obtain ⟨c, hc⟩ : ∃ c, askS l now = c := ⟨_, rfl⟩
    rw [hc] at g1 hf ⊢
    have q0 : (c != 0) = true := by simpa using hf
    replace g1 := Lib.hid g1
    clear hc hf hd hrow h20
    go_enter Tryd.func24, Tryd.ntmps24
    go_wp2_with (go_at_call 59; (with_reducible refine (g1.out _ (by (repeat (first | (with_reducible assumption) | (with_reducible exact Below.refl _ _) | (with_reducible refine beld_drew ?_) | ((with_reducible refine bset' ?_ ?_); (first | (focus (dsimp only; assumption)) | (focus (simp; done)) | (focus (dsimp only; omega)))) | (with_reducible refine belt_alloc ?_) | ((with_reducible refine zeroed_below' ?_ ?_); (first | (focus (simp; done)) | (focus (dsimp only; omega)))) | (with_reducible refine bt ?_ (by assumption)))))).mono ?_); rintro e w2 ⟨rfl, h2⟩; (have k0 : blk w2 w.heap.size = some #[.slice a l.length cap] := (by (apply blk_to; (focus (repeat (first | (with_reducible assumption) | (with_reducible apply blk_drew) | (with_reducible apply blk_set) | ((with_reducible apply blk_other'); (first | (focus (dsimp only; assumption)) | (focus (simp; done)) | (focus (dsimp only; omega)))) | ((with_reducible apply blk_alloc_new); (first | (with_reducible rfl) | (focus (simp; done)) | (focus (simp; omega)))) | (with_reducible apply blk_alloc) | ((with_reducible apply blk_below); (with_reducible assumption))))); rfl))); (have k1 : blk w2 (w.heap.size + 1) = some #[.int .i64 prio] := (by (apply blk_to; (focus (repeat (first | (with_reducible assumption) | (with_reducible apply blk_drew) | (with_reducible apply blk_set) | ((with_reducible apply blk_other'); (first | (focus (dsimp only; assumption)) | (focus (simp; done)) | (focus (dsimp only; omega)))) | ((with_reducible apply blk_alloc_new); (first | (with_reducible rfl) | (focus (simp; done)) | (focus (simp; omega)))) | (with_reducible apply blk_alloc) | ((with_reducible apply blk_below); (with_reducible assumption))))); rfl))); (have k2 : blk w2 (w.heap.size + 2) = some #[.int .i64 now] := (by (apply blk_to; (focus (repeat (first | (with_reducible assumption) | (with_reducible apply blk_drew) | (with_reducible apply blk_set) | ((with_reducible apply blk_other'); (first | (focus (dsimp only; assumption)) | (focus (simp; done)) | (focus (dsimp only; omega)))) | ((with_reducible apply blk_alloc_new); (first | (with_reducible rfl) | (focus (simp; done)) | (focus (simp; omega)))) | (with_reducible apply blk_alloc) | ((with_reducible apply blk_below); (with_reducible assumption))))); rfl))); (have b2 : Below w.heap.size w w2 := (by (repeat (first | (with_reducible assumption) | (with_reducible exact Below.refl _ _) | (with_reducible refine beld_drew ?_) | ((with_reducible refine bset' ?_ ?_); (first | (focus (dsimp only; assumption)) | (focus (simp; done)) | (focus (dsimp only; omega)))) | (with_reducible refine belt_alloc ?_) | ((with_reducible refine zeroed_below' ?_ ?_); (first | (focus (simp; done)) | (focus (dsimp only; omega)))) | (with_reducible refine bt ?_ (by assumption)))))); (have n0 := kn k0); (have n1 := kn k1); (have n2 := kn k2); clear h2)
    go_ret2
    exact RetN.err _ b2
def RetK (R : List Id3 × Int) (w : World) (e : Ending) (w' : World) : Prop := ∃ a cap, e = .returned (.tuple #[.slice a R.1.length cap, .int .i64 R.2]) ∧ SRow idL 3 w' a cap R.1 ∧ Below w.heap.size w w'
theorem RetK.err {w w' : World} (c : Int) (h : Below w.heap.size w w') : RetK ([], c) w (.returned (.tuple #[.slice none 0 0, .int .i64 c])) w' := ⟨none, 0, rfl, srow_nil w', h⟩
theorem chL_filter (wanted : Itm → Bool) (l : List Itm) : ∀ j, j ≤ l.length → chL wanted (fun _ x => bid x.b) l j = ((l.take j).filter wanted).map (bid ·.b)
  | 0, _ => by simp [chL]
  | j + 1, h => by
    have ih := chL_filter wanted l j (by omega)
    rw [List.take_succ_eq_append_getElem (by omega), List.filter_append, List.map_append, ← ih]
    cases hw : wanted l[j]
    · rw [chL_no (by omega) hw]; simp [hw]
    · rw [chL_yes (by omega) hw]; simp [hw]
set_option maxRecDepth 100000 in
set_option maxHeartbeats 3200000 in
theorem expired_anyS (a : Option Addr) (cap : Nat) (l : List Itm) (now : Int) (hd : ∀ x ∈ l, x.b.da.size ≤ maxLen) (hl : l.length ≤ 100000) (w : World) (hrow : SRow itm 13 w a cap l) :
    Calls Tryd.prog 22 #[.slice a l.length cap, .int .i64 now] w fun e w' => RetK (expiredS l now) w e w' := by
  have g1 : ∀ W, Below w.heap.size w W → Calls Tryd.prog 59 #[.slice a l.length cap, .int .i64 now] W fun e w' => e = .returned (.int .i64 (askS l now)) ∧ Below W.heap.size W w' := fun W hB => asked_any a cap l now hd W (hrow.below hB)
  unfold expiredS
  by_cases hf : askS l now = 0
  · rw [if_neg (fun h => h hf)]
    rw [hf] at g1
    replace g1 := Lib.hid g1
    have q0 : ((0 : Int) != 0) = false := rfl
    obtain ⟨L, hL⟩ : ∃ L, L = chL (overI · now) (fun _ x => bid x.b) l l.length := ⟨_, rfl⟩
    have hL2 := chL_filter (overI · now) l l.length (Nat.le_refl _)
    rw [List.take_length, ← hL] at hL2
    rw [← hL2]
    have g2 : ∀ W, Below w.heap.size w W → blk W w.heap.size = some #[.int .i64 now] → Calls Tryd.prog 60 #[.slice a l.length cap, .func (.func 61) #[] #[.pointer (some ⟨w.heap.size, 0, none⟩)], .func (.func 63) #[] #[]] W fun e w' =>
        ∃ v, e = .returned v ∧ w'.ownsRow W.heap.size 26 3 v L.length (rowC idL L) ∧ Below W.heap.size W w' := fun W hB h1 => by
      rw [hL]
      exact chK_any a cap l w.heap.size (overI · now) (fun W => blk W w.heap.size = some #[.int .i64 now]) (fun W W' h hb => blk_below hb h) (by omega) (fun x hx W h => exp1_any x now _ (hd x hx) W h) W h1 (hrow.below hB)
    replace g2 := Lib.hid g2
    clear hL hL2 hrow hd hf
    go_enter Tryd.func22, Tryd.ntmps22
    go_wp2_with (first | (go_at_call 59; (with_reducible refine (g1.out _ (by (repeat (first | (with_reducible assumption) | (with_reducible exact Below.refl _ _) | (with_reducible refine beld_drew ?_) | ((with_reducible refine bset' ?_ ?_); (first | (focus (dsimp only; assumption)) | (focus (simp; done)) | (focus (dsimp only; omega)))) | (with_reducible refine belt_alloc ?_) | ((with_reducible refine zeroed_below' ?_ ?_); (first | (focus (simp; done)) | (focus (dsimp only; omega)))) | (with_reducible refine bt ?_ (by assumption)))))).mono ?_); rintro e w2 ⟨rfl, h2⟩; (have k2 : blk w2 w.heap.size = some #[.int .i64 now] := (by (apply blk_to; (focus (repeat (first | (with_reducible assumption) | (with_reducible apply blk_drew) | (with_reducible apply blk_set) | ((with_reducible apply blk_other'); (first | (focus (dsimp only; assumption)) | (focus (simp; done)) | (focus (dsimp only; omega)))) | ((with_reducible apply blk_alloc_new); (first | (with_reducible rfl) | (focus (simp; done)) | (focus (simp; omega)))) | (with_reducible apply blk_alloc) | ((with_reducible apply blk_below); (with_reducible assumption))))); rfl))); (have b2 : Below w.heap.size w w2 := (by (repeat (first | (with_reducible assumption) | (with_reducible exact Below.refl _ _) | (with_reducible refine beld_drew ?_) | ((with_reducible refine bset' ?_ ?_); (first | (focus (dsimp only; assumption)) | (focus (simp; done)) | (focus (dsimp only; omega)))) | (with_reducible refine belt_alloc ?_) | ((with_reducible refine zeroed_below' ?_ ?_); (first | (focus (simp; done)) | (focus (dsimp only; omega)))) | (with_reducible refine bt ?_ (by assumption)))))); (have n2 := kn k2); clear h2) | (go_at_call 60; (with_reducible refine (g2.out _ b2 k2).mono ?_); rintro e w3 ⟨v3, rfl, ho3, h3⟩; (have b3 := bt b2 h3); (obtain ⟨a3, cap3, rfl, hS3, _⟩ := srow_of_owns idL_len ho3); (have HS3 := Lib.hid hS3); clear ho3 hS3))
    go_ret2
    exact ⟨a3, cap3, rfl, HS3.out, b3⟩
  · rw [if_pos hf]
    obtain ⟨c, hc⟩ : ∃ c, askS l now = c := ⟨_, rfl⟩
    rw [hc] at g1 hf ⊢
    have q0 : (c != 0) = true := by simpa using hf
    replace g1 := Lib.hid g1
    clear hc hf hd hrow hl
    go_enter Tryd.func22, Tryd.ntmps22
    go_wp2_with (go_at_call 59; (with_reducible refine (g1.out _ (by (repeat (first | (with_reducible assumption) | (with_reducible exact Below.refl _ _) | (with_reducible refine beld_drew ?_) | ((with_reducible refine bset' ?_ ?_); (first | (focus (dsimp only; assumption)) | (focus (simp; done)) | (focus (dsimp only; omega)))) | (with_reducible refine belt_alloc ?_) | ((with_reducible refine zeroed_below' ?_ ?_); (first | (focus (simp; done)) | (focus (dsimp only; omega)))) | (with_reducible refine bt ?_ (by assumption)))))).mono ?_); rintro e w2 ⟨rfl, h2⟩; (have k2 : blk w2 w.heap.size = some #[.int .i64 now] := (by (apply blk_to; (focus (repeat (first | (with_reducible assumption) | (with_reducible apply blk_drew) | (with_reducible apply blk_set) | ((with_reducible apply blk_other'); (first | (focus (dsimp only; assumption)) | (focus (simp; done)) | (focus (dsimp only; omega)))) | ((with_reducible apply blk_alloc_new); (first | (with_reducible rfl) | (focus (simp; done)) | (focus (simp; omega)))) | (with_reducible apply blk_alloc) | ((with_reducible apply blk_below); (with_reducible assumption))))); rfl))); (have b2 : Below w.heap.size w w2 := (by (repeat (first | (with_reducible assumption) | (with_reducible exact Below.refl _ _) | (with_reducible refine beld_drew ?_) | ((with_reducible refine bset' ?_ ?_); (first | (focus (dsimp only; assumption)) | (focus (simp; done)) | (focus (dsimp only; omega)))) | (with_reducible refine belt_alloc ?_) | ((with_reducible refine zeroed_below' ?_ ?_); (first | (focus (simp; done)) | (focus (dsimp only; omega)))) | (with_reducible refine bt ?_ (by assumption)))))); (have n2 := kn k2); clear h2)
    go_ret2
    exact RetK.err _ b2
end Go.Proofs.YtahopnlibmiafaaDoor
