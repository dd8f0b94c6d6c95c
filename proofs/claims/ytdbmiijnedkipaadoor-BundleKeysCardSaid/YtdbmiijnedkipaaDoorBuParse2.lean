/- The walk of the program's ParseKey. -/
import Derived.Test.YtdbmiijnedkipaaDoorBuCheck2
import Derived.Test.YtdbmiijnedkipaaDoorBuParse
import Derived.Test.YtdbmiijnedkipaaDoorShelf
import Derived.BigRegion
namespace Go.Proofs.YtdbmiijnedkipaaDoor
set_option linter.unusedVariables false
open Go.RowKit

/-- What a reader of keys gives. -/
def gotK (r : Option (Nat × Nat × Nat)) : Value × Int :=
  match r with
  | none => (idv 0 0 0, 3)
  | some (a, b, c) => if idC a b c = 0 then (idv a b c, 0) else (idv 0 0 0, 2)
def natC (k : IntKind) (l : List Nat) : Array Value := (l.map fun (n : Nat) => Value.int k (n : Int)).toArray

theorem natC_at {w : World} {b : Nat} {k : IntKind} {l : List Nat} (h : blk w b = some (natC k l)) (i : Nat) (hi : i < l.length) : w.cell? ⟨b, i, none⟩ = some (.int k (l.getD i 0 : Nat)) := by
  rw [blk_cell h]
  simp [natC, hi, List.getD_eq_getElem?_getD]
theorem natC_set (k : IntKind) (l : List Nat) (i v : Nat) : (natC k l).setIfInBounds i (.int k (v : Int)) = natC k (l.set i v) := by
  simp [natC, List.map_set]

set_option maxRecDepth 100000 in
set_option maxHeartbeats 3200000 in
theorem parseKey_any (s : ByteArray) (hs : s.size ≤ 1000) (w : World) :
    Calls Tryd.prog 31 #[.string s] w fun e w' => e = .returned (.tuple #[(gotK (parseK s.data.toList)).1, .int .i64 (gotK (parseK s.data.toList)).2]) ∧ Below w.heap.size w w' := by
  obtain ⟨r, hr⟩ : ∃ r, parseK s.data.toList = r := ⟨_, rfl⟩
  rw [hr]
  have HR := Lib.hid hr; clear hr
  go_enter Tryd.func31, Tryd.ntmps31
  go_wp2
  go_step3
  go_wp2
  go_step3
  go_wp2
  go_loopw [6, 13] (fun kk i wr => ∃ (j : Nat) (st : KState), i = .int .i64 j ∧ j ≤ s.size ∧ kk = .int .i64 (st.1 : Nat) ∧ runK (s.data.toList.take j) k0 = some st ∧ KOk st ∧ Below w.heap.size w wr ∧
      blk wr w.heap.size = some #[.int .i64 0, .int .u64 0, .int .i64 0] ∧ blk wr (w.heap.size + 1) = some (natC .u64 st.2.1) ∧ blk wr (w.heap.size + 1 + 1) = some (natC .i64 st.2.2)) (fun _ i _ => s.size - (intOf i).toNat)
  case atStart => exact ⟨0, k0, rfl, by omega, rfl, rfl, k0_ok, by (repeat (first | (with_reducible assumption) | (with_reducible exact Below.refl _ _) | (with_reducible refine beld_drew ?_) | ((with_reducible refine bset' ?_ ?_); (first | (focus (dsimp only; assumption)) | (focus (simp; done)) | (focus (dsimp only; omega)))) | (with_reducible refine belt_alloc ?_) | ((with_reducible refine zeroed_below' ?_ ?_); (first | (focus (simp; done)) | (focus (dsimp only; omega)))) | (with_reducible refine bt ?_ (by assumption)))), by (apply blk_to; (focus (repeat (first | (with_reducible assumption) | (with_reducible apply blk_drew) | (with_reducible apply blk_set) | ((with_reducible apply blk_other'); (first | (focus (dsimp only; assumption)) | (focus (simp; done)) | (focus (dsimp only; omega)))) | ((with_reducible apply blk_alloc_new); (first | (with_reducible rfl) | (focus (simp; done)) | (focus (simp; omega)))) | (with_reducible apply blk_alloc) | ((with_reducible apply blk_below); (with_reducible assumption))))); rfl), by refine blk_to (c' := #[.int .u64 0, .int .u64 0, .int .u64 0]) ?_ rfl; (apply blk_to; (focus (repeat (first | (with_reducible assumption) | (with_reducible apply blk_drew) | (with_reducible apply blk_set) | ((with_reducible apply blk_other'); (first | (focus (dsimp only; assumption)) | (focus (simp; done)) | (focus (dsimp only; omega)))) | ((with_reducible apply blk_alloc_new); (first | (with_reducible rfl) | (focus (simp; done)) | (focus (simp; omega)))) | (with_reducible apply blk_alloc) | ((with_reducible apply blk_below); (with_reducible assumption))))); rfl), by refine blk_to (c' := #[.int .i64 0, .int .i64 0, .int .i64 0]) ?_ rfl; (apply blk_to; (focus (repeat (first | (with_reducible assumption) | (with_reducible apply blk_drew) | (with_reducible apply blk_set) | ((with_reducible apply blk_other'); (first | (focus (dsimp only; assumption)) | (focus (simp; done)) | (focus (dsimp only; omega)))) | ((with_reducible apply blk_alloc_new); (first | (with_reducible rfl) | (focus (simp; done)) | (focus (simp; omega)))) | (with_reducible apply blk_alloc) | ((with_reducible apply blk_below); (with_reducible assumption))))); rfl)⟩
  case round =>
    obtain ⟨j, st, rfl, hj, rfl, hrun, hok, hbw, hb0, hb1, hb2⟩ := hrel
    obtain ⟨k, P, D⟩ := st
    dsimp only at *
    have Hrun := Lib.hid hrun; clear hrun
    have Hok := Lib.hid hok
    have hk := hok.k; dsimp only at hk
    have kn0 := kn hb0
    have kn1 := kn hb1
    have kn2 := kn hb2
    have hP := hok.p; have hD := hok.d; dsimp only at hP hD
    by_cases hlt : j < s.size
    · have hlt' : j < s.data.toList.length := by simpa using hlt
      have hfail : stepK (k, P, D) s.data.toList[j] = none → r = none := fun h => by rw [← HR.out]; exact parseK_fail hlt' Hrun.out h
      have hnext : ∀ st, stepK (k, P, D) s.data.toList[j] = some st → runK (s.data.toList.take (j + 1)) k0 = some st ∧ KOk st := fun st h => ⟨(runK_take hlt' Hrun.out).trans h, stepK_ok Hok.out h⟩
      rw [show s.data.toList[j] = s[j] from rfl] at hfail hnext
      have Hfail := Lib.hid hfail; have Hnext := Lib.hid hnext; clear hfail hnext
      have hd13 := hok.d13 k
      have hp13 := hok.small k
      have x1 := natC_at hb1 k (by omega)
      have x2 := natC_at hb2 k (by omega)
      have f1 := kn1.2.1 k
      have f2 := kn2.2.1 k
      dsimp only at x1 x2 hd13 hp13
      obtain ⟨p, hp⟩ : ∃ p, P.getD k 0 = p := ⟨_, rfl⟩
      obtain ⟨d, hd⟩ : ∃ d, D.getD k 0 = d := ⟨_, rfl⟩
      rw [hp] at x1 hp13; rw [hd] at x2 hd13
      have Hp := Lib.hid hp; have Hd := Lib.hid hd; have HPl := Lib.hid hP; have HDl := Lib.hid hD
      clear hp hd hP hD hok kn1 kn2
      obtain ⟨c, hc⟩ : ∃ c, s[j] = c := ⟨_, rfl⟩
      have hc' : s[j].toNat = c.toNat := by rw [hc]
      rw [hc] at Hfail Hnext
      have Hc := Lib.hid hc; clear hc
      have hcb := c.toNat_lt
      by_cases c46 : c.toNat = 46
      · have e1 : (((s[j].toNat : Nat) : Int) == 46) = true := by rw [hc', c46]; rfl
        clear hc'
        by_cases hk3 : k + 1 = 3
        · have hr := Hfail.out (by unfold stepK; rw [if_pos c46, if_pos hk3])
          obtain rfl : k = 2 := by omega
          have Hr := Lib.hid hr; clear hr
          go_wp2
          all_goals try rw [Exit.noGoto_ret]
          all_goals exact ret_blk (b := w.heap.size) (c := #[.int .i64 0, .int .u64 0, .int .i64 0]) (v := .tuple #[idv 0 0 0, .int .i64 3]) (by (apply blk_to; (focus (repeat (first | (with_reducible assumption) | (with_reducible apply blk_drew) | (with_reducible apply blk_set) | ((with_reducible apply blk_other'); (first | (focus (dsimp only; assumption)) | (focus (simp; done)) | (focus (dsimp only; omega)))) | ((with_reducible apply blk_alloc_new); (first | (with_reducible rfl) | (focus (simp; done)) | (focus (simp; omega)))) | (with_reducible apply blk_alloc) | ((with_reducible apply blk_below); (with_reducible assumption))))); rfl)) (fun W' hc => by simp [results, Tryd.results31, go_sem, hc]) rfl ⟨by rw [Hr.out]; rfl, by (repeat (first | (with_reducible exact Below.refl _ _) | (with_reducible refine beld_drew ?_) | ((with_reducible refine bset' ?_ ?_); (first | (focus (dsimp only; assumption)) | (focus (simp; done)) | (focus (dsimp only; omega)))) | (with_reducible refine belt_alloc ?_) | ((with_reducible refine zeroed_below' ?_ ?_); (first | (focus (simp; done)) | (focus (dsimp only; omega)))) | (with_reducible refine bt ?_ (by assumption))))⟩
        · have hk3' : ((k : Int) + 1 == 3) = false := by simp; omega
          obtain ⟨hn1, hn2⟩ := Hnext.out (k + 1, P, D) (by unfold stepK; rw [if_pos c46, if_neg hk3])
          have Hn1 := Lib.hid hn1; clear hn1
          go_wp2
          go_roundw
          case rel => exact ⟨j + 1, (k + 1, P, D), by go_num, by omega, by go_num, Hn1.out, hn2, hbw, hb0, hb1, hb2⟩
          case measure => simp [intOf]; omega
      · have e1 : (((s[j].toNat : Nat) : Int) == 46) = false := by rw [hc']; simp; omega
        by_cases cd : c.toNat < 48 ∨ 57 < c.toNat
        · have hr := Hfail.out (by unfold stepK; rw [if_neg c46, if_pos cd])
          have Hr := Lib.hid hr; clear hr
          have cd' : ((s[j].toNat : Nat) : Int) < 48 ∨ 57 < ((s[j].toNat : Nat) : Int) := by rw [hc']; omega
          rcases cd' with cd' | cd'
          all_goals
            go_wp2
            all_goals try rw [Exit.noGoto_ret]
            all_goals exact ret_blk (b := w.heap.size) (c := #[.int .i64 0, .int .u64 0, .int .i64 0]) (v := .tuple #[idv 0 0 0, .int .i64 3]) (by (apply blk_to; (focus (repeat (first | (with_reducible assumption) | (with_reducible apply blk_drew) | (with_reducible apply blk_set) | ((with_reducible apply blk_other'); (first | (focus (dsimp only; assumption)) | (focus (simp; done)) | (focus (dsimp only; omega)))) | ((with_reducible apply blk_alloc_new); (first | (with_reducible rfl) | (focus (simp; done)) | (focus (simp; omega)))) | (with_reducible apply blk_alloc) | ((with_reducible apply blk_below); (with_reducible assumption))))); rfl)) (fun W' hc => by simp [results, Tryd.results31, go_sem, hc]) rfl ⟨by rw [Hr.out]; rfl, by (repeat (first | (with_reducible exact Below.refl _ _) | (with_reducible refine beld_drew ?_) | ((with_reducible refine bset' ?_ ?_); (first | (focus (dsimp only; assumption)) | (focus (simp; done)) | (focus (dsimp only; omega)))) | (with_reducible refine belt_alloc ?_) | ((with_reducible refine zeroed_below' ?_ ?_); (first | (focus (simp; done)) | (focus (dsimp only; omega)))) | (with_reducible refine bt ?_ (by assumption))))⟩
        · have cd1 : 48 ≤ ((s[j].toNat : Nat) : Int) := by rw [hc']; omega
          have cd2 : ((s[j].toNat : Nat) : Int) ≤ 57 := by rw [hc']; omega
          by_cases cz : (0 < d ∧ p = 0) ∨ d = 13
          · have hr := Hfail.out (by unfold stepK; rw [if_neg c46, if_neg cd, if_pos (by dsimp only; rw [Hp.out, Hd.out]; exact cz)])
            have Hr := Lib.hid hr; clear hr
            rcases cz with ⟨cz, rfl⟩ | rfl
            all_goals
              go_wp2
              all_goals try rw [Exit.noGoto_ret]
              all_goals exact ret_blk (b := w.heap.size) (c := #[.int .i64 0, .int .u64 0, .int .i64 0]) (v := .tuple #[idv 0 0 0, .int .i64 3]) (by (apply blk_to; (focus (repeat (first | (with_reducible assumption) | (with_reducible apply blk_drew) | (with_reducible apply blk_set) | ((with_reducible apply blk_other'); (first | (focus (dsimp only; assumption)) | (focus (simp; done)) | (focus (dsimp only; omega)))) | ((with_reducible apply blk_alloc_new); (first | (with_reducible rfl) | (focus (simp; done)) | (focus (simp; omega)))) | (with_reducible apply blk_alloc) | ((with_reducible apply blk_below); (with_reducible assumption))))); rfl)) (fun W' hc => by simp [results, Tryd.results31, go_sem, hc]) rfl ⟨by rw [Hr.out]; rfl, by (repeat (first | (with_reducible exact Below.refl _ _) | (with_reducible refine beld_drew ?_) | ((with_reducible refine bset' ?_ ?_); (first | (focus (dsimp only; assumption)) | (focus (simp; done)) | (focus (dsimp only; omega)))) | (with_reducible refine belt_alloc ?_) | ((with_reducible refine zeroed_below' ?_ ?_); (first | (focus (simp; done)) | (focus (dsimp only; omega)))) | (with_reducible refine bt ?_ (by assumption))))⟩
          · have hn := Hnext.out _ (by unfold stepK; rw [if_neg c46, if_neg cd, if_neg (by dsimp only; rw [Hp.out, Hd.out]; exact cz)])
            dsimp only at hn
            rw [Hp.out, Hd.out] at hn
            have Hn := Lib.hid hn; clear hn
            have cd13 : ((d : Int) == 13) = false := by simp; omega
            have hd12 : d ≤ 12 := by omega
            have q1 : IntKind.u64.wrap (10 * (p : Int)) = 10 * (p : Int) := IntWalk.u64_in _ (by omega)
            have q2 : IntKind.u8.wrap (((s[j].toNat : Nat) : Int) - 48) = ((s[j].toNat : Nat) : Int) - 48 := IntWalk.u8_in _ (by omega)
            have q3 : IntKind.u64.wrap (((s[j].toNat : Nat) : Int) - 48) = ((s[j].toNat : Nat) : Int) - 48 := IntWalk.u64_in _ (by omega)
            have q4 : IntKind.u64.wrap (10 * (p : Int) + (((s[j].toNat : Nat) : Int) - 48)) = 10 * (p : Int) + (((s[j].toNat : Nat) : Int) - 48) := IntWalk.u64_in _ (by omega)
            have q5 : IntKind.i64.wrap ((d : Int) + 1) = (d : Int) + 1 := IntWalk.i64_in _ (by omega)
            rcases (show d = 0 ∨ 0 < d ∧ p ≠ 0 by omega) with rfl | ⟨cz1, cz2⟩
            · go_wp2
              go_region
              go_wp2
              go_roundw
              case rel =>
                refine ⟨j + 1, (k, P.set k (10 * p + (c.toNat - 48)), D.set k (0 + 1)), by go_num, by omega, rfl, Hn.out.1, Hn.out.2, by (repeat (first | (with_reducible exact Below.refl _ _) | (with_reducible refine beld_drew ?_) | ((with_reducible refine bset' ?_ ?_); (first | (focus (dsimp only; assumption)) | (focus (simp; done)) | (focus (dsimp only; omega)))) | (with_reducible refine belt_alloc ?_) | ((with_reducible refine zeroed_below' ?_ ?_); (first | (focus (simp; done)) | (focus (dsimp only; omega)))) | (with_reducible refine bt ?_ (by assumption)))), by (apply blk_to; (focus (repeat (first | (with_reducible assumption) | (with_reducible apply blk_drew) | (with_reducible apply blk_set) | ((with_reducible apply blk_other'); (first | (focus (dsimp only; assumption)) | (focus (simp; done)) | (focus (dsimp only; omega)))) | ((with_reducible apply blk_alloc_new); (first | (with_reducible rfl) | (focus (simp; done)) | (focus (simp; omega)))) | (with_reducible apply blk_alloc) | ((with_reducible apply blk_below); (with_reducible assumption))))); rfl), ?_, ?_⟩
                · rw [← natC_set, show ((10 * p + (c.toNat - 48) : Nat) : Int) = 10 * (p : Int) + ((c.toNat : Nat) - 48) by omega]; (apply blk_to; (focus (repeat (first | (with_reducible assumption) | (with_reducible apply blk_drew) | (with_reducible apply blk_set) | ((with_reducible apply blk_other'); (first | (focus (dsimp only; assumption)) | (focus (simp; done)) | (focus (dsimp only; omega)))) | ((with_reducible apply blk_alloc_new); (first | (with_reducible rfl) | (focus (simp; done)) | (focus (simp; omega)))) | (with_reducible apply blk_alloc) | ((with_reducible apply blk_below); (with_reducible assumption))))); rfl)
                · rw [← natC_set, show ((0 + 1 : Nat) : Int) = 1 by rfl]; (apply blk_to; (focus (repeat (first | (with_reducible assumption) | (with_reducible apply blk_drew) | (with_reducible apply blk_set) | ((with_reducible apply blk_other'); (first | (focus (dsimp only; assumption)) | (focus (simp; done)) | (focus (dsimp only; omega)))) | ((with_reducible apply blk_alloc_new); (first | (with_reducible rfl) | (focus (simp; done)) | (focus (simp; omega)))) | (with_reducible apply blk_alloc) | ((with_reducible apply blk_below); (with_reducible assumption))))); rfl)
              case measure => simp [intOf]; omega
            · have cz3 : ((p : Int) == 0) = false := by simp; omega
              go_wp2
              go_region
              go_wp2
              go_roundw
              case rel =>
                refine ⟨j + 1, (k, P.set k (10 * p + (c.toNat - 48)), D.set k (d + 1)), by go_num, by omega, rfl, Hn.out.1, Hn.out.2, by (repeat (first | (with_reducible exact Below.refl _ _) | (with_reducible refine beld_drew ?_) | ((with_reducible refine bset' ?_ ?_); (first | (focus (dsimp only; assumption)) | (focus (simp; done)) | (focus (dsimp only; omega)))) | (with_reducible refine belt_alloc ?_) | ((with_reducible refine zeroed_below' ?_ ?_); (first | (focus (simp; done)) | (focus (dsimp only; omega)))) | (with_reducible refine bt ?_ (by assumption)))), by (apply blk_to; (focus (repeat (first | (with_reducible assumption) | (with_reducible apply blk_drew) | (with_reducible apply blk_set) | ((with_reducible apply blk_other'); (first | (focus (dsimp only; assumption)) | (focus (simp; done)) | (focus (dsimp only; omega)))) | ((with_reducible apply blk_alloc_new); (first | (with_reducible rfl) | (focus (simp; done)) | (focus (simp; omega)))) | (with_reducible apply blk_alloc) | ((with_reducible apply blk_below); (with_reducible assumption))))); rfl), ?_, ?_⟩
                · rw [← natC_set, show ((10 * p + (c.toNat - 48) : Nat) : Int) = 10 * (p : Int) + ((c.toNat : Nat) - 48) by omega]; (apply blk_to; (focus (repeat (first | (with_reducible assumption) | (with_reducible apply blk_drew) | (with_reducible apply blk_set) | ((with_reducible apply blk_other'); (first | (focus (dsimp only; assumption)) | (focus (simp; done)) | (focus (dsimp only; omega)))) | ((with_reducible apply blk_alloc_new); (first | (with_reducible rfl) | (focus (simp; done)) | (focus (simp; omega)))) | (with_reducible apply blk_alloc) | ((with_reducible apply blk_below); (with_reducible assumption))))); rfl)
                · rw [← natC_set, show ((d + 1 : Nat) : Int) = (d : Int) + 1 by rfl]; (apply blk_to; (focus (repeat (first | (with_reducible assumption) | (with_reducible apply blk_drew) | (with_reducible apply blk_set) | ((with_reducible apply blk_other'); (first | (focus (dsimp only; assumption)) | (focus (simp; done)) | (focus (dsimp only; omega)))) | ((with_reducible apply blk_alloc_new); (first | (with_reducible rfl) | (focus (simp; done)) | (focus (simp; omega)))) | (with_reducible apply blk_alloc) | ((with_reducible apply blk_below); (with_reducible assumption))))); rfl)
              case measure => simp [intOf]; omega
    · obtain rfl : j = s.size := by omega
      have hfin : r = finK (k, P, D) := by
        rw [← HR.out]; unfold parseK
        have := Hrun.out
        rw [List.take_of_length_le (by simp)] at this
        rw [this]; rfl
      match P, D, hP, hD with
      | [p0, p1, p2], [d0, d1, d2], _, _ =>
        have b0 := hok.small 0
        have b1 := hok.small 1
        have b2 := hok.small 2
        simp only [List.getD_cons_zero, List.getD_cons_succ] at b0 b1 b2
        have Hfin := Lib.hid hfin; clear hfin
        have hcz : ([(d0 : Int), (d1 : Int), (d2 : Int)].take 3).contains 0 = [d0, d1, d2].contains 0 := by
          have e : ∀ d : Nat, decide ((0 : Int) = (d : Int)) = decide (0 = d) := fun d => decide_eq_decide.2 (by omega)
          simp [List.contains_cons, e]
        have y0 := natC_at hb1 0 (by simp)
        have y1 := natC_at hb1 1 (by simp)
        have y2 := natC_at hb1 2 (by simp)
        simp only [List.getD_cons_zero, List.getD_cons_succ] at y0 y1 y2
        have gC := Tryd.slices_Contains_int (w.heap.size + 1 + 1) 0 3 3 [(d0 : Int), (d1 : Int), (d2 : Int)] 0 wr (by simp) (by simp) (fun i hi => by
          have hi3 : i < 3 := by simpa using hi
          rw [Nat.zero_add]
          have := natC_at hb2 i (by simpa using hi3)
          rw [this]
          match i, hi3 with
          | 0, _ => rfl
          | 1, _ => rfl
          | 2, _ => rfl)
        rw [hcz] at gC
        replace gC := gC.mono (fun e w' (h : e = _ ∧ w' = wr) => (show e = _ ∧ wr = w' from ⟨h.1, h.2.symm⟩))
        have Hb1 := Lib.hid hb1; have Hb2 := Lib.hid hb2
        clear hcz hok kn1 kn2 hb1 hb2
        cases hq : [d0, d1, d2].contains 0
        · have hr : r = some (p0, p1, p2) := by rw [Hfin.out]; unfold finK; rw [if_neg (by dsimp only; rw [hq]; decide)]; rfl
          rw [hq] at gC
          replace gC := Lib.hid gC
          have HQ := Lib.hid hq; clear hq
          have Hr := Lib.hid hr; clear hr
          have hc := fun w => checkID_any p0 p1 p2 w
          have n0 : (p0 : Int) < 10000000000000 := by omega
          have n1 : (p1 : Int) < 10000000000000 := by omega
          have n2 : (p2 : Int) < 10000000000000 := by omega
          rcases idC_cases p0 p1 p2 with ⟨h0, _⟩ | ⟨h0, _⟩ <;> rw [h0] at hc <;> replace hc := Lib.hid hc <;> have H0 := Lib.hid h0 <;> clear h0
          · go_wp2_with (first
              | (go_at_call 51; (with_reducible refine gC.out.mono ?_); rintro e wx ⟨rfl, rfl⟩)
              | (go_at_call 17; (with_reducible refine (hc.out _).mono ?_); rintro e wc ⟨rfl, hcb⟩; have kk1 : blk wc (w.heap.size) = some #[.int .i64 0, .int .u64 0, .int .i64 0] := (by (apply blk_to; (focus (repeat (first | (with_reducible assumption) | (with_reducible apply blk_drew) | (with_reducible apply blk_set) | ((with_reducible apply blk_other'); (first | (focus (dsimp only; assumption)) | (focus (simp; done)) | (focus (dsimp only; omega)))) | ((with_reducible apply blk_alloc_new); (first | (with_reducible rfl) | (focus (simp; done)) | (focus (simp; omega)))) | (with_reducible apply blk_alloc) | ((with_reducible apply blk_below); (with_reducible assumption))))); rfl)); have kn1 := kn kk1; have kk2 : blk wc (wr.heap.size) = some #[.int .i64 (p0 : Int), .int .u64 (p1 : Int), .int .i64 (p2 : Int)] := (by (apply blk_to; (focus (repeat (first | (with_reducible assumption) | (with_reducible apply blk_drew) | (with_reducible apply blk_set) | ((with_reducible apply blk_other'); (first | (focus (dsimp only; assumption)) | (focus (simp; done)) | (focus (dsimp only; omega)))) | ((with_reducible apply blk_alloc_new); (first | (with_reducible rfl) | (focus (simp; done)) | (focus (simp; omega)))) | (with_reducible apply blk_alloc) | ((with_reducible apply blk_below); (with_reducible assumption))))); rfl)); have kn2 := kn kk2))
            all_goals try rw [Exit.noGoto_ret]
            all_goals exact ret_blk (b := w.heap.size) (c := #[.int .i64 (p0 : Int), .int .u64 (p1 : Int), .int .i64 (p2 : Int)]) (v := .tuple #[idv p0 p1 p2, .int .i64 0]) (by (apply blk_to; (focus (repeat (first | (with_reducible assumption) | (with_reducible apply blk_drew) | (with_reducible apply blk_set) | ((with_reducible apply blk_other'); (first | (focus (dsimp only; assumption)) | (focus (simp; done)) | (focus (dsimp only; omega)))) | ((with_reducible apply blk_alloc_new); (first | (with_reducible rfl) | (focus (simp; done)) | (focus (simp; omega)))) | (with_reducible apply blk_alloc) | ((with_reducible apply blk_below); (with_reducible assumption))))); rfl)) (fun W' hc => by simp [results, Tryd.results31, go_sem, hc]) rfl ⟨by rw [Hr.out]; simp [gotK, H0.out], by (repeat (first | (with_reducible assumption) | (with_reducible exact Below.refl _ _) | (with_reducible refine beld_drew ?_) | ((with_reducible refine bset' ?_ ?_); (first | (focus (dsimp only; assumption)) | (focus (simp; done)) | (focus (dsimp only; omega)))) | (with_reducible refine belt_alloc ?_) | ((with_reducible refine zeroed_below' ?_ ?_); (first | (focus (simp; done)) | (focus (dsimp only; omega)))) | (with_reducible refine bt ?_ (by assumption))))⟩
          · go_wp2_with (first
              | (go_at_call 51; (with_reducible refine gC.out.mono ?_); rintro e wx ⟨rfl, rfl⟩)
              | (go_at_call 17; (with_reducible refine (hc.out _).mono ?_); rintro e wc ⟨rfl, hcb⟩; have kk3 : blk wc (w.heap.size) = some #[.int .i64 0, .int .u64 0, .int .i64 0] := (by (apply blk_to; (focus (repeat (first | (with_reducible assumption) | (with_reducible apply blk_drew) | (with_reducible apply blk_set) | ((with_reducible apply blk_other'); (first | (focus (dsimp only; assumption)) | (focus (simp; done)) | (focus (dsimp only; omega)))) | ((with_reducible apply blk_alloc_new); (first | (with_reducible rfl) | (focus (simp; done)) | (focus (simp; omega)))) | (with_reducible apply blk_alloc) | ((with_reducible apply blk_below); (with_reducible assumption))))); rfl)); have kn3 := kn kk3; have kk4 : blk wc (wr.heap.size) = some #[.int .i64 (p0 : Int), .int .u64 (p1 : Int), .int .i64 (p2 : Int)] := (by (apply blk_to; (focus (repeat (first | (with_reducible assumption) | (with_reducible apply blk_drew) | (with_reducible apply blk_set) | ((with_reducible apply blk_other'); (first | (focus (dsimp only; assumption)) | (focus (simp; done)) | (focus (dsimp only; omega)))) | ((with_reducible apply blk_alloc_new); (first | (with_reducible rfl) | (focus (simp; done)) | (focus (simp; omega)))) | (with_reducible apply blk_alloc) | ((with_reducible apply blk_below); (with_reducible assumption))))); rfl)); have kn4 := kn kk4))
            all_goals try rw [Exit.noGoto_ret]
            all_goals exact ret_blk (b := w.heap.size) (c := #[.int .i64 0, .int .u64 0, .int .i64 0]) (v := .tuple #[idv 0 0 0, .int .i64 2]) (by (apply blk_to; (focus (repeat (first | (with_reducible assumption) | (with_reducible apply blk_drew) | (with_reducible apply blk_set) | ((with_reducible apply blk_other'); (first | (focus (dsimp only; assumption)) | (focus (simp; done)) | (focus (dsimp only; omega)))) | ((with_reducible apply blk_alloc_new); (first | (with_reducible rfl) | (focus (simp; done)) | (focus (simp; omega)))) | (with_reducible apply blk_alloc) | ((with_reducible apply blk_below); (with_reducible assumption))))); rfl)) (fun W' hc => by simp [results, Tryd.results31, go_sem, hc]) rfl ⟨by rw [Hr.out]; simp [gotK, H0.out], by (repeat (first | (with_reducible assumption) | (with_reducible exact Below.refl _ _) | (with_reducible refine beld_drew ?_) | ((with_reducible refine bset' ?_ ?_); (first | (focus (dsimp only; assumption)) | (focus (simp; done)) | (focus (dsimp only; omega)))) | (with_reducible refine belt_alloc ?_) | ((with_reducible refine zeroed_below' ?_ ?_); (first | (focus (simp; done)) | (focus (dsimp only; omega)))) | (with_reducible refine bt ?_ (by assumption))))⟩
        · have hr : r = none := by rw [Hfin.out]; unfold finK; rw [if_pos (by dsimp only; rw [hq])]
          rw [hq] at gC
          replace gC := Lib.hid gC
          have HQ := Lib.hid hq; clear hq
          have Hr := Lib.hid hr; clear hr
          go_wp2_with (go_at_call 51; (with_reducible refine gC.out.mono ?_); rintro e wx ⟨rfl, rfl⟩)
          all_goals try rw [Exit.noGoto_ret]
          all_goals exact ret_blk (b := w.heap.size) (c := #[.int .i64 0, .int .u64 0, .int .i64 0]) (v := .tuple #[idv 0 0 0, .int .i64 3]) (by (apply blk_to; (focus (repeat (first | (with_reducible assumption) | (with_reducible apply blk_drew) | (with_reducible apply blk_set) | ((with_reducible apply blk_other'); (first | (focus (dsimp only; assumption)) | (focus (simp; done)) | (focus (dsimp only; omega)))) | ((with_reducible apply blk_alloc_new); (first | (with_reducible rfl) | (focus (simp; done)) | (focus (simp; omega)))) | (with_reducible apply blk_alloc) | ((with_reducible apply blk_below); (with_reducible assumption))))); rfl)) (fun W' hc => by simp [results, Tryd.results31, go_sem, hc]) rfl ⟨by rw [Hr.out]; rfl, by (repeat (first | (with_reducible assumption) | (with_reducible exact Below.refl _ _) | (with_reducible refine beld_drew ?_) | ((with_reducible refine bset' ?_ ?_); (first | (focus (dsimp only; assumption)) | (focus (simp; done)) | (focus (dsimp only; omega)))) | (with_reducible refine belt_alloc ?_) | ((with_reducible refine zeroed_below' ?_ ?_); (first | (focus (simp; done)) | (focus (dsimp only; omega)))) | (with_reducible refine bt ?_ (by assumption))))⟩
end Go.Proofs.YtdbmiijnedkipaaDoor
