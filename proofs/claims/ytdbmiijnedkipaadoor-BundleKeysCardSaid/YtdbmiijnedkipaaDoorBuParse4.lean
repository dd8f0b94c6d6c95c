/- The walk of the reference's ParseKey. -/
import Derived.Test.YtdbmiijnedkipaaDoorBuParse2
import Derived.Test.YtdbmiijnedkipaaDoorBuParse3
namespace Go.Proofs.YtdbmiijnedkipaaDoor
set_option linter.unusedVariables false
open Go.RowKit

theorem digs_at (l : List UInt8) {i : Nat} (h : i < digs l) : ∃ hl : i < l.length, isD l[i] = true := by
  have hl : i < l.length := by have := digs_le l; omega
  exact ⟨hl, take_isD l (i + 1) (by omega) l[i] (by rw [List.mem_take_iff_getElem]; exact ⟨i, by omega, rfl⟩)⟩
theorem digs_end (l : List UInt8) (h : digs l < l.length) : isD l[digs l] = false := drop_head l (List.drop_eq_getElem_cons h)
theorem valD_lt : ∀ l : List UInt8, (∀ c ∈ l, isD c = true) → valD l < 10 ^ l.length := by
  refine snoc_ind (fun _ => by decide) fun l c ih hd => ?_
  have hc := hd c (by simp)
  unfold isD at hc
  simp only [Bool.and_eq_true, decide_eq_true_eq] at hc
  have := ih fun x hx => hd x (by simp [hx])
  rw [valD_snoc, List.length_append, List.length_singleton, Nat.pow_succ]
  omega
theorem valD_take (l : List UInt8) {q : Nat} (h : q < digs l) (hl : q < l.length) : valD (l.take (q + 1)) = 10 * valD (l.take q) + (l[q].toNat - 48) := by
  rw [List.take_succ_eq_append_getElem hl, valD_snoc]
theorem valD_bd (l : List UInt8) {q : Nat} (h : q ≤ digs l) (h13 : q ≤ 13) : valD (l.take q) < 10000000000000 := by
  have h1 := valD_lt (l.take q) (take_isD l q h)
  have h2 := digs_le l
  rw [List.length_take, Nat.min_eq_left (by omega)] at h1
  have : 10 ^ q ≤ 10 ^ 13 := Nat.pow_le_pow_right (by decide) h13
  omega
/-- The parts, when some are read. -/
def partsL (vs : List Nat) : List Nat := vs ++ List.replicate (3 - vs.length) 0
theorem partsL_len (vs : List Nat) (h : vs.length ≤ 3) : (partsL vs).length = 3 := by simp [partsL]; omega
theorem partsL_set (vs : List Nat) (v : Nat) (h : vs.length < 3) : (partsL vs).set vs.length v = partsL (vs ++ [v]) := by
  unfold partsL
  rw [show 3 - vs.length = (2 - vs.length) + 1 by omega, List.replicate_succ]
  simp
theorem partsL_at (vs : List Nat) (h : vs.length < 3) : (partsL vs).getD vs.length 0 = 0 := by
  unfold partsL
  rw [show 3 - vs.length = (2 - vs.length) + 1 by omega, List.replicate_succ]
  simp [List.getD_eq_getElem?_getD]
theorem partsL_at' (vs : List Nat) (v : Nat) (h : vs.length < 3) : (partsL (vs ++ [v])).getD vs.length 0 = v := by
  rw [← partsL_set vs v h, getD_set_nat, if_pos ⟨rfl, by rw [partsL_len]; exact h; omega⟩]
theorem partsL_again (vs : List Nat) (v u : Nat) (h : vs.length < 3) : (partsL (vs ++ [v])).set vs.length u = partsL (vs ++ [u]) := by
  rw [← partsL_set vs v h, List.set_set, partsL_set vs u h]
theorem contR_none {n : Nat} {vs : List Nat} {l l' : List UInt8} (h : (if vs = [] then some l else dotR l) = some l') (hf : fieldR l' = none) : contR (n + 1) vs l = none := by
  simp only [contR, h, Option.bind_some, hf, Option.bind_none]
theorem contR_some {n : Nat} {vs : List Nat} {l l' : List UInt8} {x : Nat × List UInt8} (h : (if vs = [] then some l else dotR l) = some l') (hf : fieldR l' = some x) : contR (n + 1) vs l = contR n (vs ++ [x.1]) x.2 := by
  simp only [contR, h, Option.bind_some, hf]
theorem contR_dot {n : Nat} {vs : List Nat} {l : List UInt8} (h : vs ≠ []) (hf : dotR l = none) : contR (n + 1) vs l = none := by
  simp only [contR, if_neg h, hf, Option.bind_none]

set_option maxRecDepth 100000 in
set_option maxHeartbeats 6400000 in
theorem refParseKey_any (s : ByteArray) (hs : s.size ≤ 1000) (w : World) :
    Calls Tryd.prog 32 #[.string s] w fun e w' => e = .returned (.tuple #[(gotK (parseR s.data.toList)).1, .int .i64 (gotK (parseR s.data.toList)).2]) ∧ Below w.heap.size w w' := by
  obtain ⟨r, hr⟩ : ∃ r, parseR s.data.toList = r := ⟨_, rfl⟩
  rw [hr]
  have HR := Lib.hid hr; clear hr
  go_enter Tryd.func32, Tryd.ntmps32
  go_wp2
  go_loopw [5, 6] (fun at_ kk wr => ∃ (a : Nat) (vs : List Nat), at_ = .int .i64 a ∧ a ≤ s.size ∧ kk = .int .i64 (vs.length : Nat) ∧ vs.length ≤ 3 ∧ r = contR (3 - vs.length) vs (s.data.toList.drop a) ∧ (∀ v ∈ vs, v < 10000000000000) ∧ Below w.heap.size w wr ∧
      blk wr w.heap.size = some #[.int .i64 0, .int .u64 0, .int .i64 0] ∧ blk wr (w.heap.size + 1) = some (natC .u64 (partsL vs))) (fun _ kk _ => 3 - (intOf kk).toNat)
  case atStart => exact ⟨0, [], rfl, by omega, rfl, by decide, HR.out.symm, by simp, by (repeat (first | (with_reducible assumption) | (with_reducible exact Below.refl _ _) | (with_reducible refine beld_drew ?_) | ((with_reducible refine bset' ?_ ?_); (first | (focus (dsimp only; assumption)) | (focus (simp; done)) | (focus (dsimp only; omega)))) | (with_reducible refine belt_alloc ?_) | ((with_reducible refine zeroed_below' ?_ ?_); (first | (focus (simp; done)) | (focus (dsimp only; omega)))) | (with_reducible refine bt ?_ (by assumption)))), by (apply blk_to; (focus (repeat (first | (with_reducible assumption) | (with_reducible apply blk_drew) | (with_reducible apply blk_set) | ((with_reducible apply blk_other'); (first | (focus (dsimp only; assumption)) | (focus (simp; done)) | (focus (dsimp only; omega)))) | ((with_reducible apply blk_alloc_new); (first | (with_reducible rfl) | (focus (simp; done)) | (focus (simp; omega)))) | (with_reducible apply blk_alloc) | ((with_reducible apply blk_below); (with_reducible assumption))))); rfl), by refine blk_to (c' := #[.int .u64 0, .int .u64 0, .int .u64 0]) ?_ rfl; (apply blk_to; (focus (repeat (first | (with_reducible assumption) | (with_reducible apply blk_drew) | (with_reducible apply blk_set) | ((with_reducible apply blk_other'); (first | (focus (dsimp only; assumption)) | (focus (simp; done)) | (focus (dsimp only; omega)))) | ((with_reducible apply blk_alloc_new); (first | (with_reducible rfl) | (focus (simp; done)) | (focus (simp; omega)))) | (with_reducible apply blk_alloc) | ((with_reducible apply blk_below); (with_reducible assumption))))); rfl)⟩
  case round =>
    obtain ⟨a, vs, rfl, ha, rfl, hk, hrun, hbd, hbw, hb0, hb1⟩ := hrel
    obtain ⟨k, hkk⟩ : ∃ k, vs.length = k := ⟨_, rfl⟩
    rw [hkk] at hk ⊢
    have Hk := Lib.hid hkk
    have Hrun := Lib.hid hrun; clear hrun
    have Hbd := Lib.hid hbd; clear hbd
    have kn0 := kn hb0
    have Hb1 := Lib.hid hb1
    by_cases hlt : k < 3
    · obtain ⟨n, hn⟩ : ∃ n, 3 - vs.length = n + 1 := ⟨2 - vs.length, by omega⟩
      have Hn := Lib.hid hn; clear hn hkk hb1
      have hcase : (k = 0 ∧ vs = []) ∨ (0 < k ∧ vs ≠ [] ∧ (s.size ≤ a ∨ ∃ h : a < s.size, s[a].toNat ≠ 46)) ∨ (0 < k ∧ vs ≠ [] ∧ ∃ h : a < s.size, s[a].toNat = 46) := by
        have e := Hk.out
        by_cases h0 : k = 0
        · exact .inl ⟨h0, by cases vs with | nil => rfl | cons _ _ => simp at e; omega⟩
        · have hv : vs ≠ [] := by intro h; rw [h] at e; simp at e; omega
          by_cases h1 : a < s.size
          · by_cases h2 : s[a].toNat = 46
            · exact .inr (.inr ⟨by omega, hv, h1, h2⟩)
            · exact .inr (.inl ⟨by omega, hv, .inr ⟨h1, h2⟩⟩)
          · exact .inr (.inl ⟨by omega, hv, .inl (by omega)⟩)
      rcases hcase with ⟨rfl, hv⟩ | ⟨hk0, hv, hd⟩ | ⟨hk0, hv, h1, h2⟩
      · have hst0 : (if vs = [] then some (s.data.toList.drop a) else dotR (s.data.toList.drop a)) = some (s.data.toList.drop a) := by rw [if_pos hv]
        have hbs : a ≤ s.size := by omega
        have hst := Lib.hid hst0; clear hst0
        clear hv
        obtain ⟨l, hl⟩ : ∃ l, s.data.toList.drop a = l := ⟨_, rfl⟩
        have hlen : l.length = s.size - a := by rw [← hl]; simp
        have hget : ∀ p (h1 : a ≤ p) (h : p - a < l.length), ∃ h' : p < s.size, l[p - a] = s[p] := fun p h1 h => ⟨by omega, by subst hl; simp [show a + (p - a) = p by omega]; rfl⟩
        replace hst := Lib.hid (hst.out.trans (congrArg some hl))
        have Hget := Lib.hid hget; have Hlen := Lib.hid hlen; have Hl := Lib.hid hl
        clear hget hl
        have hdl := digs_le l
        obtain ⟨m, hm⟩ : ∃ m, digs l = m := ⟨_, rfl⟩
        rw [hm] at hdl
        have Hm := Lib.hid hm; clear hm
        have hvl : vs.length < 3 := by rw [Hk.out]; omega
        have hml : m ≤ s.size - a := by omega
        clear hlen hdl
        go_wp2
        go_loopw [5] (fun at_ wr => ∃ p : Nat, at_ = .int .i64 p ∧ a ≤ p ∧ p - a ≤ m ∧ p - a ≤ 14 ∧ Below w.heap.size w wr ∧ blk wr w.heap.size = some #[.int .i64 0, .int .u64 0, .int .i64 0] ∧ blk wr (w.heap.size + 1) = some (natC .u64 (partsL (vs ++ [valD (l.take (p - a))])))) (fun at_ _ => s.size - (intOf at_).toNat)
        case atStart =>
          refine ⟨a, by rfl, by omega, by omega, by omega, hbw, hb0, ?_⟩
          have e : partsL (vs ++ [valD (l.take (a - a))]) = partsL vs := by
            rw [Nat.sub_self, List.take_zero, ← partsL_set vs _ hvl, show valD [] = 0 from rfl]
            apply List.ext_getElem (by simp)
            intro i h1 h2
            rw [List.getElem_set]
            split
            · rename_i e; subst e
              have := partsL_at vs hvl
              rw [List.getD_eq_getElem?_getD, List.getElem?_eq_getElem h2] at this
              simpa using this.symm
            · rfl
          rw [e]; exact Hb1.out
        case round =>
          obtain ⟨p, rfl, hp1, hp2, hp3, hbw2, hb02, hb12⟩ := hrel
          clear kn0
          have kn0 := kn hb02
          by_cases hin : p - a < m ∧ p - a ≤ 13
          · obtain ⟨hin1, hin2⟩ := hin
            obtain ⟨hd1, hd2⟩ := digs_at l (i := p - a) (by rw [Hm.out]; exact hin1)
            obtain ⟨hps, hd3⟩ := Hget.out p hp1 hd1
            rw [hd3] at hd2
            unfold isD at hd2
            simp only [Bool.and_eq_true, decide_eq_true_eq] at hd2
            obtain ⟨c1, c2⟩ := hd2
            have hvb := valD_bd l (q := p - a) (by rw [Hm.out]; omega) hin2
            have hvs := valD_take l (q := p - a) (by rw [Hm.out]; exact hin1) hd1
            rw [hd3] at hvs
            have x1 := natC_at hb12 vs.length (by rw [partsL_len _ (by simp; omega)]; omega)
            rw [partsL_at' vs _ hvl] at x1
            have f1 := (kn hb12).2.1 vs.length
            rw [Hk.out] at x1 f1
            obtain ⟨v, hv⟩ : ∃ v, valD (l.take (p - a)) = v := ⟨_, rfl⟩
            rw [hv] at x1 hvb hvs
            have HV := Lib.hid hv; have HVS := Lib.hid hvs; have HB := Lib.hid hb12
            clear hv hvs hb12 hd3 hd1
            have c3 : 48 ≤ ((s[p].toNat : Nat) : Int) := by omega
            have c4 : ((s[p].toNat : Nat) : Int) ≤ 57 := by omega
            have q1 : IntKind.u64.wrap (10 * (v : Int)) = 10 * (v : Int) := IntWalk.u64_in _ (by omega)
            have q2 : IntKind.u8.wrap (((s[p].toNat : Nat) : Int) - 48) = ((s[p].toNat : Nat) : Int) - 48 := IntWalk.u8_in _ (by omega)
            have q3 : IntKind.u64.wrap (((s[p].toNat : Nat) : Int) - 48) = ((s[p].toNat : Nat) : Int) - 48 := IntWalk.u64_in _ (by omega)
            have q4 : IntKind.u64.wrap (10 * (v : Int) + (((s[p].toNat : Nat) : Int) - 48)) = 10 * (v : Int) + (((s[p].toNat : Nat) : Int) - 48) := IntWalk.u64_in _ (by omega)
            go_wp2
            go_region
            go_wp2
            go_roundw
            case rel =>
              refine ⟨p + 1, by go_num, by omega, by omega, by omega, by (repeat (first | (with_reducible exact Below.refl _ _) | (with_reducible refine beld_drew ?_) | ((with_reducible refine bset' ?_ ?_); (first | (focus (dsimp only; assumption)) | (focus (simp; done)) | (focus (dsimp only; omega)))) | (with_reducible refine belt_alloc ?_) | ((with_reducible refine zeroed_below' ?_ ?_); (first | (focus (simp; done)) | (focus (dsimp only; omega)))) | (with_reducible refine bt ?_ (by assumption)))), by (apply blk_to; (focus (repeat (first | (with_reducible assumption) | (with_reducible apply blk_drew) | (with_reducible apply blk_set) | ((with_reducible apply blk_other'); (first | (focus (dsimp only; assumption)) | (focus (simp; done)) | (focus (dsimp only; omega)))) | ((with_reducible apply blk_alloc_new); (first | (with_reducible rfl) | (focus (simp; done)) | (focus (simp; omega)))) | (with_reducible apply blk_alloc) | ((with_reducible apply blk_below); (with_reducible assumption))))); rfl), ?_⟩
              rw [show p + 1 - a = p - a + 1 by omega, HVS.out, ← partsL_again vs (valD (l.take (p - a))) _ hvl, ← natC_set, show ((10 * v + (s[p].toNat - 48) : Nat) : Int) = 10 * (v : Int) + ((s[p].toNat : Nat) - 48) by omega, Hk.out]
              have HB2 := HB.out
              clear HB
              (apply blk_to; (focus (repeat (first | (with_reducible assumption) | (with_reducible apply blk_drew) | (with_reducible apply blk_set) | ((with_reducible apply blk_other'); (first | (focus (dsimp only; assumption)) | (focus (simp; done)) | (focus (dsimp only; omega)))) | ((with_reducible apply blk_alloc_new); (first | (with_reducible rfl) | (focus (simp; done)) | (focus (simp; omega)))) | (with_reducible apply blk_alloc) | ((with_reducible apply blk_below); (with_reducible assumption))))); rfl)
            case measure => simp [intOf]; omega
          · have hout : ((p : Int) < (s.size : Int)) → ∃ h : p < s.size, (s[p].toNat < 48 ∨ 57 < s[p].toNat) ∨ 13 < p - a := fun h => by
              have hps : p < s.size := by omega
              refine ⟨hps, ?_⟩
              by_cases h14 : 13 < p - a
              · exact .inr h14
              · have e : p - a = m := by omega
                have hl2 : digs l < l.length := by rw [Hm.out, Hlen.out]; omega
                have h1 := digs_end l hl2
                have e2 : digs l = p - a := by rw [Hm.out]; omega
                simp only [e2] at h1 hl2
                obtain ⟨h2, h3⟩ := Hget.out p hp1 hl2
                rw [h3] at h1
                unfold isD at h1
                simp only [Bool.and_eq_false_iff, decide_eq_false_iff_not] at h1
                exact .inl (by omega)
            have Hout := Lib.hid hout; clear hout
            have HB := Lib.hid hb12; clear hb12
            -- the tests behind the loop
            by_cases hbad : p - a = 0 ∨ 13 < p - a ∨ (1 < p - a ∧ lead0 l = true)
            · have hr : r = none := by
                rw [Hrun.out, Hn.out]
                refine contR_none hst.out ?_
                unfold fieldR
                rw [Hm.out, if_pos]
                have hmm : p - a = m ∨ 13 < p - a := by
                  by_cases e : 13 < p - a
                  · exact .inr e
                  · by_cases e2 : p - a = m
                    · exact .inl e2
                    · exact absurd ⟨by omega, by omega⟩ hin
                rcases hbad with h | h | ⟨h, h'⟩
                · rcases hmm with e | e <;> omega
                · exact .inr (.inl (by omega))
                · by_cases e : 13 < m
                  · exact .inr (.inl e)
                  · exact .inr (.inr ⟨by omega, h'⟩)
              have Hr := Lib.hid hr; clear hr
              rcases (show p - a = 0 ∨ 13 < p - a ∨ (1 < p - a ∧ p - a ≤ 13 ∧ lead0 l = true) by rcases hbad with h | h | ⟨h, h'⟩; exact .inl h; exact .inr (.inl h); by_cases e : 13 < p - a; exact .inr (.inl e); exact .inr (.inr ⟨h, by omega, h'⟩)) with h | h | ⟨h, h3, h'⟩
              · clear hbad hin
                go_wp2
                all_goals first
                  | exact ret_blk (b := w.heap.size) (c := #[.int .i64 0, .int .u64 0, .int .i64 0]) (v := .tuple #[idv 0 0 0, .int .i64 3]) (by (apply blk_to; (focus (repeat (first | (with_reducible assumption) | (with_reducible apply blk_drew) | (with_reducible apply blk_set) | ((with_reducible apply blk_other'); (first | (focus (dsimp only; assumption)) | (focus (simp; done)) | (focus (dsimp only; omega)))) | ((with_reducible apply blk_alloc_new); (first | (with_reducible rfl) | (focus (simp; done)) | (focus (simp; omega)))) | (with_reducible apply blk_alloc) | ((with_reducible apply blk_below); (with_reducible assumption))))); rfl)) (fun W' hc => by simp [results, Tryd.results32, go_sem, hc]) rfl ⟨by rw [Hr.out]; rfl, by (repeat (first | (with_reducible exact Below.refl _ _) | (with_reducible refine beld_drew ?_) | ((with_reducible refine bset' ?_ ?_); (first | (focus (dsimp only; assumption)) | (focus (simp; done)) | (focus (dsimp only; omega)))) | (with_reducible refine belt_alloc ?_) | ((with_reducible refine zeroed_below' ?_ ?_); (first | (focus (simp; done)) | (focus (dsimp only; omega)))) | (with_reducible refine bt ?_ (by assumption))))⟩
                  | (exfalso; have hh : (p : Int) < (s.size : Int) := by omega
                     obtain ⟨h, h'⟩ := Hout.out hh
                     omega)
              · clear hbad hin
                go_wp2
                all_goals first
                  | exact ret_blk (b := w.heap.size) (c := #[.int .i64 0, .int .u64 0, .int .i64 0]) (v := .tuple #[idv 0 0 0, .int .i64 3]) (by (apply blk_to; (focus (repeat (first | (with_reducible assumption) | (with_reducible apply blk_drew) | (with_reducible apply blk_set) | ((with_reducible apply blk_other'); (first | (focus (dsimp only; assumption)) | (focus (simp; done)) | (focus (dsimp only; omega)))) | ((with_reducible apply blk_alloc_new); (first | (with_reducible rfl) | (focus (simp; done)) | (focus (simp; omega)))) | (with_reducible apply blk_alloc) | ((with_reducible apply blk_below); (with_reducible assumption))))); rfl)) (fun W' hc => by simp [results, Tryd.results32, go_sem, hc]) rfl ⟨by rw [Hr.out]; rfl, by (repeat (first | (with_reducible exact Below.refl _ _) | (with_reducible refine beld_drew ?_) | ((with_reducible refine bset' ?_ ?_); (first | (focus (dsimp only; assumption)) | (focus (simp; done)) | (focus (dsimp only; omega)))) | (with_reducible refine belt_alloc ?_) | ((with_reducible refine zeroed_below' ?_ ?_); (first | (focus (simp; done)) | (focus (dsimp only; omega)))) | (with_reducible refine bt ?_ (by assumption))))⟩
                  | (exfalso; have hh : (p : Int) < (s.size : Int) := by omega
                     obtain ⟨h, h'⟩ := Hout.out hh
                     omega)
              · have hbs2 : a < s.size := by omega
                have h48 : ((s[a].toNat : Nat) : Int) = 48 := by
                  obtain ⟨h1, h2⟩ := Hget.out a (Nat.le_refl _) (by rw [Hlen.out]; omega)
                  cases l with
                  | nil => simp [lead0] at h'
                  | cons x l' =>
                    simp only [Nat.sub_self, List.getElem_cons_zero] at h2
                    simp [lead0] at h'
                    rw [← h2]; omega
                have e48 : (((s[a].toNat : Nat) : Int) == 48) = true := by rw [h48]; rfl
                clear h48 hbad hin h'
                go_wp2
                all_goals first
                  | exact ret_blk (b := w.heap.size) (c := #[.int .i64 0, .int .u64 0, .int .i64 0]) (v := .tuple #[idv 0 0 0, .int .i64 3]) (by (apply blk_to; (focus (repeat (first | (with_reducible assumption) | (with_reducible apply blk_drew) | (with_reducible apply blk_set) | ((with_reducible apply blk_other'); (first | (focus (dsimp only; assumption)) | (focus (simp; done)) | (focus (dsimp only; omega)))) | ((with_reducible apply blk_alloc_new); (first | (with_reducible rfl) | (focus (simp; done)) | (focus (simp; omega)))) | (with_reducible apply blk_alloc) | ((with_reducible apply blk_below); (with_reducible assumption))))); rfl)) (fun W' hc => by simp [results, Tryd.results32, go_sem, hc]) rfl ⟨by rw [Hr.out]; rfl, by (repeat (first | (with_reducible exact Below.refl _ _) | (with_reducible refine beld_drew ?_) | ((with_reducible refine bset' ?_ ?_); (first | (focus (dsimp only; assumption)) | (focus (simp; done)) | (focus (dsimp only; omega)))) | (with_reducible refine belt_alloc ?_) | ((with_reducible refine zeroed_below' ?_ ?_); (first | (focus (simp; done)) | (focus (dsimp only; omega)))) | (with_reducible refine bt ?_ (by assumption))))⟩
                  | (exfalso; have hh : (p : Int) < (s.size : Int) := by omega
                     obtain ⟨h, h'⟩ := Hout.out hh
                     omega)
            · have hm1 : p - a = m := by
                by_cases e : p - a = m
                · exact e
                · exact absurd ⟨by omega, by omega⟩ hin
              have hf : fieldR l = some (valD (l.take (p - a)), l.drop (p - a)) := by
                unfold fieldR
                rw [Hm.out, ← hm1, if_neg hbad]
              have hrr : r = contR n (vs ++ [valD (l.take (p - a))]) (s.data.toList.drop p) := by
                rw [Hrun.out, Hn.out, contR_some hst.out hf]
                congr 1
                rw [← Hl.out, List.drop_drop, show a + (p - a) = p by omega]
              have hn2 : n = 3 - (vs ++ [valD (l.take (p - a))]).length := by
                have := Hn.out
                simp; omega
              rw [hn2] at hrr
              have hvb := valD_bd l (q := p - a) (by rw [Hm.out]; omega) (by omega)
              have Hrr := Lib.hid hrr; have Hvb := Lib.hid hvb
              have hps : p ≤ s.size := by omega
              have Hln : Hid ((vs ++ [valD (l.take (p - a))]).length = 0 + 1) := by
                have := Hk.out
                exact Lib.hid (by rw [List.length_append, this]; rfl)
              have Hvs : Hid (∀ v ∈ vs ++ [valD (l.take (p - a))], v < 10000000000000) := Lib.hid fun v hv => by
                rcases List.mem_append.1 hv with h | h
                · exact Hbd.out v h
                · rw [List.mem_singleton.1 h]; exact Hvb.out
              rcases (show p - a = 1 ∨ (1 < p - a ∧ lead0 l = false) by
                by_cases e : p - a = 1
                · exact .inl e
                · refine .inr ⟨by omega, ?_⟩
                  cases hq : lead0 l with
                  | true => exact absurd (.inr (.inr ⟨by omega, hq⟩)) hbad
                  | false => rfl) with h | ⟨h, h'⟩
              · clear hrr hvb hn2 hf hbad hin hm1
                have h14 : p - a ≤ 13 := by omega
                have i0 : ((p : Int) == (a : Int)) = false := by simp; omega
                have i1 : ¬ (p : Int) = (a : Int) := by omega
                have i2 : ¬ (13 < (p : Int) - (a : Int)) := by omega
                have i3 : ¬ (1 < (p : Int) - (a : Int)) := by omega
                go_wp2
                all_goals first
                  | (refine ⟨⟨p, vs ++ [valD (l.take (p - a))], rfl, hps, ?_, ?_, Hrr.out, ?_, hbw2, hb02, HB.out⟩, ?_⟩; (rw [Hln.out]; rfl); (rw [Hln.out]; omega); (exact Hvs.out); (show 3 - ((0 : Int) + 1).toNat < 3 - (0 : Int).toNat; omega))
                  | (exfalso; have hh : (p : Int) < (s.size : Int) := by omega
                     obtain ⟨h, h'⟩ := Hout.out hh
                     omega)
              · have hbs2 : a < s.size := by omega
                have h48 : ((s[a].toNat : Nat) : Int) ≠ 48 := by
                  obtain ⟨h1, h2⟩ := Hget.out a (Nat.le_refl _) (by rw [Hlen.out]; omega)
                  cases l with
                  | nil => have := Hlen.out; simp at this; omega
                  | cons x l' =>
                    simp only [Nat.sub_self, List.getElem_cons_zero] at h2
                    simp [lead0] at h'
                    rw [← h2]; omega
                have e48 : (((s[a].toNat : Nat) : Int) == 48) = false := by simpa using h48
                have h14 : p - a ≤ 13 := by omega
                have i0 : ((p : Int) == (a : Int)) = false := by simp; omega
                have i1 : ¬ (p : Int) = (a : Int) := by omega
                have i2 : ¬ (13 < (p : Int) - (a : Int)) := by omega
                have i3 : 1 < (p : Int) - (a : Int) := by omega
                clear hrr hvb hn2 hf hbad hin hm1 h48 h'
                go_wp2
                all_goals first
                  | (refine ⟨⟨p, vs ++ [valD (l.take (p - a))], rfl, hps, ?_, ?_, Hrr.out, ?_, hbw2, hb02, HB.out⟩, ?_⟩; (rw [Hln.out]; rfl); (rw [Hln.out]; omega); (exact Hvs.out); (show 3 - ((0 : Int) + 1).toNat < 3 - (0 : Int).toNat; omega))
                  | (exfalso; have hh : (p : Int) < (s.size : Int) := by omega
                     obtain ⟨h, h'⟩ := Hout.out hh
                     omega)
      · have hr : r = none := by
          rw [Hrun.out, Hn.out]
          refine contR_dot hv ?_
          rcases hd with h | ⟨h, h'⟩
          · rw [List.drop_of_length_le (by simpa using h)]; rfl
          · rw [List.drop_eq_getElem_cons (by simpa using h)]
            simp only [dotR]
            exact if_neg h'
        have Hr := Lib.hid hr; clear hr hv
        rcases hd with h | ⟨h, h'⟩
        · go_wp2
          all_goals exact ret_blk (b := w.heap.size) (c := #[.int .i64 0, .int .u64 0, .int .i64 0]) (v := .tuple #[idv 0 0 0, .int .i64 3]) (by (apply blk_to; (focus (repeat (first | (with_reducible assumption) | (with_reducible apply blk_drew) | (with_reducible apply blk_set) | ((with_reducible apply blk_other'); (first | (focus (dsimp only; assumption)) | (focus (simp; done)) | (focus (dsimp only; omega)))) | ((with_reducible apply blk_alloc_new); (first | (with_reducible rfl) | (focus (simp; done)) | (focus (simp; omega)))) | (with_reducible apply blk_alloc) | ((with_reducible apply blk_below); (with_reducible assumption))))); rfl)) (fun W' hc => by simp [results, Tryd.results32, go_sem, hc]) rfl ⟨by rw [Hr.out]; rfl, by (repeat (first | (with_reducible exact Below.refl _ _) | (with_reducible refine beld_drew ?_) | ((with_reducible refine bset' ?_ ?_); (first | (focus (dsimp only; assumption)) | (focus (simp; done)) | (focus (dsimp only; omega)))) | (with_reducible refine belt_alloc ?_) | ((with_reducible refine zeroed_below' ?_ ?_); (first | (focus (simp; done)) | (focus (dsimp only; omega)))) | (with_reducible refine bt ?_ (by assumption))))⟩
        · have e1 : (((s[a].toNat : Nat) : Int) != 46) = true := by simp; omega
          clear h'
          go_wp2
          all_goals exact ret_blk (b := w.heap.size) (c := #[.int .i64 0, .int .u64 0, .int .i64 0]) (v := .tuple #[idv 0 0 0, .int .i64 3]) (by (apply blk_to; (focus (repeat (first | (with_reducible assumption) | (with_reducible apply blk_drew) | (with_reducible apply blk_set) | ((with_reducible apply blk_other'); (first | (focus (dsimp only; assumption)) | (focus (simp; done)) | (focus (dsimp only; omega)))) | ((with_reducible apply blk_alloc_new); (first | (with_reducible rfl) | (focus (simp; done)) | (focus (simp; omega)))) | (with_reducible apply blk_alloc) | ((with_reducible apply blk_below); (with_reducible assumption))))); rfl)) (fun W' hc => by simp [results, Tryd.results32, go_sem, hc]) rfl ⟨by rw [Hr.out]; rfl, by (repeat (first | (with_reducible exact Below.refl _ _) | (with_reducible refine beld_drew ?_) | ((with_reducible refine bset' ?_ ?_); (first | (focus (dsimp only; assumption)) | (focus (simp; done)) | (focus (dsimp only; omega)))) | (with_reducible refine belt_alloc ?_) | ((with_reducible refine zeroed_below' ?_ ?_); (first | (focus (simp; done)) | (focus (dsimp only; omega)))) | (with_reducible refine bt ?_ (by assumption))))⟩
      · have hst0 : (if vs = [] then some (s.data.toList.drop a) else dotR (s.data.toList.drop a)) = some (s.data.toList.drop (a + 1)) := by
          rw [if_neg hv, List.drop_eq_getElem_cons (by simpa using h1)]
          simp only [dotR]
          exact if_pos h2
        have e1 : (((s[a].toNat : Nat) : Int) != 46) = false := by simp; omega
        clear h2
        have hbs : (a + 1) ≤ s.size := by omega
        have hst := Lib.hid hst0; clear hst0
        clear hv
        obtain ⟨l, hl⟩ : ∃ l, s.data.toList.drop (a + 1) = l := ⟨_, rfl⟩
        have hlen : l.length = s.size - (a + 1) := by rw [← hl]; simp
        have hget : ∀ p (h1 : (a + 1) ≤ p) (h : p - (a + 1) < l.length), ∃ h' : p < s.size, l[p - (a + 1)] = s[p] := fun p h1 h => ⟨by omega, by subst hl; simp [show (a + 1) + (p - (a + 1)) = p by omega]; rfl⟩
        replace hst := Lib.hid (hst.out.trans (congrArg some hl))
        have Hget := Lib.hid hget; have Hlen := Lib.hid hlen; have Hl := Lib.hid hl
        clear hget hl
        have hdl := digs_le l
        obtain ⟨m, hm⟩ : ∃ m, digs l = m := ⟨_, rfl⟩
        rw [hm] at hdl
        have Hm := Lib.hid hm; clear hm
        have hvl : vs.length < 3 := by rw [Hk.out]; omega
        have hml : m ≤ s.size - (a + 1) := by omega
        clear hlen hdl
        go_wp2
        go_loopw [5] (fun at_ wr => ∃ p : Nat, at_ = .int .i64 p ∧ (a + 1) ≤ p ∧ p - (a + 1) ≤ m ∧ p - (a + 1) ≤ 14 ∧ Below w.heap.size w wr ∧ blk wr w.heap.size = some #[.int .i64 0, .int .u64 0, .int .i64 0] ∧ blk wr (w.heap.size + 1) = some (natC .u64 (partsL (vs ++ [valD (l.take (p - (a + 1)))])))) (fun at_ _ => s.size - (intOf at_).toNat)
        case atStart =>
          refine ⟨(a + 1), by go_num, by omega, by omega, by omega, hbw, hb0, ?_⟩
          have e : partsL (vs ++ [valD (l.take ((a + 1) - (a + 1)))]) = partsL vs := by
            rw [Nat.sub_self, List.take_zero, ← partsL_set vs _ hvl, show valD [] = 0 from rfl]
            apply List.ext_getElem (by simp)
            intro i h1 h2
            rw [List.getElem_set]
            split
            · rename_i e; subst e
              have := partsL_at vs hvl
              rw [List.getD_eq_getElem?_getD, List.getElem?_eq_getElem h2] at this
              simpa using this.symm
            · rfl
          rw [e]; exact Hb1.out
        case round =>
          obtain ⟨p, rfl, hp1, hp2, hp3, hbw2, hb02, hb12⟩ := hrel
          clear kn0
          have kn0 := kn hb02
          by_cases hin : p - (a + 1) < m ∧ p - (a + 1) ≤ 13
          · obtain ⟨hin1, hin2⟩ := hin
            obtain ⟨hd1, hd2⟩ := digs_at l (i := p - (a + 1)) (by rw [Hm.out]; exact hin1)
            obtain ⟨hps, hd3⟩ := Hget.out p hp1 hd1
            rw [hd3] at hd2
            unfold isD at hd2
            simp only [Bool.and_eq_true, decide_eq_true_eq] at hd2
            obtain ⟨c1, c2⟩ := hd2
            have hvb := valD_bd l (q := p - (a + 1)) (by rw [Hm.out]; omega) hin2
            have hvs := valD_take l (q := p - (a + 1)) (by rw [Hm.out]; exact hin1) hd1
            rw [hd3] at hvs
            have x1 := natC_at hb12 vs.length (by rw [partsL_len _ (by simp; omega)]; omega)
            rw [partsL_at' vs _ hvl] at x1
            have f1 := (kn hb12).2.1 vs.length
            rw [Hk.out] at x1 f1
            obtain ⟨v, hv⟩ : ∃ v, valD (l.take (p - (a + 1))) = v := ⟨_, rfl⟩
            rw [hv] at x1 hvb hvs
            have HV := Lib.hid hv; have HVS := Lib.hid hvs; have HB := Lib.hid hb12
            clear hv hvs hb12 hd3 hd1
            have c3 : 48 ≤ ((s[p].toNat : Nat) : Int) := by omega
            have c4 : ((s[p].toNat : Nat) : Int) ≤ 57 := by omega
            have q1 : IntKind.u64.wrap (10 * (v : Int)) = 10 * (v : Int) := IntWalk.u64_in _ (by omega)
            have q2 : IntKind.u8.wrap (((s[p].toNat : Nat) : Int) - 48) = ((s[p].toNat : Nat) : Int) - 48 := IntWalk.u8_in _ (by omega)
            have q3 : IntKind.u64.wrap (((s[p].toNat : Nat) : Int) - 48) = ((s[p].toNat : Nat) : Int) - 48 := IntWalk.u64_in _ (by omega)
            have q4 : IntKind.u64.wrap (10 * (v : Int) + (((s[p].toNat : Nat) : Int) - 48)) = 10 * (v : Int) + (((s[p].toNat : Nat) : Int) - 48) := IntWalk.u64_in _ (by omega)
            go_wp2
            go_region
            go_wp2
            go_roundw
            case rel =>
              refine ⟨p + 1, by go_num, by omega, by omega, by omega, by (repeat (first | (with_reducible exact Below.refl _ _) | (with_reducible refine beld_drew ?_) | ((with_reducible refine bset' ?_ ?_); (first | (focus (dsimp only; assumption)) | (focus (simp; done)) | (focus (dsimp only; omega)))) | (with_reducible refine belt_alloc ?_) | ((with_reducible refine zeroed_below' ?_ ?_); (first | (focus (simp; done)) | (focus (dsimp only; omega)))) | (with_reducible refine bt ?_ (by assumption)))), by (apply blk_to; (focus (repeat (first | (with_reducible assumption) | (with_reducible apply blk_drew) | (with_reducible apply blk_set) | ((with_reducible apply blk_other'); (first | (focus (dsimp only; assumption)) | (focus (simp; done)) | (focus (dsimp only; omega)))) | ((with_reducible apply blk_alloc_new); (first | (with_reducible rfl) | (focus (simp; done)) | (focus (simp; omega)))) | (with_reducible apply blk_alloc) | ((with_reducible apply blk_below); (with_reducible assumption))))); rfl), ?_⟩
              rw [show p + 1 - (a + 1) = p - (a + 1) + 1 by omega, HVS.out, ← partsL_again vs (valD (l.take (p - (a + 1)))) _ hvl, ← natC_set, show ((10 * v + (s[p].toNat - 48) : Nat) : Int) = 10 * (v : Int) + ((s[p].toNat : Nat) - 48) by omega, Hk.out]
              have HB2 := HB.out
              clear HB
              (apply blk_to; (focus (repeat (first | (with_reducible assumption) | (with_reducible apply blk_drew) | (with_reducible apply blk_set) | ((with_reducible apply blk_other'); (first | (focus (dsimp only; assumption)) | (focus (simp; done)) | (focus (dsimp only; omega)))) | ((with_reducible apply blk_alloc_new); (first | (with_reducible rfl) | (focus (simp; done)) | (focus (simp; omega)))) | (with_reducible apply blk_alloc) | ((with_reducible apply blk_below); (with_reducible assumption))))); rfl)
            case measure => simp [intOf]; omega
          · have hout : ((p : Int) < (s.size : Int)) → ∃ h : p < s.size, (s[p].toNat < 48 ∨ 57 < s[p].toNat) ∨ 13 < p - (a + 1) := fun h => by
              have hps : p < s.size := by omega
              refine ⟨hps, ?_⟩
              by_cases h14 : 13 < p - (a + 1)
              · exact .inr h14
              · have e : p - (a + 1) = m := by omega
                have hl2 : digs l < l.length := by rw [Hm.out, Hlen.out]; omega
                have h1 := digs_end l hl2
                have e2 : digs l = p - (a + 1) := by rw [Hm.out]; omega
                simp only [e2] at h1 hl2
                obtain ⟨h2, h3⟩ := Hget.out p hp1 hl2
                rw [h3] at h1
                unfold isD at h1
                simp only [Bool.and_eq_false_iff, decide_eq_false_iff_not] at h1
                exact .inl (by omega)
            have Hout := Lib.hid hout; clear hout
            have HB := Lib.hid hb12; clear hb12
            -- the tests behind the loop
            by_cases hbad : p - (a + 1) = 0 ∨ 13 < p - (a + 1) ∨ (1 < p - (a + 1) ∧ lead0 l = true)
            · have hr : r = none := by
                rw [Hrun.out, Hn.out]
                refine contR_none hst.out ?_
                unfold fieldR
                rw [Hm.out, if_pos]
                have hmm : p - (a + 1) = m ∨ 13 < p - (a + 1) := by
                  by_cases e : 13 < p - (a + 1)
                  · exact .inr e
                  · by_cases e2 : p - (a + 1) = m
                    · exact .inl e2
                    · exact absurd ⟨by omega, by omega⟩ hin
                rcases hbad with h | h | ⟨h, h'⟩
                · rcases hmm with e | e <;> omega
                · exact .inr (.inl (by omega))
                · by_cases e : 13 < m
                  · exact .inr (.inl e)
                  · exact .inr (.inr ⟨by omega, h'⟩)
              have Hr := Lib.hid hr; clear hr
              rcases (show p - (a + 1) = 0 ∨ 13 < p - (a + 1) ∨ (1 < p - (a + 1) ∧ p - (a + 1) ≤ 13 ∧ lead0 l = true) by rcases hbad with h | h | ⟨h, h'⟩; exact .inl h; exact .inr (.inl h); by_cases e : 13 < p - (a + 1); exact .inr (.inl e); exact .inr (.inr ⟨h, by omega, h'⟩)) with h | h | ⟨h, h3, h'⟩
              · clear hbad hin
                go_wp2
                all_goals first
                  | exact ret_blk (b := w.heap.size) (c := #[.int .i64 0, .int .u64 0, .int .i64 0]) (v := .tuple #[idv 0 0 0, .int .i64 3]) (by (apply blk_to; (focus (repeat (first | (with_reducible assumption) | (with_reducible apply blk_drew) | (with_reducible apply blk_set) | ((with_reducible apply blk_other'); (first | (focus (dsimp only; assumption)) | (focus (simp; done)) | (focus (dsimp only; omega)))) | ((with_reducible apply blk_alloc_new); (first | (with_reducible rfl) | (focus (simp; done)) | (focus (simp; omega)))) | (with_reducible apply blk_alloc) | ((with_reducible apply blk_below); (with_reducible assumption))))); rfl)) (fun W' hc => by simp [results, Tryd.results32, go_sem, hc]) rfl ⟨by rw [Hr.out]; rfl, by (repeat (first | (with_reducible exact Below.refl _ _) | (with_reducible refine beld_drew ?_) | ((with_reducible refine bset' ?_ ?_); (first | (focus (dsimp only; assumption)) | (focus (simp; done)) | (focus (dsimp only; omega)))) | (with_reducible refine belt_alloc ?_) | ((with_reducible refine zeroed_below' ?_ ?_); (first | (focus (simp; done)) | (focus (dsimp only; omega)))) | (with_reducible refine bt ?_ (by assumption))))⟩
                  | (exfalso; have hh : (p : Int) < (s.size : Int) := by omega
                     obtain ⟨h, h'⟩ := Hout.out hh
                     omega)
              · clear hbad hin
                go_wp2
                all_goals first
                  | exact ret_blk (b := w.heap.size) (c := #[.int .i64 0, .int .u64 0, .int .i64 0]) (v := .tuple #[idv 0 0 0, .int .i64 3]) (by (apply blk_to; (focus (repeat (first | (with_reducible assumption) | (with_reducible apply blk_drew) | (with_reducible apply blk_set) | ((with_reducible apply blk_other'); (first | (focus (dsimp only; assumption)) | (focus (simp; done)) | (focus (dsimp only; omega)))) | ((with_reducible apply blk_alloc_new); (first | (with_reducible rfl) | (focus (simp; done)) | (focus (simp; omega)))) | (with_reducible apply blk_alloc) | ((with_reducible apply blk_below); (with_reducible assumption))))); rfl)) (fun W' hc => by simp [results, Tryd.results32, go_sem, hc]) rfl ⟨by rw [Hr.out]; rfl, by (repeat (first | (with_reducible exact Below.refl _ _) | (with_reducible refine beld_drew ?_) | ((with_reducible refine bset' ?_ ?_); (first | (focus (dsimp only; assumption)) | (focus (simp; done)) | (focus (dsimp only; omega)))) | (with_reducible refine belt_alloc ?_) | ((with_reducible refine zeroed_below' ?_ ?_); (first | (focus (simp; done)) | (focus (dsimp only; omega)))) | (with_reducible refine bt ?_ (by assumption))))⟩
                  | (exfalso; have hh : (p : Int) < (s.size : Int) := by omega
                     obtain ⟨h, h'⟩ := Hout.out hh
                     omega)
              · have hbs2 : (a + 1) < s.size := by omega
                have h48 : ((s[(a + 1)].toNat : Nat) : Int) = 48 := by
                  obtain ⟨h1, h2⟩ := Hget.out (a + 1) (Nat.le_refl _) (by rw [Hlen.out]; omega)
                  cases l with
                  | nil => simp [lead0] at h'
                  | cons x l' =>
                    simp only [Nat.sub_self, List.getElem_cons_zero] at h2
                    simp [lead0] at h'
                    rw [← h2]; omega
                have e48 : (((s[(a + 1)].toNat : Nat) : Int) == 48) = true := by rw [h48]; rfl
                clear h48 hbad hin h'
                go_wp2
                all_goals first
                  | exact ret_blk (b := w.heap.size) (c := #[.int .i64 0, .int .u64 0, .int .i64 0]) (v := .tuple #[idv 0 0 0, .int .i64 3]) (by (apply blk_to; (focus (repeat (first | (with_reducible assumption) | (with_reducible apply blk_drew) | (with_reducible apply blk_set) | ((with_reducible apply blk_other'); (first | (focus (dsimp only; assumption)) | (focus (simp; done)) | (focus (dsimp only; omega)))) | ((with_reducible apply blk_alloc_new); (first | (with_reducible rfl) | (focus (simp; done)) | (focus (simp; omega)))) | (with_reducible apply blk_alloc) | ((with_reducible apply blk_below); (with_reducible assumption))))); rfl)) (fun W' hc => by simp [results, Tryd.results32, go_sem, hc]) rfl ⟨by rw [Hr.out]; rfl, by (repeat (first | (with_reducible exact Below.refl _ _) | (with_reducible refine beld_drew ?_) | ((with_reducible refine bset' ?_ ?_); (first | (focus (dsimp only; assumption)) | (focus (simp; done)) | (focus (dsimp only; omega)))) | (with_reducible refine belt_alloc ?_) | ((with_reducible refine zeroed_below' ?_ ?_); (first | (focus (simp; done)) | (focus (dsimp only; omega)))) | (with_reducible refine bt ?_ (by assumption))))⟩
                  | (exfalso; have hh : (p : Int) < (s.size : Int) := by omega
                     obtain ⟨h, h'⟩ := Hout.out hh
                     omega)
            · have hm1 : p - (a + 1) = m := by
                by_cases e : p - (a + 1) = m
                · exact e
                · exact absurd ⟨by omega, by omega⟩ hin
              have hf : fieldR l = some (valD (l.take (p - (a + 1))), l.drop (p - (a + 1))) := by
                unfold fieldR
                rw [Hm.out, ← hm1, if_neg hbad]
              have hrr : r = contR n (vs ++ [valD (l.take (p - (a + 1)))]) (s.data.toList.drop p) := by
                rw [Hrun.out, Hn.out, contR_some hst.out hf]
                congr 1
                rw [← Hl.out, List.drop_drop, show (a + 1) + (p - (a + 1)) = p by omega]
              have hn2 : n = 3 - (vs ++ [valD (l.take (p - (a + 1)))]).length := by
                have := Hn.out
                simp; omega
              rw [hn2] at hrr
              have hvb := valD_bd l (q := p - (a + 1)) (by rw [Hm.out]; omega) (by omega)
              have Hrr := Lib.hid hrr; have Hvb := Lib.hid hvb
              have hps : p ≤ s.size := by omega
              have Hln : Hid ((vs ++ [valD (l.take (p - (a + 1)))]).length = k + 1) := by
                have := Hk.out
                exact Lib.hid (by rw [List.length_append, this]; rfl)
              have Hvs : Hid (∀ v ∈ vs ++ [valD (l.take (p - (a + 1)))], v < 10000000000000) := Lib.hid fun v hv => by
                rcases List.mem_append.1 hv with h | h
                · exact Hbd.out v h
                · rw [List.mem_singleton.1 h]; exact Hvb.out
              rcases (show p - (a + 1) = 1 ∨ (1 < p - (a + 1) ∧ lead0 l = false) by
                by_cases e : p - (a + 1) = 1
                · exact .inl e
                · refine .inr ⟨by omega, ?_⟩
                  cases hq : lead0 l with
                  | true => exact absurd (.inr (.inr ⟨by omega, hq⟩)) hbad
                  | false => rfl) with h | ⟨h, h'⟩
              · clear hrr hvb hn2 hf hbad hin hm1
                have h14 : p - (a + 1) ≤ 13 := by omega
                have i0 : ((p : Int) == ((a : Int) + 1)) = false := by simp; omega
                have i1 : ¬ (p : Int) = ((a : Int) + 1) := by omega
                have i2 : ¬ (13 < (p : Int) - ((a : Int) + 1)) := by omega
                have i3 : ¬ (1 < (p : Int) - ((a : Int) + 1)) := by omega
                go_wp2
                all_goals first
                  | (refine ⟨⟨p, vs ++ [valD (l.take (p - (a + 1)))], rfl, hps, ?_, ?_, Hrr.out, ?_, hbw2, hb02, HB.out⟩, ?_⟩; (rw [Hln.out]; rfl); (rw [Hln.out]; omega); (exact Hvs.out); (show 3 - ((k : Int) + 1).toNat < 3 - (k : Int).toNat; omega))
                  | (exfalso; have hh : (p : Int) < (s.size : Int) := by omega
                     obtain ⟨h, h'⟩ := Hout.out hh
                     omega)
              · have hbs2 : (a + 1) < s.size := by omega
                have h48 : ((s[(a + 1)].toNat : Nat) : Int) ≠ 48 := by
                  obtain ⟨h1, h2⟩ := Hget.out (a + 1) (Nat.le_refl _) (by rw [Hlen.out]; omega)
                  cases l with
                  | nil => have := Hlen.out; simp at this; omega
                  | cons x l' =>
                    simp only [Nat.sub_self, List.getElem_cons_zero] at h2
                    simp [lead0] at h'
                    rw [← h2]; omega
                have e48 : (((s[(a + 1)].toNat : Nat) : Int) == 48) = false := by simpa using h48
                have h14 : p - (a + 1) ≤ 13 := by omega
                have i0 : ((p : Int) == ((a : Int) + 1)) = false := by simp; omega
                have i1 : ¬ (p : Int) = ((a : Int) + 1) := by omega
                have i2 : ¬ (13 < (p : Int) - ((a : Int) + 1)) := by omega
                have i3 : 1 < (p : Int) - ((a : Int) + 1) := by omega
                clear hrr hvb hn2 hf hbad hin hm1 h48 h'
                go_wp2
                all_goals first
                  | (refine ⟨⟨p, vs ++ [valD (l.take (p - (a + 1)))], rfl, hps, ?_, ?_, Hrr.out, ?_, hbw2, hb02, HB.out⟩, ?_⟩; (rw [Hln.out]; rfl); (rw [Hln.out]; omega); (exact Hvs.out); (show 3 - ((k : Int) + 1).toNat < 3 - (k : Int).toNat; omega))
                  | (exfalso; have hh : (p : Int) < (s.size : Int) := by omega
                     obtain ⟨h, h'⟩ := Hout.out hh
                     omega)
    · obtain rfl : k = 3 := by omega
      obtain ⟨p0, p1, p2, rfl⟩ : ∃ p0 p1 p2, vs = [p0, p1, p2] := by
        match vs, hkk with
        | [p0, p1, p2], _ => exact ⟨p0, p1, p2, rfl⟩
      replace hb1 : blk wr (w.heap.size + 1) = some (natC .u64 [p0, p1, p2]) := hb1
      have hr0 : r = if s.data.toList.drop a = [] then some (p0, p1, p2) else none := by rw [Hrun.out]; rfl
      have b0 := Hbd.out p0 (by simp)
      have b1 := Hbd.out p1 (by simp)
      have b2 := Hbd.out p2 (by simp)
      clear Hb1 Hk hkk
      by_cases hae : a < s.size
      · have hr : r = none := by
          rw [hr0, if_neg]
          intro h
          have := congrArg List.length h
          simp at this; omega
        have Hr := Lib.hid hr; clear hr hr0 b0 b1 b2 hb1
        have e1 : ((a : Int) != (s.size : Int)) = true := by simp; omega
        go_wp2
        all_goals exact ret_blk (b := w.heap.size) (c := #[.int .i64 0, .int .u64 0, .int .i64 0]) (v := .tuple #[idv 0 0 0, .int .i64 3]) (by (apply blk_to; (focus (repeat (first | (with_reducible assumption) | (with_reducible apply blk_drew) | (with_reducible apply blk_set) | ((with_reducible apply blk_other'); (first | (focus (dsimp only; assumption)) | (focus (simp; done)) | (focus (dsimp only; omega)))) | ((with_reducible apply blk_alloc_new); (first | (with_reducible rfl) | (focus (simp; done)) | (focus (simp; omega)))) | (with_reducible apply blk_alloc) | ((with_reducible apply blk_below); (with_reducible assumption))))); rfl)) (fun W' hc => by simp [results, Tryd.results32, go_sem, hc]) rfl ⟨by rw [Hr.out]; rfl, by (repeat (first | (with_reducible exact Below.refl _ _) | (with_reducible refine beld_drew ?_) | ((with_reducible refine bset' ?_ ?_); (first | (focus (dsimp only; assumption)) | (focus (simp; done)) | (focus (dsimp only; omega)))) | (with_reducible refine belt_alloc ?_) | ((with_reducible refine zeroed_below' ?_ ?_); (first | (focus (simp; done)) | (focus (dsimp only; omega)))) | (with_reducible refine bt ?_ (by assumption))))⟩
      · obtain rfl : a = s.size := by omega
        have hr : r = some (p0, p1, p2) := by rw [hr0, if_pos]; simp
        have Hr := Lib.hid hr; clear hr hr0
        have y0 := natC_at hb1 0 (by simp)
        have y1 := natC_at hb1 1 (by simp)
        have y2 := natC_at hb1 2 (by simp)
        simp only [List.getD_cons_zero, List.getD_cons_succ] at y0 y1 y2
        have HB1 := Lib.hid hb1; clear hb1
        have hc := fun w => refCheckID_any p0 p1 p2 w
        have n0 : (p0 : Int) < 10000000000000 := by omega
        have n1 : (p1 : Int) < 10000000000000 := by omega
        have n2 : (p2 : Int) < 10000000000000 := by omega
        rcases idC_cases p0 p1 p2 with ⟨h0, _⟩ | ⟨h0, _⟩ <;> rw [h0] at hc <;> replace hc := Lib.hid hc <;> have H0 := Lib.hid h0 <;> clear h0
        · go_wp2_with (go_at_call 18; (with_reducible refine (hc.out _).mono ?_); rintro e wc ⟨rfl, hcb⟩; have kk1 : blk wc (w.heap.size) = some #[.int .i64 0, .int .u64 0, .int .i64 0] := (by (apply blk_to; (focus (repeat (first | (with_reducible assumption) | (with_reducible apply blk_drew) | (with_reducible apply blk_set) | ((with_reducible apply blk_other'); (first | (focus (dsimp only; assumption)) | (focus (simp; done)) | (focus (dsimp only; omega)))) | ((with_reducible apply blk_alloc_new); (first | (with_reducible rfl) | (focus (simp; done)) | (focus (simp; omega)))) | (with_reducible apply blk_alloc) | ((with_reducible apply blk_below); (with_reducible assumption))))); rfl)); have kn1 := kn kk1; have kk2 : blk wc (wr.heap.size) = some #[.int .i64 (p0 : Int), .int .u64 (p1 : Int), .int .i64 (p2 : Int)] := (by (apply blk_to; (focus (repeat (first | (with_reducible assumption) | (with_reducible apply blk_drew) | (with_reducible apply blk_set) | ((with_reducible apply blk_other'); (first | (focus (dsimp only; assumption)) | (focus (simp; done)) | (focus (dsimp only; omega)))) | ((with_reducible apply blk_alloc_new); (first | (with_reducible rfl) | (focus (simp; done)) | (focus (simp; omega)))) | (with_reducible apply blk_alloc) | ((with_reducible apply blk_below); (with_reducible assumption))))); rfl)); have kn2 := kn kk2)
          all_goals try rw [Exit.noGoto_ret]
          all_goals exact ret_blk (b := w.heap.size) (c := #[.int .i64 (p0 : Int), .int .u64 (p1 : Int), .int .i64 (p2 : Int)]) (v := .tuple #[idv p0 p1 p2, .int .i64 0]) (by (apply blk_to; (focus (repeat (first | (with_reducible assumption) | (with_reducible apply blk_drew) | (with_reducible apply blk_set) | ((with_reducible apply blk_other'); (first | (focus (dsimp only; assumption)) | (focus (simp; done)) | (focus (dsimp only; omega)))) | ((with_reducible apply blk_alloc_new); (first | (with_reducible rfl) | (focus (simp; done)) | (focus (simp; omega)))) | (with_reducible apply blk_alloc) | ((with_reducible apply blk_below); (with_reducible assumption))))); rfl)) (fun W' hc => by simp [results, Tryd.results32, go_sem, hc]) rfl ⟨by rw [Hr.out]; simp [gotK, H0.out], by (repeat (first | (with_reducible assumption) | (with_reducible exact Below.refl _ _) | (with_reducible refine beld_drew ?_) | ((with_reducible refine bset' ?_ ?_); (first | (focus (dsimp only; assumption)) | (focus (simp; done)) | (focus (dsimp only; omega)))) | (with_reducible refine belt_alloc ?_) | ((with_reducible refine zeroed_below' ?_ ?_); (first | (focus (simp; done)) | (focus (dsimp only; omega)))) | (with_reducible refine bt ?_ (by assumption))))⟩
        · go_wp2_with (go_at_call 18; (with_reducible refine (hc.out _).mono ?_); rintro e wc ⟨rfl, hcb⟩; have kk3 : blk wc (w.heap.size) = some #[.int .i64 0, .int .u64 0, .int .i64 0] := (by (apply blk_to; (focus (repeat (first | (with_reducible assumption) | (with_reducible apply blk_drew) | (with_reducible apply blk_set) | ((with_reducible apply blk_other'); (first | (focus (dsimp only; assumption)) | (focus (simp; done)) | (focus (dsimp only; omega)))) | ((with_reducible apply blk_alloc_new); (first | (with_reducible rfl) | (focus (simp; done)) | (focus (simp; omega)))) | (with_reducible apply blk_alloc) | ((with_reducible apply blk_below); (with_reducible assumption))))); rfl)); have kn3 := kn kk3; have kk4 : blk wc (wr.heap.size) = some #[.int .i64 (p0 : Int), .int .u64 (p1 : Int), .int .i64 (p2 : Int)] := (by (apply blk_to; (focus (repeat (first | (with_reducible assumption) | (with_reducible apply blk_drew) | (with_reducible apply blk_set) | ((with_reducible apply blk_other'); (first | (focus (dsimp only; assumption)) | (focus (simp; done)) | (focus (dsimp only; omega)))) | ((with_reducible apply blk_alloc_new); (first | (with_reducible rfl) | (focus (simp; done)) | (focus (simp; omega)))) | (with_reducible apply blk_alloc) | ((with_reducible apply blk_below); (with_reducible assumption))))); rfl)); have kn4 := kn kk4)
          all_goals try rw [Exit.noGoto_ret]
          all_goals exact ret_blk (b := w.heap.size) (c := #[.int .i64 0, .int .u64 0, .int .i64 0]) (v := .tuple #[idv 0 0 0, .int .i64 2]) (by (apply blk_to; (focus (repeat (first | (with_reducible assumption) | (with_reducible apply blk_drew) | (with_reducible apply blk_set) | ((with_reducible apply blk_other'); (first | (focus (dsimp only; assumption)) | (focus (simp; done)) | (focus (dsimp only; omega)))) | ((with_reducible apply blk_alloc_new); (first | (with_reducible rfl) | (focus (simp; done)) | (focus (simp; omega)))) | (with_reducible apply blk_alloc) | ((with_reducible apply blk_below); (with_reducible assumption))))); rfl)) (fun W' hc => by simp [results, Tryd.results32, go_sem, hc]) rfl ⟨by rw [Hr.out]; simp [gotK, H0.out], by (repeat (first | (with_reducible assumption) | (with_reducible exact Below.refl _ _) | (with_reducible refine beld_drew ?_) | ((with_reducible refine bset' ?_ ?_); (first | (focus (dsimp only; assumption)) | (focus (simp; done)) | (focus (dsimp only; omega)))) | (with_reducible refine belt_alloc ?_) | ((with_reducible refine zeroed_below' ?_ ?_); (first | (focus (simp; done)) | (focus (dsimp only; omega)))) | (with_reducible refine bt ?_ (by assumption))))⟩
end Go.Proofs.YtdbmiijnedkipaaDoor
