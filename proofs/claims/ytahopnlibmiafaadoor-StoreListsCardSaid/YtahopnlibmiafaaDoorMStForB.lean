/- Parts of a proof, printed by a program of mine out of my texts: StForB. -/
import Derived.Test.YtahopnlibmiafaaDoorMCh
import Derived.Test.YtahopnlibmiafaaDoorMRc
import Derived.Test.YtahopnlibmiafaaDoorMU
set_option linter.unusedSimpArgs false
set_option linter.unusedVariables false
namespace Go.Proofs.YtahopnlibmiafaaDoor
open Go.RowKit
set_option maxRecDepth 100000 in
set_option maxHeartbeats 3200000 in
theorem for_any40 (a : Option Addr) (cap : Nat) (l : List Itm) (prio now : Int) (hd : ∀ x ∈ l, x.b.da.size ≤ maxLen) (h20 : StV l → l.length ≤ 40) (w : World) (hrow : SRow itm 13 w a cap l) :
    Calls Tryd.prog 24 #[.slice a l.length cap, .int .i64 prio, .int .i64 now] w fun e w' => RetN (forS l prio now) w e w' := by
  have g1 : ∀ W, Below w.heap.size w W → Calls Tryd.prog 59 #[.slice a l.length cap, .int .i64 now] W fun e w' => e = .returned (.int .i64 (askS l now)) ∧ Below W.heap.size W w' := fun W hB => asked_any a cap l now hd W (hrow.below hB)
  unfold forS
  by_cases hf : askS l now = 0
  · rw [if_neg (fun h => h hf)]
    have hv := askS_ok hf
    replace h20 := h20 hv
    rw [hf] at g1
    replace g1 := Lib.hid g1
    have q0 : ((0 : Int) != 0) = false := rfl
    by_cases h1 : prio < 0 ∨ 2 < prio
    · rw [if_pos h1]
      rcases h1 with h1 | h1
      · have t1 : decide (prio < 0) = true := decide_eq_true h1
        clear hf hv hd h20 hrow h1
        go_enter Tryd.func24, Tryd.ntmps24
        go_wp2_with (go_at_call 59; (with_reducible refine (g1.out _ (by (repeat (first | (with_reducible assumption) | (with_reducible exact Below.refl _ _) | (with_reducible refine beld_drew ?_) | ((with_reducible refine bset' ?_ ?_); (first | (focus (dsimp only; assumption)) | (focus (simp; done)) | (focus (dsimp only; omega)))) | (with_reducible refine belt_alloc ?_) | ((with_reducible refine zeroed_below' ?_ ?_); (first | (focus (simp; done)) | (focus (dsimp only; omega)))) | (with_reducible refine bt ?_ (by assumption)))))).mono ?_); rintro e w2 ⟨rfl, h2⟩; (have k0 : blk w2 w.heap.size = some #[.slice a l.length cap] := (by (apply blk_to; (focus (repeat (first | (with_reducible assumption) | (with_reducible apply blk_drew) | (with_reducible apply blk_set) | ((with_reducible apply blk_other'); (first | (focus (dsimp only; assumption)) | (focus (simp; done)) | (focus (dsimp only; omega)))) | ((with_reducible apply blk_alloc_new); (first | (with_reducible rfl) | (focus (simp; done)) | (focus (simp; omega)))) | (with_reducible apply blk_alloc) | ((with_reducible apply blk_below); (with_reducible assumption))))); rfl))); (have k1 : blk w2 (w.heap.size + 1) = some #[.int .i64 prio] := (by (apply blk_to; (focus (repeat (first | (with_reducible assumption) | (with_reducible apply blk_drew) | (with_reducible apply blk_set) | ((with_reducible apply blk_other'); (first | (focus (dsimp only; assumption)) | (focus (simp; done)) | (focus (dsimp only; omega)))) | ((with_reducible apply blk_alloc_new); (first | (with_reducible rfl) | (focus (simp; done)) | (focus (simp; omega)))) | (with_reducible apply blk_alloc) | ((with_reducible apply blk_below); (with_reducible assumption))))); rfl))); (have k2 : blk w2 (w.heap.size + 2) = some #[.int .i64 now] := (by (apply blk_to; (focus (repeat (first | (with_reducible assumption) | (with_reducible apply blk_drew) | (with_reducible apply blk_set) | ((with_reducible apply blk_other'); (first | (focus (dsimp only; assumption)) | (focus (simp; done)) | (focus (dsimp only; omega)))) | ((with_reducible apply blk_alloc_new); (first | (with_reducible rfl) | (focus (simp; done)) | (focus (simp; omega)))) | (with_reducible apply blk_alloc) | ((with_reducible apply blk_below); (with_reducible assumption))))); rfl))); (have b2 : Below w.heap.size w w2 := (by (repeat (first | (with_reducible assumption) | (with_reducible exact Below.refl _ _) | (with_reducible refine beld_drew ?_) | ((with_reducible refine bset' ?_ ?_); (first | (focus (dsimp only; assumption)) | (focus (simp; done)) | (focus (dsimp only; omega)))) | (with_reducible refine belt_alloc ?_) | ((with_reducible refine zeroed_below' ?_ ?_); (first | (focus (simp; done)) | (focus (dsimp only; omega)))) | (with_reducible refine bt ?_ (by assumption)))))); (have n0 := kn k0); (have n1 := kn k1); (have n2 := kn k2); clear h2)
        go_ret2
        exact RetN.err _ b2
      · have t1 : decide (prio < 0) = false := decide_eq_false (by omega)
        have t2 : decide (2 < prio) = true := decide_eq_true h1
        clear hf hv hd h20 hrow h1
        go_enter Tryd.func24, Tryd.ntmps24
        go_wp2_with (go_at_call 59; (with_reducible refine (g1.out _ (by (repeat (first | (with_reducible assumption) | (with_reducible exact Below.refl _ _) | (with_reducible refine beld_drew ?_) | ((with_reducible refine bset' ?_ ?_); (first | (focus (dsimp only; assumption)) | (focus (simp; done)) | (focus (dsimp only; omega)))) | (with_reducible refine belt_alloc ?_) | ((with_reducible refine zeroed_below' ?_ ?_); (first | (focus (simp; done)) | (focus (dsimp only; omega)))) | (with_reducible refine bt ?_ (by assumption)))))).mono ?_); rintro e w2 ⟨rfl, h2⟩; (have k0 : blk w2 w.heap.size = some #[.slice a l.length cap] := (by (apply blk_to; (focus (repeat (first | (with_reducible assumption) | (with_reducible apply blk_drew) | (with_reducible apply blk_set) | ((with_reducible apply blk_other'); (first | (focus (dsimp only; assumption)) | (focus (simp; done)) | (focus (dsimp only; omega)))) | ((with_reducible apply blk_alloc_new); (first | (with_reducible rfl) | (focus (simp; done)) | (focus (simp; omega)))) | (with_reducible apply blk_alloc) | ((with_reducible apply blk_below); (with_reducible assumption))))); rfl))); (have k1 : blk w2 (w.heap.size + 1) = some #[.int .i64 prio] := (by (apply blk_to; (focus (repeat (first | (with_reducible assumption) | (with_reducible apply blk_drew) | (with_reducible apply blk_set) | ((with_reducible apply blk_other'); (first | (focus (dsimp only; assumption)) | (focus (simp; done)) | (focus (dsimp only; omega)))) | ((with_reducible apply blk_alloc_new); (first | (with_reducible rfl) | (focus (simp; done)) | (focus (simp; omega)))) | (with_reducible apply blk_alloc) | ((with_reducible apply blk_below); (with_reducible assumption))))); rfl))); (have k2 : blk w2 (w.heap.size + 2) = some #[.int .i64 now] := (by (apply blk_to; (focus (repeat (first | (with_reducible assumption) | (with_reducible apply blk_drew) | (with_reducible apply blk_set) | ((with_reducible apply blk_other'); (first | (focus (dsimp only; assumption)) | (focus (simp; done)) | (focus (dsimp only; omega)))) | ((with_reducible apply blk_alloc_new); (first | (with_reducible rfl) | (focus (simp; done)) | (focus (simp; omega)))) | (with_reducible apply blk_alloc) | ((with_reducible apply blk_below); (with_reducible assumption))))); rfl))); (have b2 : Below w.heap.size w w2 := (by (repeat (first | (with_reducible assumption) | (with_reducible exact Below.refl _ _) | (with_reducible refine beld_drew ?_) | ((with_reducible refine bset' ?_ ?_); (first | (focus (dsimp only; assumption)) | (focus (simp; done)) | (focus (dsimp only; omega)))) | (with_reducible refine belt_alloc ?_) | ((with_reducible refine zeroed_below' ?_ ?_); (first | (focus (simp; done)) | (focus (dsimp only; omega)))) | (with_reducible refine bt ?_ (by assumption)))))); (have n0 := kn k0); (have n1 := kn k1); (have n2 := kn k2); clear h2)
        go_ret2
        exact RetN.err _ b2
    · rw [if_neg h1]
      have t1 : decide (prio < 0) = false := decide_eq_false (by omega)
      have t2 : decide (2 < prio) = false := decide_eq_false (by omega)
      obtain ⟨L, hL⟩ : ∃ L, L = chL (wantF prio now) (fun i _ => (i : Int)) l l.length := ⟨_, rfl⟩
      have hLl : L.length ≤ l.length := by rw [hL]; exact chL_len _ _ _ _
      have hLm : ∀ x ∈ L, ∃ i : Nat, x = i ∧ i < l.length := by rw [hL]; exact fun x hx => chL_int_mem hx
      have g2 : ∀ W, Below w.heap.size w W → blk W (w.heap.size + 1) = some #[.int .i64 prio] → blk W (w.heap.size + 2) = some #[.int .i64 now] → Calls Tryd.prog 65 #[.slice a l.length cap, .func (.func 66) #[] #[.pointer (some ⟨w.heap.size + 1, 0, none⟩), .pointer (some ⟨w.heap.size + 2, 0, none⟩)], .func (.func 67) #[] #[]] W fun e w' =>
          ∃ v, e = .returned v ∧ w'.ownsRow W.heap.size 3 1 v L.length (rowC ic L) ∧ Below W.heap.size W w' := fun W hB h1 h2 => by
        rw [hL]
        exact chI_any a cap l (w.heap.size + 1) (w.heap.size + 2) (wantF prio now) (fun W => blk W (w.heap.size + 1) = some #[.int .i64 prio] ∧ blk W (w.heap.size + 2) = some #[.int .i64 now]) (fun W W' h hb => ⟨blk_below hb h.1, blk_below hb h.2⟩) (by omega) (fun x hx W h => for1_any x prio now _ _ (hd x hx) W h.1 h.2) W ⟨h1, h2⟩ (hrow.below hB)
      rw [← hL]
      have HI : ∀ x ∈ l, BnI x.b := fun x hx => by
        obtain ⟨i, hi, rfl⟩ := List.getElem_of_mem hx
        exact bcode_i (hv.code hi)
      replace g2 := Lib.hid g2; replace HI := Lib.hid HI
      have HL := Lib.hid hLm
      have HR := Lib.hid hrow
      have hcap := hrow.1
      have hmax := hrow.2.1
      unfold maxLen at hmax
      clear hL hLm hrow hd hf hv h1
      go_enter Tryd.func24, Tryd.ntmps24
      go_upto_region 7 with (first | (go_at_call 59; (with_reducible refine (g1.out _ (by (repeat (first | (with_reducible assumption) | (with_reducible exact Below.refl _ _) | (with_reducible refine beld_drew ?_) | ((with_reducible refine bset' ?_ ?_); (first | (focus (dsimp only; assumption)) | (focus (simp; done)) | (focus (dsimp only; omega)))) | (with_reducible refine belt_alloc ?_) | ((with_reducible refine zeroed_below' ?_ ?_); (first | (focus (simp; done)) | (focus (dsimp only; omega)))) | (with_reducible refine bt ?_ (by assumption)))))).mono ?_); rintro e w2 ⟨rfl, h2⟩; (have k0 : blk w2 w.heap.size = some #[.slice a l.length cap] := (by (apply blk_to; (focus (repeat (first | (with_reducible assumption) | (with_reducible apply blk_drew) | (with_reducible apply blk_set) | ((with_reducible apply blk_other'); (first | (focus (dsimp only; assumption)) | (focus (simp; done)) | (focus (dsimp only; omega)))) | ((with_reducible apply blk_alloc_new); (first | (with_reducible rfl) | (focus (simp; done)) | (focus (simp; omega)))) | (with_reducible apply blk_alloc) | ((with_reducible apply blk_below); (with_reducible assumption))))); rfl))); (have k1 : blk w2 (w.heap.size + 1) = some #[.int .i64 prio] := (by (apply blk_to; (focus (repeat (first | (with_reducible assumption) | (with_reducible apply blk_drew) | (with_reducible apply blk_set) | ((with_reducible apply blk_other'); (first | (focus (dsimp only; assumption)) | (focus (simp; done)) | (focus (dsimp only; omega)))) | ((with_reducible apply blk_alloc_new); (first | (with_reducible rfl) | (focus (simp; done)) | (focus (simp; omega)))) | (with_reducible apply blk_alloc) | ((with_reducible apply blk_below); (with_reducible assumption))))); rfl))); (have k2 : blk w2 (w.heap.size + 2) = some #[.int .i64 now] := (by (apply blk_to; (focus (repeat (first | (with_reducible assumption) | (with_reducible apply blk_drew) | (with_reducible apply blk_set) | ((with_reducible apply blk_other'); (first | (focus (dsimp only; assumption)) | (focus (simp; done)) | (focus (dsimp only; omega)))) | ((with_reducible apply blk_alloc_new); (first | (with_reducible rfl) | (focus (simp; done)) | (focus (simp; omega)))) | (with_reducible apply blk_alloc) | ((with_reducible apply blk_below); (with_reducible assumption))))); rfl))); (have b2 : Below w.heap.size w w2 := (by (repeat (first | (with_reducible assumption) | (with_reducible exact Below.refl _ _) | (with_reducible refine beld_drew ?_) | ((with_reducible refine bset' ?_ ?_); (first | (focus (dsimp only; assumption)) | (focus (simp; done)) | (focus (dsimp only; omega)))) | (with_reducible refine belt_alloc ?_) | ((with_reducible refine zeroed_below' ?_ ?_); (first | (focus (simp; done)) | (focus (dsimp only; omega)))) | (with_reducible refine bt ?_ (by assumption)))))); (have n0 := kn k0); (have n1 := kn k1); (have n2 := kn k2); clear h2) | (go_at_call 65; (with_reducible refine (g2.out _ b2 k1 k2).mono ?_); rintro e w3 ⟨v3, rfl, ho3, h3⟩; (have k03 := blk_below h3 k0); (have b3 := bt b2 h3); (have w2s := blk_lt k2); (have HS := Lib.hid h3.size); (obtain ⟨a3, cap3, rfl, hS3, hd3⟩ := srow_of_owns ic_len ho3); clear h3 n0 n1 n2))
      rcases Nat.eq_zero_or_pos L.length with h0 | h0
      · obtain rfl := List.length_eq_zero_iff.1 h0
        have gs := Lib.hid (fun W => sortI_none a3 cap3 (.func (.func 69) #[] #[.pointer (some ⟨w.heap.size, 0, none⟩)]) W)
        have HS3 := Lib.hid hS3
        clear hS3 hd3 ho3 k03
        go_wp2_with (go_at_call 68; (with_reducible refine (gs.out _).mono ?_); rintro e w5 ⟨rfl, rfl⟩)
        go_ret2
        exact ⟨a3, cap3, rfl, HS3.out, b3⟩
      · rcases hd3 with ⟨_, rfl⟩ | ⟨g, cur, rfl, hgb, hbg, hcs, hct⟩
        · simp at h0
        obtain ⟨sp, hsp⟩ : ∃ sp, sp = cur.toList.drop (L.length * 1) := ⟨_, rfl⟩
        have hbg2 : blk w3 g = some (rowC ic L ++ sp).toArray := (by rw [hbg, hsp, ← hct, List.take_append_drop])
        have hl3 : HdF w.heap.size a cap l w3 := ⟨k03, HR.out.below b3⟩
        have hgw : w.heap.size + 3 ≤ g := by omega
        have gs := Lib.hid (sortI_40 g cap3 w.heap.size L sp h0 (by omega) hS3.1 (HdF w.heap.size a cap l) (ltF l) (cmF l) (ltF_cm l) (fun W W' h hb => h.below hb)
          (fun W o v h => ⟨blk_other h.1 (by show w.heap.size ≠ g; omega), h.2.setOther (fun b off e => by obtain ⟨b', o', e', hlt, _⟩ := HR.out.2.2.2 (by omega); rw [e'] at e; cases e; omega) _ _⟩)
          (fun W h => ⟨blk_drew h.1, h.2⟩)
          (fun x hx y hy W h => by obtain ⟨i, rfl, hi⟩ := HL.out x hx; obtain ⟨k, rfl, hk⟩ := HL.out y hy; exact for3_any l i k hi hk HI.out w.heap.size a cap W h) (fun a b h => ltB_asymO _ _ h) (fun a b c h1 h2 => ltB_nnO _ _ _ h1 h2) w3 hl3 hbg2)
        have hc3 := hS3.1
        have hm3 := hS3.2.1
        clear hbg hcs hct hsp hbg2 hS3 hl3 ho3 k03
        go_wp2_with (go_at_call 68; (with_reducible refine (gs.out).mono ?_); rintro e w5 ⟨rfl, hg5, hb5, _⟩)
        have hB5 : Below w.heap.size w w5 := b3.grown hg5 b3.size (fun k e => by cases e; omega)
        have lI := isort_length (ltF l) L
        have hr5 : SRow ic 1 w5 (some ⟨g, 0, none⟩) cap3 (isort (ltF l) L) := ⟨by rw [lI]; exact hc3, hm3, (fun h => by cases h), fun _ => ⟨g, 0, rfl, blk_lt hb5, fun i hi => by rw [Nat.zero_add]; exact range_row ic_len hb5 (List.getElem?_eq_getElem hi)⟩⟩
        have HR5 := Lib.hid hr5
        have LI := Lib.hid lI
        clear hr5 lI hb5 hg5 gs
        go_ret2
        exact ⟨some ⟨g, 0, none⟩, cap3, by rw [LI.out]; rfl, HR5.out, hB5⟩
  · rw [if_pos hf]
    obtain ⟨c, hc⟩ : ∃ c, askS l now = c := ⟨_, rfl⟩
    rw [hc] at g1 hf ⊢
    have q0 : (c != 0) = true := by simpa using hf
    replace g1 := Lib.hid g1
    clear hc hf hd hrow h20
    go_enter Tryd.func24, Tryd.ntmps24
    go_wp2_with (go_at_call 59; (with_reducible refine (g1.out _ (by (repeat (first | (with_reducible assumption) | (with_reducible exact Below.refl _ _) | (with_reducible refine beld_drew ?_) | ((with_reducible refine bset' ?_ ?_); (first | (focus (dsimp only; assumption)) | (focus (simp; done)) | (focus (dsimp only; omega)))) | (with_reducible refine belt_alloc ?_) | ((with_reducible refine zeroed_below' ?_ ?_); (first | (focus (simp; done)) | (focus (dsimp only; omega)))) | (with_reducible refine bt ?_ (by assumption)))))).mono ?_); rintro e w2 ⟨rfl, h2⟩; (have k0 : blk w2 w.heap.size = some #[.slice a l.length cap] := (by (apply blk_to; (focus (repeat (first | (with_reducible assumption) | (with_reducible apply blk_drew) | (with_reducible apply blk_set) | ((with_reducible apply blk_other'); (first | (focus (dsimp only; assumption)) | (focus (simp; done)) | (focus (dsimp only; omega)))) | ((with_reducible apply blk_alloc_new); (first | (with_reducible rfl) | (focus (simp; done)) | (focus (simp; omega)))) | (with_reducible apply blk_alloc) | ((with_reducible apply blk_below); (with_reducible assumption))))); rfl))); (have k1 : blk w2 (w.heap.size + 1) = some #[.int .i64 prio] := (by (apply blk_to; (focus (repeat (first | (with_reducible assumption) | (with_reducible apply blk_drew) | (with_reducible apply blk_set) | ((with_reducible apply blk_other'); (first | (focus (dsimp only; assumption)) | (focus (simp; done)) | (focus (dsimp only; omega)))) | ((with_reducible apply blk_alloc_new); (first | (with_reducible rfl) | (focus (simp; done)) | (focus (simp; omega)))) | (with_reducible apply blk_alloc) | ((with_reducible apply blk_below); (with_reducible assumption))))); rfl))); (have k2 : blk w2 (w.heap.size + 2) = some #[.int .i64 now] := (by (apply blk_to; (focus (repeat (first | (with_reducible assumption) | (with_reducible apply blk_drew) | (with_reducible apply blk_set) | ((with_reducible apply blk_other'); (first | (focus (dsimp only; assumption)) | (focus (simp; done)) | (focus (dsimp only; omega)))) | ((with_reducible apply blk_alloc_new); (first | (with_reducible rfl) | (focus (simp; done)) | (focus (simp; omega)))) | (with_reducible apply blk_alloc) | ((with_reducible apply blk_below); (with_reducible assumption))))); rfl))); (have b2 : Below w.heap.size w w2 := (by (repeat (first | (with_reducible assumption) | (with_reducible exact Below.refl _ _) | (with_reducible refine beld_drew ?_) | ((with_reducible refine bset' ?_ ?_); (first | (focus (dsimp only; assumption)) | (focus (simp; done)) | (focus (dsimp only; omega)))) | (with_reducible refine belt_alloc ?_) | ((with_reducible refine zeroed_below' ?_ ?_); (first | (focus (simp; done)) | (focus (dsimp only; omega)))) | (with_reducible refine bt ?_ (by assumption)))))); (have n0 := kn k0); (have n1 := kn k1); (have n2 := kn k2); clear h2)
    go_ret2
    exact RetN.err _ b2
end Go.Proofs.YtahopnlibmiafaaDoor
