/- Decode of the reference gives what the plain law says; WireReads. -/
import Derived.Test.YtiphddlakbbfiaaDoorWiRefDeca
import Derived.Test.YtiphddlakbbfiaaDoorWiRefDecb
import Derived.Test.YtiphddlakbbfiaaDoorWiRefDecc
import Derived.Test.YtiphddlakbbfiaaDoorWiRefDecd
import Derived.Test.YtiphddlakbbfiaaDoorWiRefDece
import Derived.Test.YtiphddlakbbfiaaDoorWiKnown
namespace Go.Proofs.YtiphddlakbbfiaaDoor
set_option linter.unusedVariables false
open Go.RowKit

theorem refDecode_any (s : ByteArray) (hs : s.size ≤ 1000000) (w : World) :
    Calls Tryd.prog 18 #[.string s] w fun e w' => e = .returned (decV (decL s.data.toList)) ∧ Below w.heap.size w w' := by
  have hl : s.data.toList.length = s.size := by simp
  obtain ⟨⟨pr, fu, r0⟩, hst⟩ : ∃ x, startR s.data.toList = x := ⟨_, rfl⟩
  obtain ⟨rj, hJ, hS⟩ := fields_same s.data.toList fu r0
  obtain ⟨⟨no, sq, of, de, bo, li, to, ⟨q, er', fa'⟩⟩, hX⟩ : ∃ X, fieldsR s.data.toList fu r0 = X := ⟨_, rfl⟩
  rw [hX] at hJ hS
  have hdec : decL s.data.toList = decF s.data.toList pr fu ⟨no, sq, of, de, bo, li, to, ⟨q, er', fa'⟩⟩ := by
    unfold decL; rw [hst]; simp only; rw [hX]
  rw [hdec]
  have hok := fieldsR_ok s.data.toList fu r0
  rw [hX] at hok
  have cf0 := fun b w hb => refFields_any b s (by unfold maxLen; omega) pr fu r0 hst _ hJ w hb
  obtain ⟨q', er2, fa2⟩ := rj
  obtain ⟨h1, h2, h3⟩ := hS
  simp only at h1 h2 h3 cf0
  subst h1 h2
  have cf : ∀ b w, blk w b = some (rdC s 0 0 0) → Calls Tryd.prog 44 #[.pointer (some ⟨b, 0, none⟩)] w fun x w' => x = .returned (.tuple #[buv no sq of de pr bo li to ⟨#[]⟩, .bool fu]) ∧ (∃ p, blk w' b = some (rdC s p er' fa') ∧ (er' = 0 → p = q)) ∧ Touch b w w' :=
    fun b w hb => (cf0 b w hb).mono fun x w' ⟨a1, ⟨p, a2, a4⟩, a3⟩ => ⟨a1, ⟨p, a2, fun h => by rw [a4 h, h3 h]⟩, a3⟩
  clear cf0 h3 hJ
  unfold decF
  by_cases he : er' = 0
  · subst he
    rw [if_neg (by simp)]
    obtain ⟨_, j, no', sq', of', de', bo', li', to', qn, _, hq, hqn, _⟩ := hok rfl
    simp only at hq
    subst hq
    rw [hl] at hqn
    obtain ⟨⟨d, nx, te⟩, ht⟩ : ∃ t, getTextN s.data.toList qn 1000 = t := ⟨_, rfl⟩
    simp only
    rw [ht]
    unfold decT
    by_cases hte : te = 0
    · subst hte
      obtain ⟨n, rfl, hn, hdr⟩ := textN_only s.data.toList qn d nx ht
      rw [hl] at hn
      have hdl : d.length ≤ s.size := by
        have := congrArg List.length hdr
        simp only [List.length_drop, List.length_append, putTextN, hl] at this
        omega
      obtain ⟨dd, rfl⟩ : ∃ dd : ByteArray, d = dd.data.toList := ⟨⟨d.toArray⟩, rfl⟩
      have hdd : dd.data.toList.length = dd.size := by simp
      rw [hdd] at hdl
      have hd : dd.size ≤ 1000000 := by omega
      simp only [ne_eq, not_true_eq_false, if_false]
      rw [hl, hdd, show ((n : Int)).toNat = n by omega]
      have hbad : ∀ e a : Int, decV (.bad e a) = .tuple #[.agg #[.int .i64 0, .int .u64 0, .int .i64 0, .int .i64 0, .int .i64 0, .int .i64 0, .int .i64 0, .int .i64 0, .string ⟨#[]⟩], .agg #[.int .i64 e, .int .i64 a]] := fun e a => rfl
      have hbs : (⟨dd.data.toList.toArray⟩ : ByteArray) = dd := by simp
      by_cases h1 : (s.size : Int) - (n : Int) < 4
      · rw [if_pos h1, hbad]
        cases fu
        · exact rdec1_false s hs no sq of de bo li to qn 0 fa' pr cf rfl dd n ht (by omega) (by omega) hn hd h1 w
        · exact rdec1_true s hs no sq of de bo li to qn 0 fa' pr cf rfl dd n ht (by omega) (by omega) hn hd h1 w
      · rw [if_neg h1]
        have h1' : n + 4 ≤ s.size := by omega
        by_cases h2 : (s.data.toList.drop n).take 4 = four (crcN (s.data.toList.take n))
        · rw [if_neg (by simp [h2])]
          by_cases h3 : (n : Int) + 4 < (s.size : Int)
          · rw [if_pos h3, hbad]
            cases fu
            · exact rdec3_false s hs no sq of de bo li to qn 0 fa' pr cf rfl dd n ht (by omega) (by omega) hn hd h1' h2 (by omega) w
            · exact rdec3_true s hs no sq of de bo li to qn 0 fa' pr cf rfl dd n ht (by omega) (by omega) hn hd h1' h2 (by omega) w
          · rw [if_neg h3]
            have h3' : s.size = n + 4 := by omega
            cases fu
            · simp only [Bool.false_eq_true, if_false, true_and]
              by_cases h4 : buC no sq of de pr bo li to dd.size = 0
              · rw [if_neg (by simp [h4])]
                by_cases h5 : wholeB of to dd.size = true
                · rw [if_pos h5, hbad]
                  exact rdec5_false s hs no sq of de bo li to qn 0 fa' pr cf rfl dd n ht (by omega) (by omega) hn hd h1' h2 h3' h4 h5 w
                · rw [if_neg h5]
                  have := rdec6_false s hs no sq of de bo li to qn 0 fa' pr cf rfl dd n ht (by omega) (by omega) hn hd h1' h2 h3' h4 false (by simpa using h5) (fun h => h) w
                  unfold decV; simp only [hbs]; exact this
              · rw [if_pos h4, hbad]
                exact rdec4_false s hs no sq of de bo li to qn 0 fa' pr cf rfl dd n ht (by omega) (by omega) hn hd h1' h2 h3' _ rfl h4 w
            · simp only [if_true, Bool.true_eq_false, false_and, if_false]
              by_cases h4 : buC no sq of de pr bo li dd.size dd.size = 0
              · rw [if_neg (by simp [h4])]
                have := rdec6_true s hs no sq of de bo li to qn 0 fa' pr cf rfl dd n ht (by omega) (by omega) hn hd h1' h2 h3' h4 _ rfl (fun _ => rfl) w
                unfold decV; simp only [hbs]; exact this
              · rw [if_pos h4, hbad]
                exact rdec4_true s hs no sq of de bo li to qn 0 fa' pr cf rfl dd n ht (by omega) (by omega) hn hd h1' h2 h3' _ rfl h4 w
        · rw [if_pos h2, hbad]
          cases fu
          · exact rdec2_false s hs no sq of de bo li to qn 0 fa' pr cf rfl dd n ht (by omega) (by omega) hn hd h1' h2 w
          · exact rdec2_true s hs no sq of de bo li to qn 0 fa' pr cf rfl dd n ht (by omega) (by omega) hn hd h1' h2 w
    · rw [if_pos hte]
      cases fu
      · exact rdecB_false s hs no sq of de bo li to qn 0 fa' pr cf rfl d nx te ht (by omega) (by omega) hte w
      · exact rdecB_true s hs no sq of de bo li to qn 0 fa' pr cf rfl d nx te ht (by omega) (by omega) hte w
  · rw [if_pos he]
    cases fu
    · exact rdecA_false s hs no sq of de bo li to q er' fa' pr cf he w
    · exact rdecA_true s hs no sq of de bo li to q er' fa' pr cf he w
set_option maxRecDepth 100000 in
set_option maxHeartbeats 3200000 in
theorem wireReads_walk (s : ByteArray) (hs : s.size ≤ maxLen) (w : World) (T0 : Lib.TabIs Tryd.prog w sumNm .u32 sumTab) (T1 : Lib.TabIs Tryd.prog w headsNm .u8 headsTab) :
    Calls Tryd.prog 4 #[.string s] w fun e w' => e = .returned (.bool true) ∧ Below w.heap.size w w' := by
  have HT := Lib.hid (htab_of T1); have ST := Lib.hid (stab_of T0)
  have g0 := Lib.hid awake_any
  unfold maxLen at hs
  clear T0 T1
  by_cases hlong : 1400 < s.size
  · go_enter Tryd.func4, Tryd.ntmps4
    go_wp2_with (go_at_call 10; (with_reducible refine (g0.out _ HT.out ST.out).mono ?_); rintro e wa ⟨rfl, ha⟩)
    go_ret
    exact ⟨rfl, ha⟩
  · have g1 := fun w h t => decode_any s (by omega) w h t
    have g2 := fun w => refDecode_any s (by omega) w
    have g3 := fun w h => peek_any s (by unfold maxLen; omega) w h
    have g4 := fun w => refPeek_any s (by unfold maxLen; omega) w
    obtain ⟨⟨no, sq, of, de, pr, bo, li, to, dl, er, fa⟩, hd⟩ : ∃ x, decL s.data.toList = x := ⟨_, rfl⟩
    obtain ⟨⟨p1, p2, p3, p4, p5, p6⟩, hp⟩ : ∃ x, peekC s.data.toList = x := ⟨_, rfl⟩
    rw [hd] at g1 g2; rw [hp] at g3 g4
    unfold decV at g1 g2
    obtain ⟨da, hda⟩ : ∃ da : ByteArray, ⟨dl.toArray⟩ = da := ⟨_, rfl⟩
    simp only [hda] at g1 g2 g3 g4
    have E1 : ∀ w, Sem.run Tryd.prog (binOp BinOp.eql 26 (.agg #[.int .i64 no, .int .u64 sq, .int .i64 of, .int .i64 de, .int .i64 pr, .int .i64 bo, .int .i64 li, .int .i64 to, .string da]) (.agg #[.int .i64 no, .int .u64 sq, .int .i64 of, .int .i64 de, .int .i64 pr, .int .i64 bo, .int .i64 li, .int .i64 to, .string da])) w = .ok (.bool true) w := fun w => run_buSame no sq of de pr bo li to da w
    have E2 : ∀ e a w, Sem.run Tryd.prog (binOp BinOp.eql 36 (.agg #[.int .i64 e, .int .i64 a]) (.agg #[.int .i64 e, .int .i64 a])) w = .ok (.bool true) w := fun e a w => by have := run_ftEq e a e a w; rwa [show ftEq e a e a = true by simp [ftEq]] at this
    have E3 : ∀ w, Sem.run Tryd.prog (binOp BinOp.eql 24 (.agg #[.int .i64 p1, .int .u64 p2, .int .i64 p3]) (.agg #[.int .i64 p1, .int .u64 p2, .int .i64 p3])) w = .ok (.bool true) w := fun w => by have := run_idEq p1 p2 p3 p1 p2 p3 w; rwa [show idEq p1 p2 p3 p1 p2 p3 = true by simp [idEq]] at this
    clear hd hp hda
    replace g1 := Lib.hid g1; replace g2 := Lib.hid g2; replace g3 := Lib.hid g3; replace g4 := Lib.hid g4
    go_enter Tryd.func4, Tryd.ntmps4
    go_wp2_with fail
    (with_reducible refine (g1.out _ HT.out ST.out).mono ?_)
    rintro e w1 ⟨rfl, hw1⟩
    have bw1 : Below w.heap.size w w1 := (by (repeat (first | (with_reducible assumption) | (with_reducible exact Below.refl _ _) | (with_reducible refine beld_drew ?_) | ((with_reducible refine bset' ?_ ?_); (first | (focus (dsimp only; assumption)) | (focus (simp; done)) | (focus (dsimp only; omega)))) | (with_reducible refine belt_alloc ?_) | ((with_reducible refine zeroed_below' ?_ ?_); (first | (focus (simp; done)) | (focus (dsimp only; omega)))) | (with_reducible refine bt ?_ (by assumption)))))
    have sw1 := bw1.size
    clear hw1
    go_wp2_with fail
    (with_reducible refine (g2.out _).mono ?_)
    rintro e w2 ⟨rfl, hw2⟩
    have kk1 : blk w2 (w1.heap.size) = some #[.int .i64 no, .int .u64 sq, .int .i64 of, .int .i64 de, .int .i64 pr, .int .i64 bo, .int .i64 li, .int .i64 to, .string da] := (by (apply blk_to; (focus (repeat (first | (with_reducible assumption) | (with_reducible apply blk_drew) | (with_reducible apply blk_set) | ((with_reducible apply blk_other'); (first | (focus (dsimp only; assumption)) | (focus (simp; done)) | (focus (dsimp only; omega)))) | ((with_reducible apply blk_alloc_new); (first | (with_reducible rfl) | (focus (simp; done)) | (focus (simp; omega)))) | (with_reducible apply blk_alloc) | ((with_reducible apply blk_below); (with_reducible assumption))))); rfl))
    have kk2 : blk w2 (w1.heap.size + 1) = some #[.int .i64 er, .int .i64 fa] := (by (apply blk_to; (focus (repeat (first | (with_reducible assumption) | (with_reducible apply blk_drew) | (with_reducible apply blk_set) | ((with_reducible apply blk_other'); (first | (focus (dsimp only; assumption)) | (focus (simp; done)) | (focus (dsimp only; omega)))) | ((with_reducible apply blk_alloc_new); (first | (with_reducible rfl) | (focus (simp; done)) | (focus (simp; omega)))) | (with_reducible apply blk_alloc) | ((with_reducible apply blk_below); (with_reducible assumption))))); rfl))
    have kn1 := kn kk1
    have kn2 := kn kk2
    have bw2 : Below w.heap.size w w2 := (by (repeat (first | (with_reducible assumption) | (with_reducible exact Below.refl _ _) | (with_reducible refine beld_drew ?_) | ((with_reducible refine bset' ?_ ?_); (first | (focus (dsimp only; assumption)) | (focus (simp; done)) | (focus (dsimp only; omega)))) | (with_reducible refine belt_alloc ?_) | ((with_reducible refine zeroed_below' ?_ ?_); (first | (focus (simp; done)) | (focus (dsimp only; omega)))) | (with_reducible refine bt ?_ (by assumption)))))
    have sw2 := bw2.size
    clear hw2 bw1
    go_wp2_with fail
    have B2 : Below w.heap.size w ((w2.alloc (.cells #[.int .i64 no, .int .u64 sq, .int .i64 of, .int .i64 de, .int .i64 pr, .int .i64 bo, .int .i64 li, .int .i64 to, .string da] 26)).alloc (.cells #[.int .i64 er, .int .i64 fa] 36)) := ((bw2.alloc sw2 _).alloc (by simp; omega) _)
    go_wp2_with fail
    (with_reducible refine (g3.out _ (HT.out.on B2)).mono ?_)
    rintro e w3 ⟨rfl, hw3⟩
    have kk3 : blk w3 (w1.heap.size) = some #[.int .i64 no, .int .u64 sq, .int .i64 of, .int .i64 de, .int .i64 pr, .int .i64 bo, .int .i64 li, .int .i64 to, .string da] := (by (apply blk_to; (focus (repeat (first | (with_reducible assumption) | (with_reducible apply blk_drew) | (with_reducible apply blk_set) | ((with_reducible apply blk_other'); (first | (focus (dsimp only; assumption)) | (focus (simp; done)) | (focus (dsimp only; omega)))) | ((with_reducible apply blk_alloc_new); (first | (with_reducible rfl) | (focus (simp; done)) | (focus (simp; omega)))) | (with_reducible apply blk_alloc) | ((with_reducible apply blk_below); (with_reducible assumption))))); rfl))
    have kk4 : blk w3 (w1.heap.size + 1) = some #[.int .i64 er, .int .i64 fa] := (by (apply blk_to; (focus (repeat (first | (with_reducible assumption) | (with_reducible apply blk_drew) | (with_reducible apply blk_set) | ((with_reducible apply blk_other'); (first | (focus (dsimp only; assumption)) | (focus (simp; done)) | (focus (dsimp only; omega)))) | ((with_reducible apply blk_alloc_new); (first | (with_reducible rfl) | (focus (simp; done)) | (focus (simp; omega)))) | (with_reducible apply blk_alloc) | ((with_reducible apply blk_below); (with_reducible assumption))))); rfl))
    have kk5 : blk w3 (w2.heap.size) = some #[.int .i64 no, .int .u64 sq, .int .i64 of, .int .i64 de, .int .i64 pr, .int .i64 bo, .int .i64 li, .int .i64 to, .string da] := (by (apply blk_to; (focus (repeat (first | (with_reducible assumption) | (with_reducible apply blk_drew) | (with_reducible apply blk_set) | ((with_reducible apply blk_other'); (first | (focus (dsimp only; assumption)) | (focus (simp; done)) | (focus (dsimp only; omega)))) | ((with_reducible apply blk_alloc_new); (first | (with_reducible rfl) | (focus (simp; done)) | (focus (simp; omega)))) | (with_reducible apply blk_alloc) | ((with_reducible apply blk_below); (with_reducible assumption))))); rfl))
    have kk6 : blk w3 (w2.heap.size + 1) = some #[.int .i64 er, .int .i64 fa] := (by (apply blk_to; (focus (repeat (first | (with_reducible assumption) | (with_reducible apply blk_drew) | (with_reducible apply blk_set) | ((with_reducible apply blk_other'); (first | (focus (dsimp only; assumption)) | (focus (simp; done)) | (focus (dsimp only; omega)))) | ((with_reducible apply blk_alloc_new); (first | (with_reducible rfl) | (focus (simp; done)) | (focus (simp; omega)))) | (with_reducible apply blk_alloc) | ((with_reducible apply blk_below); (with_reducible assumption))))); rfl))
    clear kk1 kn1 kk2 kn2
    have kn3 := kn kk3
    have kn4 := kn kk4
    have kn5 := kn kk5
    have kn6 := kn kk6
    have bw3 : Below w.heap.size w w3 := (by (repeat (first | (with_reducible assumption) | (with_reducible exact Below.refl _ _) | (with_reducible refine beld_drew ?_) | ((with_reducible refine bset' ?_ ?_); (first | (focus (dsimp only; assumption)) | (focus (simp; done)) | (focus (dsimp only; omega)))) | (with_reducible refine belt_alloc ?_) | ((with_reducible refine zeroed_below' ?_ ?_); (first | (focus (simp; done)) | (focus (dsimp only; omega)))) | (with_reducible refine bt ?_ (by assumption)))))
    have sw3 := bw3.size
    clear hw3 bw2
    go_wp2_with fail
    (with_reducible refine (g4.out _).mono ?_)
    rintro e w4 ⟨rfl, hw4⟩
    have kk7 : blk w4 (w1.heap.size) = some #[.int .i64 no, .int .u64 sq, .int .i64 of, .int .i64 de, .int .i64 pr, .int .i64 bo, .int .i64 li, .int .i64 to, .string da] := (by (apply blk_to; (focus (repeat (first | (with_reducible assumption) | (with_reducible apply blk_drew) | (with_reducible apply blk_set) | ((with_reducible apply blk_other'); (first | (focus (dsimp only; assumption)) | (focus (simp; done)) | (focus (dsimp only; omega)))) | ((with_reducible apply blk_alloc_new); (first | (with_reducible rfl) | (focus (simp; done)) | (focus (simp; omega)))) | (with_reducible apply blk_alloc) | ((with_reducible apply blk_below); (with_reducible assumption))))); rfl))
    have kk8 : blk w4 (w1.heap.size + 1) = some #[.int .i64 er, .int .i64 fa] := (by (apply blk_to; (focus (repeat (first | (with_reducible assumption) | (with_reducible apply blk_drew) | (with_reducible apply blk_set) | ((with_reducible apply blk_other'); (first | (focus (dsimp only; assumption)) | (focus (simp; done)) | (focus (dsimp only; omega)))) | ((with_reducible apply blk_alloc_new); (first | (with_reducible rfl) | (focus (simp; done)) | (focus (simp; omega)))) | (with_reducible apply blk_alloc) | ((with_reducible apply blk_below); (with_reducible assumption))))); rfl))
    have kk9 : blk w4 (w2.heap.size) = some #[.int .i64 no, .int .u64 sq, .int .i64 of, .int .i64 de, .int .i64 pr, .int .i64 bo, .int .i64 li, .int .i64 to, .string da] := (by (apply blk_to; (focus (repeat (first | (with_reducible assumption) | (with_reducible apply blk_drew) | (with_reducible apply blk_set) | ((with_reducible apply blk_other'); (first | (focus (dsimp only; assumption)) | (focus (simp; done)) | (focus (dsimp only; omega)))) | ((with_reducible apply blk_alloc_new); (first | (with_reducible rfl) | (focus (simp; done)) | (focus (simp; omega)))) | (with_reducible apply blk_alloc) | ((with_reducible apply blk_below); (with_reducible assumption))))); rfl))
    have kk10 : blk w4 (w2.heap.size + 1) = some #[.int .i64 er, .int .i64 fa] := (by (apply blk_to; (focus (repeat (first | (with_reducible assumption) | (with_reducible apply blk_drew) | (with_reducible apply blk_set) | ((with_reducible apply blk_other'); (first | (focus (dsimp only; assumption)) | (focus (simp; done)) | (focus (dsimp only; omega)))) | ((with_reducible apply blk_alloc_new); (first | (with_reducible rfl) | (focus (simp; done)) | (focus (simp; omega)))) | (with_reducible apply blk_alloc) | ((with_reducible apply blk_below); (with_reducible assumption))))); rfl))
    have kk11 : blk w4 (w3.heap.size) = some #[.int .i64 p1, .int .u64 p2, .int .i64 p3] := (by (apply blk_to; (focus (repeat (first | (with_reducible assumption) | (with_reducible apply blk_drew) | (with_reducible apply blk_set) | ((with_reducible apply blk_other'); (first | (focus (dsimp only; assumption)) | (focus (simp; done)) | (focus (dsimp only; omega)))) | ((with_reducible apply blk_alloc_new); (first | (with_reducible rfl) | (focus (simp; done)) | (focus (simp; omega)))) | (with_reducible apply blk_alloc) | ((with_reducible apply blk_below); (with_reducible assumption))))); rfl))
    have kk12 : blk w4 (w3.heap.size + 1) = some #[.int .i64 p5, .int .i64 p6] := (by (apply blk_to; (focus (repeat (first | (with_reducible assumption) | (with_reducible apply blk_drew) | (with_reducible apply blk_set) | ((with_reducible apply blk_other'); (first | (focus (dsimp only; assumption)) | (focus (simp; done)) | (focus (dsimp only; omega)))) | ((with_reducible apply blk_alloc_new); (first | (with_reducible rfl) | (focus (simp; done)) | (focus (simp; omega)))) | (with_reducible apply blk_alloc) | ((with_reducible apply blk_below); (with_reducible assumption))))); rfl))
    clear kk3 kn3 kk4 kn4 kk5 kn5 kk6 kn6
    have kn7 := kn kk7
    have kn8 := kn kk8
    have kn9 := kn kk9
    have kn10 := kn kk10
    have kn11 := kn kk11
    have kn12 := kn kk12
    have bw4 : Below w.heap.size w w4 := (by (repeat (first | (with_reducible assumption) | (with_reducible exact Below.refl _ _) | (with_reducible refine beld_drew ?_) | ((with_reducible refine bset' ?_ ?_); (first | (focus (dsimp only; assumption)) | (focus (simp; done)) | (focus (dsimp only; omega)))) | (with_reducible refine belt_alloc ?_) | ((with_reducible refine zeroed_below' ?_ ?_); (first | (focus (simp; done)) | (focus (dsimp only; omega)))) | (with_reducible refine bt ?_ (by assumption)))))
    have sw4 := bw4.size
    clear hw4 bw3
    have a1 : ∀ o, ((w4.alloc (.cells #[.int .i64 p1, .int .u64 p2, .int .i64 p3] 24)).alloc (.cells #[.int .i64 p5, .int .i64 p6] 36)).cell? ⟨w1.heap.size, o, none⟩ = (#[.int .i64 no, .int .u64 sq, .int .i64 of, .int .i64 de, .int .i64 pr, .int .i64 bo, .int .i64 li, .int .i64 to, .string da] : Array Value)[o]? := blk_cell (blk_alloc (blk_alloc (by assumption : blk w4 (w1.heap.size) = some (#[.int .i64 no, .int .u64 sq, .int .i64 of, .int .i64 de, .int .i64 pr, .int .i64 bo, .int .i64 li, .int .i64 to, .string da])) _) _)
    have a2 : ∀ o, ((w4.alloc (.cells #[.int .i64 p1, .int .u64 p2, .int .i64 p3] 24)).alloc (.cells #[.int .i64 p5, .int .i64 p6] 36)).cell? ⟨w1.heap.size + 1, o, none⟩ = (#[.int .i64 er, .int .i64 fa] : Array Value)[o]? := blk_cell (blk_alloc (blk_alloc (by assumption : blk w4 (w1.heap.size + 1) = some (#[.int .i64 er, .int .i64 fa])) _) _)
    have a3 : ∀ o, ((w4.alloc (.cells #[.int .i64 p1, .int .u64 p2, .int .i64 p3] 24)).alloc (.cells #[.int .i64 p5, .int .i64 p6] 36)).cell? ⟨w2.heap.size, o, none⟩ = (#[.int .i64 no, .int .u64 sq, .int .i64 of, .int .i64 de, .int .i64 pr, .int .i64 bo, .int .i64 li, .int .i64 to, .string da] : Array Value)[o]? := blk_cell (blk_alloc (blk_alloc (by assumption : blk w4 (w2.heap.size) = some (#[.int .i64 no, .int .u64 sq, .int .i64 of, .int .i64 de, .int .i64 pr, .int .i64 bo, .int .i64 li, .int .i64 to, .string da])) _) _)
    have a4 : ∀ o, ((w4.alloc (.cells #[.int .i64 p1, .int .u64 p2, .int .i64 p3] 24)).alloc (.cells #[.int .i64 p5, .int .i64 p6] 36)).cell? ⟨w2.heap.size + 1, o, none⟩ = (#[.int .i64 er, .int .i64 fa] : Array Value)[o]? := blk_cell (blk_alloc (blk_alloc (by assumption : blk w4 (w2.heap.size + 1) = some (#[.int .i64 er, .int .i64 fa])) _) _)
    have a5 : ∀ o, ((w4.alloc (.cells #[.int .i64 p1, .int .u64 p2, .int .i64 p3] 24)).alloc (.cells #[.int .i64 p5, .int .i64 p6] 36)).cell? ⟨w3.heap.size, o, none⟩ = (#[.int .i64 p1, .int .u64 p2, .int .i64 p3] : Array Value)[o]? := blk_cell (blk_alloc (blk_alloc (by assumption : blk w4 (w3.heap.size) = some (#[.int .i64 p1, .int .u64 p2, .int .i64 p3])) _) _)
    have a6 : ∀ o, ((w4.alloc (.cells #[.int .i64 p1, .int .u64 p2, .int .i64 p3] 24)).alloc (.cells #[.int .i64 p5, .int .i64 p6] 36)).cell? ⟨w3.heap.size + 1, o, none⟩ = (#[.int .i64 p5, .int .i64 p6] : Array Value)[o]? := blk_cell (blk_alloc (blk_alloc (by assumption : blk w4 (w3.heap.size + 1) = some (#[.int .i64 p5, .int .i64 p6])) _) _)
    have B4 : Below w.heap.size w ((w4.alloc (.cells #[.int .i64 p1, .int .u64 p2, .int .i64 p3] 24)).alloc (.cells #[.int .i64 p5, .int .i64 p6] 36)) := ((bw4.alloc sw4 _).alloc (by simp; omega) _)
    go_wp2_with (go_at_call 10; (with_reducible refine (g0.out _ (HT.out.on B4) (ST.out.on B4)).mono ?_); rintro e w5 ⟨rfl, h5⟩)
    go_ret
    exact ⟨rfl, bt B4 h5⟩
end Go.Proofs.YtiphddlakbbfiaaDoor
