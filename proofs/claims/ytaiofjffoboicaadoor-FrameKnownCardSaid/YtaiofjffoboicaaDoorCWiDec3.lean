/- Parts of a proof, printed by a program of mine out of my texts: WiDec3. -/
import Derived.Test.YtaiofjffoboicaaDoorCF
import Derived.Test.YtaiofjffoboicaaDoorCG
import Derived.Test.YtaiofjffoboicaaDoorCH
import Derived.Test.YtaiofjffoboicaaDoorCWiDec2b
set_option linter.unusedSimpArgs false
set_option linter.unusedVariables false
namespace Go.Proofs.YtaiofjffoboicaaDoor
open Go.RowKit
def decV (x : Dr) : Value:=.tuple #[.agg #[.int .i64 x.no,.int .u64 x.sq,.int .i64 x.of,.int .i64 x.de,.int .i64 x.pr,.int .i64 x.bo,.int .i64 x.li,.int .i64 x.to,.string ⟨x.da.toArray⟩],.agg #[.int .i64 x.err,.int .i64 x.fat]]
theorem sealed_cut (l : List UInt8) (n : Nat) : sealedB (l.take (n + 4)) n = decide (four (crcN (l.take n)) = (l.drop n).take 4):=by
  unfold sealedB
  rw [List.take_take,show min n (n + 4) = n by omega,List.drop_take,show n + 4 - n = 4 by omega]
theorem ext_toList (s : ByteArray) (n : Nat) : (s.extract 0 n).data.toList = s.data.toList.take n:=by simp
theorem decode_any (s : ByteArray) (hs : s.size ≤ 1000000) (w : World) (hH : HTab w) (hT : STab w) :
    Calls Tryd.prog 54 #[.string s] w fun e w' => e = .returned (decV (decL s.data.toList)) ∧ Below w.heap.size w w':=by
  have hl : s.data.toList.length = s.size:=by simp
  obtain ⟨⟨pr,fu,⟨p,er,fa⟩⟩,hst⟩ : ∃ x,startR s.data.toList = x:=⟨_,rfl⟩
  obtain ⟨⟨no,sq,of,de,bo,li,to,⟨q,er',fa'⟩⟩,hX⟩ : ∃ X,fieldsR s.data.toList fu ⟨p,er,fa⟩ = X:=⟨_,rfl⟩
  have hdec : decL s.data.toList = decF s.data.toList pr fu ⟨no,sq,of,de,bo,li,to,⟨q,er',fa'⟩⟩:=by
    unfold decL;rw [hst];simp only;rw [hX]
  rw [hdec]
  have hok:=fieldsR_ok s.data.toList fu ⟨p,er,fa⟩
  rw [hX] at hok
  unfold decF
  by_cases he : er' = 0
  · subst he
    rw [if_neg (by simp)]
    obtain ⟨_,j,no',sq',of',de',bo',li',to',qn,_,hq,hqn,_⟩:=hok rfl
    simp only at hq
    subst hq
    rw [hl] at hqn
    obtain ⟨⟨d,nx,te⟩,ht⟩ : ∃ t,getTextN s.data.toList qn 1000 = t:=⟨_,rfl⟩
    simp only
    rw [ht]
    unfold decT
    by_cases hte : te = 0
    · subst hte
      obtain ⟨n,rfl,hn,hdr⟩:=textN_only s.data.toList qn d nx ht
      rw [hl] at hn
      have hdl : d.length ≤ s.size:=by
        have:=congrArg List.length hdr
        simp only [List.length_drop,List.length_append,putTextN,hl] at this
        omega
      obtain ⟨dd,rfl⟩ : ∃ dd : ByteArray,d = dd.data.toList:=⟨⟨d.toArray⟩,rfl⟩
      have hdd : dd.data.toList.length = dd.size:=by simp
      rw [hdd] at hdl
      have hd : dd.size ≤ 1000000:=by omega
      simp only [ne_eq,not_true_eq_false,if_false]
      rw [hl,hdd,show ((n : Int)).toNat = n by omega]
      have hbad : ∀ e a : Int,decV (.bad e a) = .tuple #[.agg #[.int .i64 0,.int .u64 0,.int .i64 0,.int .i64 0,.int .i64 0,.int .i64 0,.int .i64 0,.int .i64 0,.string ⟨#[]⟩],.agg #[.int .i64 e,.int .i64 a]]:=fun e a => rfl
      have hbs : (⟨dd.data.toList.toArray⟩ : ByteArray) = dd:=by simp
      by_cases h1 : (s.size : Int) - (n : Int) < 4
      · rw [if_pos h1,hbad]
        cases fu
        · exact dec1_false s hs pr p er fa no sq of de bo li to qn 0 fa' hst hX rfl dd n ht (by omega) (by omega) hn hd h1 w hH hT
        · exact dec1_true s hs pr p er fa no sq of de bo li to qn 0 fa' hst hX rfl dd n ht (by omega) (by omega) hn hd h1 w hH hT
      · rw [if_neg h1]
        have h1' : n + 4 ≤ s.size:=by omega
        have hsc:=sealed_cut s.data.toList n
        rw [← ext_toList] at hsc
        by_cases h2 : (s.data.toList.drop n).take 4 = four (crcN (s.data.toList.take n))
        · rw [if_neg (by simp [h2])]
          have h2' : sealedB (s.extract 0 (n + 4)).data.toList n = true:=by rw [hsc];simp [h2]
          by_cases h3 : (n : Int) + 4 < (s.size : Int)
          · rw [if_pos h3,hbad]
            cases fu
            · exact dec3_false s hs pr p er fa no sq of de bo li to qn 0 fa' hst hX rfl dd n ht (by omega) (by omega) hn hd h1' h2' (by omega) w hH hT
            · exact dec3_true s hs pr p er fa no sq of de bo li to qn 0 fa' hst hX rfl dd n ht (by omega) (by omega) hn hd h1' h2' (by omega) w hH hT
          · rw [if_neg h3]
            have h3' : s.size = n + 4:=by omega
            cases fu
            · simp only [Bool.false_eq_true,if_false,true_and]
              by_cases h4 : buC no sq of de pr bo li to dd.size = 0
              · rw [if_neg (by simp [h4])]
                by_cases h5 : wholeB of to dd.size = true
                · rw [if_pos h5,hbad]
                  exact dec5_false s hs pr p er fa no sq of de bo li to qn 0 fa' hst hX rfl dd n ht (by omega) (by omega) hn hd h1' h2' h3' h4 h5 w hH hT
                · rw [if_neg h5]
                  have:=dec6_false s hs pr p er fa no sq of de bo li to qn 0 fa' hst hX rfl dd n ht (by omega) (by omega) hn hd h1' h2' h3' h4 (by simpa using h5) w hH hT
                  unfold decV;simp only [hbs];exact this
              · rw [if_pos h4,hbad]
                exact dec4_false s hs pr p er fa no sq of de bo li to qn 0 fa' hst hX rfl dd n ht (by omega) (by omega) hn hd h1' h2' h3' _ rfl h4 w hH hT
            · simp only [if_true,Bool.true_eq_false,false_and,if_false]
              by_cases h4 : buC no sq of de pr bo li dd.size dd.size = 0
              · rw [if_neg (by simp [h4])]
                have:=dec6_true s hs pr p er fa no sq of de bo li to qn 0 fa' hst hX rfl dd n ht (by omega) (by omega) hn hd h1' h2' h3' h4 w hH hT
                unfold decV;simp only [hbs];exact this
              · rw [if_pos h4,hbad]
                exact dec4_true s hs pr p er fa no sq of de bo li to qn 0 fa' hst hX rfl dd n ht (by omega) (by omega) hn hd h1' h2' h3' _ rfl h4 w hH hT
        · rw [if_pos h2,hbad]
          have h2' : sealedB (s.extract 0 (n + 4)).data.toList n = false:=by rw [hsc];simp;exact fun h => h2 h.symm
          cases fu
          · exact dec2_false s hs pr p er fa no sq of de bo li to qn 0 fa' hst hX rfl dd n ht (by omega) (by omega) hn hd h1' h2' w hH hT
          · exact dec2_true s hs pr p er fa no sq of de bo li to qn 0 fa' hst hX rfl dd n ht (by omega) (by omega) hn hd h1' h2' w hH hT
    · rw [if_pos hte]
      cases fu
      · exact decB_false s hs pr p er fa no sq of de bo li to qn 0 fa' hst hX rfl d nx te ht (by omega) (by omega) hte w hH hT
      · exact decB_true s hs pr p er fa no sq of de bo li to qn 0 fa' hst hX rfl d nx te ht (by omega) (by omega) hte w hH hT
  · rw [if_pos he]
    cases fu
    · exact decA_false s hs pr p er fa no sq of de bo li to q er' fa' hst hX he w hH hT
    · exact decA_true s hs pr p er fa no sq of de bo li to q er' fa' hst hX he w hH hT
end Go.Proofs.YtaiofjffoboicaaDoor
