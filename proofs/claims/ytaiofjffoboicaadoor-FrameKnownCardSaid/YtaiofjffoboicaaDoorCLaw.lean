/- Parts of a proof, printed by a program of mine out of my texts: FrMath, FrLaw, FrRead, FrDecP. -/
import Derived.Test.YtaiofjffoboicaaDoorCC
import Derived.Test.YtaiofjffoboicaaDoorCD
import Derived.Test.YtaiofjffoboicaaDoorCI
set_option linter.unusedSimpArgs false
set_option linter.unusedVariables false
namespace Go.Proofs.YtaiofjffoboicaaDoor
open Go.RowKit
def up (x : Nat) : Nat:=if x / 32768 % 2 = 1 then (x * 2 % 65536) ^^^ 4129 else x * 2
def ups : Nat → Nat → Nat
  | 0,x => x
  | n + 1,x => up (ups n x)
def byteS (r b : Nat) : Nat:=ups 8 (r ^^^ b * 256)
def crsGo (l : List UInt8) (r : Nat) : Nat:=l.foldl (fun r b => byteS r b.toNat) r
def crsN (l : List UInt8) : Nat:=crsGo l 65535
theorem up_lt {x : Nat} (h : x < 65536) : up x < 65536:=by
  unfold up
  split
  · exact Nat.xor_lt_two_pow (n:=16) (by omega) (by omega)
  · omega
theorem ups_lt {x : Nat} (n : Nat) (h : x < 65536) : ups n x < 65536:=by
  induction n with
  | zero => exact h
  | succ n ih => exact up_lt ih
theorem byteS_lt {r b : Nat} (h : r < 65536) (hb : b < 256) : byteS r b < 65536 :=
  ups_lt 8 (Nat.xor_lt_two_pow (n:=16) (by omega) (by omega))
theorem crsGo_lt (l : List UInt8) : ∀ {r : Nat},r < 65536 → crsGo l r < 65536:=by
  induction l with
  | nil => exact fun h => h
  | cons c l ih => exact fun h => ih (byteS_lt h c.toNat_lt)
theorem crsN_lt (l : List UInt8) : crsN l < 65536:=crsGo_lt l (by decide)
theorem crsGo_append (a b : List UInt8) (r : Nat) : crsGo (a ++ b) r = crsGo b (crsGo a r):=by simp [crsGo,List.foldl_append]
theorem crsGo_take (l : List UInt8) (r i : Nat) (h : i < l.length) : crsGo (l.take (i + 1)) r = byteS (crsGo (l.take i) r) (l[i].toNat):=by
  rw [List.take_succ_eq_append_getElem h,crsGo_append];rfl
theorem up_inj {x y : Nat} (hx : x < 65536) (hy : y < 65536) (h : up x = up y) : x = y:=by
  have key : ∀ a b : Nat,a * 2 % 65536 ^^^ 4129 = b * 2 → False:=fun a b he => by
    have h1:=(@Nat.xor_mod_two_eq_one (a * 2 % 65536) 4129).2 (by omega)
    rw [he] at h1
    omega
  unfold up at h
  by_cases h1 : x / 32768 % 2 = 1 <;> by_cases h2 : y / 32768 % 2 = 1
  · rw [if_pos h1,if_pos h2] at h
    have h3:=xor_cancel' h
    omega
  · rw [if_pos h1,if_neg h2] at h;exact (key _ _ h).elim
  · rw [if_neg h1,if_pos h2] at h;exact (key _ _ h.symm).elim
  · rw [if_neg h1,if_neg h2] at h;omega
theorem ups_inj (n : Nat) {x y : Nat} (hx : x < 65536) (hy : y < 65536) (h : ups n x = ups n y) : x = y:=by
  induction n with
  | zero => exact h
  | succ n ih => exact ih (up_inj (ups_lt n hx) (ups_lt n hy) h)
theorem crsGo_inj (l : List UInt8) : ∀ {r r' : Nat},r < 65536 → r' < 65536 → crsGo l r = crsGo l r' → r = r':=by
  induction l with
  | nil => exact fun _ _ h => h
  | cons c l ih =>
    intro r r' hr hr' h
    have hc:=c.toNat_lt
    have h1 : byteS r c.toNat = byteS r' c.toNat:=ih (byteS_lt hr hc) (byteS_lt hr' hc) h
    unfold byteS at h1
    have l1 : r ^^^ c.toNat * 256 < 65536:=Nat.xor_lt_two_pow (n:=16) (by omega) (by omega)
    have l2 : r' ^^^ c.toNat * 256 < 65536:=Nat.xor_lt_two_pow (n:=16) (by omega) (by omega)
    exact xor_cancel' (ups_inj 8 l1 l2 h1)
theorem crsN_changed (a c : List UInt8) (b b' : UInt8) (h : crsN (a ++ b :: c) = crsN (a ++ b' :: c)) : b = b':=by
  have h0 : crsGo a 65535 < 65536:=crsGo_lt a (by decide)
  unfold crsN at h
  rw [crsGo_append,crsGo_append] at h
  obtain ⟨r,hr⟩ : ∃ r,crsGo a 65535 = r:=⟨_,rfl⟩
  rw [hr] at h0 h
  have hb:=b.toNat_lt
  have hb':=b'.toNat_lt
  have h2 : byteS r b.toNat = byteS r b'.toNat:=crsGo_inj c (byteS_lt h0 hb) (byteS_lt h0 hb') h
  unfold byteS at h2
  have l1 : r ^^^ b.toNat * 256 < 65536:=Nat.xor_lt_two_pow (n:=16) (by omega) (by omega)
  have l2 : r ^^^ b'.toNat * 256 < 65536:=Nat.xor_lt_two_pow (n:=16) (by omega) (by omega)
  have h4:=xor_cancel (ups_inj 8 l1 l2 h2)
  exact UInt8.toNat.inj (by omega)
def two (x : Nat) : List UInt8:=[UInt8.ofNat (x / 256),UInt8.ofNat x]
theorem two_len (x : Nat) : (two x).length = 2:=rfl
theorem two_inj {x y : Nat} (hx : x < 65536) (hy : y < 65536) (h : two x = two y) : x = y:=by
  unfold two at h
  simp only [List.cons.injEq,and_true] at h
  obtain ⟨h1,h2⟩:=h
  replace h1:=congrArg UInt8.toNat h1
  replace h2:=congrArg UInt8.toNat h2
  simp only [UInt8.toNat_ofNat'] at h1 h2
  omega
def sealS (l : List UInt8) : List UInt8:=l ++ two (crsN l)
theorem sealS_spoilt (p p' : List UInt8) (i : Nat) (v : UInt8) (hi : i < (sealS p).length) (hv : v ≠ (sealS p)[i]) (h : (sealS p).set i v = sealS p') : False:=by
  have hlen : p'.length = p.length:=by
    have:=congrArg List.length h
    simp [sealS,two_len] at this
    omega
  unfold sealS at hi hv h
  by_cases hip : i < p.length
  · rw [List.set_append_left _ _ hip] at h
    obtain ⟨h1,h2⟩:=List.append_inj h (by simp [hlen])
    have h3 : crsN p = crsN p':=two_inj (crsN_lt _) (crsN_lt _) h2
    rw [List.getElem_append_left hip] at hv
    rw [← h1,List.set_eq_take_append_cons_drop,if_pos hip] at h3
    have h4 : p = p.take i ++ p[i] :: p.drop (i + 1):=by simp
    conv at h3 => lhs;rw [h4]
    exact hv (crsN_changed _ _ _ _ h3).symm
  · rw [List.set_append_right _ _ (by omega)] at h
    obtain ⟨h1,h2⟩:=List.append_inj h hlen.symm
    subst h1
    rw [List.getElem_append_right (by omega)] at hv
    have h3 : i - p.length < (two (crsN p)).length:=by rw [List.length_append] at hi;omega
    have h4:=congrArg (fun z => z[i - p.length]?) h2
    simp only [List.getElem?_set_self h3,List.getElem?_eq_getElem h3] at h4
    exact hv (Option.some.inj h4)
abbrev zF : Array Value:=#[.int .i64 0,.int .i64 0,.int .i64 0,.int .u64 0,.int .u64 0,.int .u64 0,.int .u64 0,.int .i64 0,.int .u64 0,.int .i64 0,.int .i64 0,.int .u64 0,.int .i64 0,.int .i64 0,.int .i64 0,.int .i64 0,.int .i64 0,.int .i64 0,.string ⟨#[]⟩]
structure Fr where
  (k fr to_ mi yo a b ino isq iof bno bsq bof bde bpr bbo bli bto : Int)
  da : ByteArray
abbrev frv (f : Fr) : Value:=.agg #[.int .i64 f.k,.int .i64 f.fr,.int .i64 f.to_,.int .u64 f.mi,.int .u64 f.yo,.int .u64 f.a,.int .u64 f.b,.int .i64 f.ino,.int .u64 f.isq,.int .i64 f.iof,.int .i64 f.bno,.int .u64 f.bsq,.int .i64 f.bof,.int .i64 f.bde,.int .i64 f.bpr,.int .i64 f.bbo,.int .i64 f.bli,.int .i64 f.bto,.string f.da]
def noFr : Fr:=⟨0,0,0,0,0,0,0,0,0,0,0,0,0,0,0,0,0,0,⟨#[]⟩⟩
abbrev rngF (f : Fr) : Prop:=1 ≤ f.fr ∧ f.fr ≤ 16 ∧ 1 ≤ f.to_ ∧ f.to_ ≤ 16 ∧ f.to_ ≠ f.fr ∧ 1 ≤ f.mi ∧ f.mi ≤ 1099511627776 ∧ f.yo ≤ 1099511627776 ∧ (f.k ≠ 1 → f.a ≤ 1125899906842624) ∧ (f.k = 3 → f.b ≤ f.a) ∧ (f.k = 4 → f.b ≤ 1125899906842624) ∧ (f.k = 6 → 1 ≤ f.b ∧ f.b ≤ 3)
abbrev clnF (f : Fr) : Prop:=(f.k = 1 → f.a = 0) ∧ ((f.k ≠ 3 ∧ f.k ≠ 4 ∧ f.k ≠ 6) → f.b = 0) ∧ ((f.k ≠ 5 ∧ f.k ≠ 6) → f.ino = 0 ∧ f.isq = 0 ∧ f.iof = 0) ∧
  (f.k ≠ 3 → f.bno = 0 ∧ f.bsq = 0 ∧ f.bof = 0 ∧ f.bde = 0 ∧ f.bpr = 0 ∧ f.bbo = 0 ∧ f.bli = 0 ∧ f.bto = 0 ∧ f.da = ⟨#[]⟩)
def bnF (f : Fr) : Int:=buC f.bno f.bsq f.bof f.bde f.bpr f.bbo f.bli f.bto f.da.size
def bcF (f : Fr) : Int:=if f.k = 3 then bnF f else if f.k = 5 ∨ f.k = 6 then idC f.ino f.isq f.iof else 0
def frC (f : Fr) : Int:=if ¬ (1 ≤ f.k ∧ f.k ≤ 7) then 7 else if ¬ rngF f then 2 else if bcF f ≠ 0 then bcF f else if clnF f then 0 else 3
theorem frC_ok {f : Fr} (h : frC f = 0) : (1 ≤ f.k ∧ f.k ≤ 7) ∧ rngF f ∧ bcF f = 0 ∧ clnF f:=by
  unfold frC at h
  split at h
  · omega
  · rename_i h1
    split at h
    · omega
    · rename_i h2
      split at h
      · rename_i h3;exact absurd h h3
      · rename_i h3
        split at h
        · rename_i h4;exact ⟨by omega,Decidable.of_not_not h2,by omega,h4⟩
        · omega
theorem frC_of {f : Fr} (h1 : 1 ≤ f.k ∧ f.k ≤ 7) (h2 : rngF f) (h3 : bcF f = 0) (h4 : clnF f) : frC f = 0:=by
  unfold frC
  rw [if_neg (not_not_intro h1),if_neg (not_not_intro h2),if_neg (not_not_intro h3),if_pos h4]
def bnL (f : Fr) : List UInt8:=encL f.bno.toNat f.bsq.toNat f.bof.toNat f.bde.toNat f.bpr.toNat f.bbo.toNat f.bli.toNat f.bto.toNat f.da.data.toList
def bodyF (f : Fr) : List UInt8 :=
  UInt8.ofNat f.k.toNat :: (putN f.fr.toNat ++ putN f.to_.toNat ++ putN f.mi.toNat ++ putN f.yo.toNat ++ (if f.k = 1 then [] else putN f.a.toNat) ++ (if f.k = 3 ∨ f.k = 4 ∨ f.k = 6 then putN f.b.toNat else []) ++
    (if f.k = 3 then putTextN (bnL f) else []) ++ (if f.k = 5 ∨ f.k = 6 then putN f.ino.toNat ++ putN f.isq.toNat ++ putN f.iof.toNat else []))
def encF (f : Fr) : List UInt8 × Int:=if frC f = 0 then (sealS (bodyF f),0) else ([],frC f)
def rdN (l : List UInt8) (r : Rs) : Int × Rs :=
  if r.err ≠ 0 then (0,r) else ((getN l r.pos).1,⟨(getN l r.pos).2.1,(getN l r.pos).2.2,if (getN l r.pos).2.2 ≠ 0 then (getN l r.pos).2.1 else r.fat⟩)
def rdU (u : Bool) (l : List UInt8) (r : Rs) : Int × Rs:=if u then rdN l r else (0,r)
def rdB (l : List UInt8) (r : Rs) : Dr × Rs :=
  if r.err ≠ 0 then (.bad 0 0,r)
  else if (getTextN l r.pos 1200).2.2 ≠ 0 then (.bad 0 0,⟨(getTextN l r.pos 1200).2.1,(getTextN l r.pos 1200).2.2,(getTextN l r.pos 1200).2.1⟩)
  else (decL (getTextN l r.pos 1200).1,⟨(getTextN l r.pos 1200).2.1,(decL (getTextN l r.pos 1200).1).err,if (decL (getTextN l r.pos 1200).1).err ≠ 0 then (getTextN l r.pos 1200).2.1 - (getTextN l r.pos 1200).1.length + (decL (getTextN l r.pos 1200).1).fat else r.fat⟩)
def rdV (u : Bool) (l : List UInt8) (r : Rs) : Dr × Rs:=if u then rdB l r else (.bad 0 0,r)
structure Fd where
  f : Fr
  r : Rs
def hasA (k : Int) : Bool:=decide (k ≠ 1)
def hasB (k : Int) : Bool:=decide (k = 3 ∨ k = 4 ∨ k = 6)
def hasD (k : Int) : Bool:=decide (k = 3)
def hasI (k : Int) : Bool:=decide (k = 5 ∨ k = 6)
def readF (sm : Int → Int) (k : Int) (l : List UInt8) : Fd :=
  let x1:=rdN l ⟨1,0,0⟩
  let x2:=rdN l x1.2
  let x3:=rdN l x2.2
  let x4:=rdN l x3.2
  let x5:=rdU (hasA k) l x4.2
  let x6:=rdU (hasB k) l x5.2
  let x7:=rdV (hasD k) l x6.2
  let x8:=rdU (hasI k) l x7.2
  let x9:=rdU (hasI k) l x8.2
  let x10:=rdU (hasI k) l x9.2
  ⟨⟨k,sm x1.1,sm x2.1,x3.1,x4.1,x5.1,x6.1,sm x8.1,x9.1,sm x10.1,x7.1.no,x7.1.sq,x7.1.of,x7.1.de,x7.1.pr,x7.1.bo,x7.1.li,x7.1.to,⟨x7.1.da.toArray⟩⟩,x10.2⟩
def endF (l : List UInt8) (x : Fd) : Fr × Int × Int :=
  if x.r.err ≠ 0 then (noFr,x.r.err,x.r.fat) else if x.r.pos < l.length then (noFr,3,x.r.pos) else if frC x.f ≠ 0 then (noFr,frC x.f,0) else (x.f,0,0)
def decB (sm : Int → Int) : List UInt8 → Fr × Int × Int
  | [] => (noFr,11,0)
  | b :: l => if ¬ (1 ≤ b.toNat ∧ b.toNat ≤ 7) then (noFr,7,0) else endF (b :: l) (readF sm b.toNat (b :: l))
def decFr (sm : Int → Int) (l : List UInt8) : Fr × Int × Int :=
  if 1200 < l.length then (noFr,4,1200) else if l.length < 3 then (noFr,11,l.length)
  else if l.drop (l.length - 2) ≠ two (crsN (l.take (l.length - 2))) then (noFr,10,(l.length : Int) - 2)
  else decB sm (l.take (l.length - 2))
def wrapI (x : Int) : Int:=IntKind.i64.wrap x
end Go.Proofs.YtaiofjffoboicaaDoor
namespace Go.Proofs.YtaiofjffoboicaaDoor
open Go.RowKit
def GoodSm (sm : Int → Int) : Prop:=∀ x,0 ≤ x → x < 18446744073709551616 → (x ≤ 1099511627776 → sm x = x) ∧ (1099511627776 < x → sm x < 0 ∨ 1099511627776 < sm x)
theorem good_wrap : GoodSm wrapI:=fun x h1 h2 => by
  unfold wrapI
  rw [IntKind.wrap_i64]
  omega
def idI (x : Int) : Int:=x
theorem rdN_bd (l : List UInt8) (r : Rs) : 0 ≤ (rdN l r).1 ∧ (rdN l r).1 < 18446744073709551616:=by
  unfold rdN
  have:=(getN_bound l r.pos).1
  split
  · exact ⟨Int.le_refl _,by simp⟩
  · simp only;omega
theorem rdU_bd (u : Bool) (l : List UInt8) (r : Rs) : 0 ≤ (rdU u l r).1 ∧ (rdU u l r).1 < 18446744073709551616:=by
  unfold rdU
  split
  · exact rdN_bd l r
  · exact ⟨Int.le_refl _,by simp⟩
theorem frC_two {f : Fr} (hk : 1 ≤ f.k ∧ f.k ≤ 7) (h : ¬ rngF f ∨ bcF f = 2) : frC f = 2:=by
  unfold frC
  rw [if_neg (not_not_intro hk)]
  by_cases h1 : rngF f
  · rw [if_neg (not_not_intro h1)]
    rcases h with h|h
    · exact absurd h1 h
    · rw [h,if_pos (by decide)]
  · rw [if_pos h1]
theorem frC_sm {sm : Int → Int} (h : GoodSm sm) (k fr to_ mi yo a b ino isq iof bno bsq bof bde bpr bbo bli bto : Int) (da : ByteArray) (hk : 1 ≤ k ∧ k ≤ 7)
    (h1 : 0 ≤ fr ∧ fr < 18446744073709551616) (h2 : 0 ≤ to_ ∧ to_ < 18446744073709551616) (h3 : 0 ≤ ino ∧ ino < 18446744073709551616) (h4 : 0 ≤ iof ∧ iof < 18446744073709551616) (h5 : ¬ (k = 5 ∨ k = 6) → ino = 0 ∧ iof = 0) :
    frC ⟨k,sm fr,sm to_,mi,yo,a,b,sm ino,isq,sm iof,bno,bsq,bof,bde,bpr,bbo,bli,bto,da⟩ = frC ⟨k,fr,to_,mi,yo,a,b,ino,isq,iof,bno,bsq,bof,bde,bpr,bbo,bli,bto,da⟩ ∧
    (frC ⟨k,fr,to_,mi,yo,a,b,ino,isq,iof,bno,bsq,bof,bde,bpr,bbo,bli,bto,da⟩ = 0 → sm fr = fr ∧ sm to_ = to_ ∧ sm ino = ino ∧ sm iof = iof):=by
  have g1:=h fr h1.1 h1.2
  have g2:=h to_ h2.1 h2.2
  have g3:=h ino h3.1 h3.2
  have g4:=h iof h4.1 h4.2
  by_cases c1 : fr ≤ 1099511627776 ∧ to_ ≤ 1099511627776
  · rw [g1.1 c1.1,g2.1 c1.2]
    by_cases c2 : ino ≤ 1099511627776 ∧ iof ≤ 1099511627776
    · rw [g3.1 c2.1,g4.1 c2.2];exact ⟨rfl,fun _ => ⟨rfl,rfl,rfl,rfl⟩⟩
    · have h5' : k = 5 ∨ k = 6:=by
        by_cases c : k = 5 ∨ k = 6
        · exact c
        · have:=h5 c;omega
      have i1 : idC (sm ino) isq (sm iof) = 2:=by unfold idC;rw [if_neg (by omega)]
      have i2 : idC ino isq iof = 2:=by unfold idC;rw [if_neg (by omega)]
      have q1:=frC_two (f:=⟨k,fr,to_,mi,yo,a,b,sm ino,isq,sm iof,bno,bsq,bof,bde,bpr,bbo,bli,bto,da⟩) hk (.inr (by show (if k = 3 then _ else if k = 5 ∨ k = 6 then idC (sm ino) isq (sm iof) else 0) = 2;rw [if_neg (by omega),if_pos h5',i1]))
      have q2:=frC_two (f:=⟨k,fr,to_,mi,yo,a,b,ino,isq,iof,bno,bsq,bof,bde,bpr,bbo,bli,bto,da⟩) hk (.inr (by show (if k = 3 then _ else if k = 5 ∨ k = 6 then idC ino isq iof else 0) = 2;rw [if_neg (by omega),if_pos h5',i2]))
      rw [q1,q2]
      exact ⟨rfl,fun h => by omega⟩
  · have r1 : ¬ rngF ⟨k,sm fr,sm to_,mi,yo,a,b,sm ino,isq,sm iof,bno,bsq,bof,bde,bpr,bbo,bli,bto,da⟩:=by unfold rngF;simp only;omega
    have r2 : ¬ rngF ⟨k,fr,to_,mi,yo,a,b,ino,isq,iof,bno,bsq,bof,bde,bpr,bbo,bli,bto,da⟩:=by unfold rngF;simp only;omega
    rw [frC_two hk (.inl r1),frC_two hk (.inl r2)]
    exact ⟨rfl,fun h => by omega⟩
theorem endF_sm {sm : Int → Int} (h : GoodSm sm) (k : Int) (hk : 1 ≤ k ∧ k ≤ 7) (l : List UInt8) : endF l (readF sm k l) = endF l (readF idI k l):=by
  unfold readF
  simp only
  obtain ⟨x1,e1⟩ : ∃ x,rdN l ⟨1,0,0⟩ = x:=⟨_,rfl⟩
  have b1:=rdN_bd l ⟨1,0,0⟩
  rw [e1] at b1 ⊢
  obtain ⟨x2,e2⟩ : ∃ x,rdN l x1.2 = x:=⟨_,rfl⟩
  have b2:=rdN_bd l x1.2
  rw [e2] at b2 ⊢
  generalize rdN l x2.2 = x3
  generalize rdN l x3.2 = x4
  generalize rdU (hasA k) l x4.2 = x5
  generalize rdU (hasB k) l x5.2 = x6
  generalize rdV (hasD k) l x6.2 = x7
  obtain ⟨x8,e8⟩ : ∃ x,rdU (hasI k) l x7.2 = x:=⟨_,rfl⟩
  have b8:=rdU_bd (hasI k) l x7.2
  rw [e8] at b8 ⊢
  obtain ⟨x9,e9⟩ : ∃ x,rdU (hasI k) l x8.2 = x:=⟨_,rfl⟩
  rw [e9]
  obtain ⟨x10,e10⟩ : ∃ x,rdU (hasI k) l x9.2 = x:=⟨_,rfl⟩
  have b10:=rdU_bd (hasI k) l x9.2
  rw [e10] at b10 ⊢
  obtain ⟨k1,k2⟩:=frC_sm h k x1.1 x2.1 x3.1 x4.1 x5.1 x6.1 x8.1 x9.1 x10.1 x7.1.no x7.1.sq x7.1.of x7.1.de x7.1.pr x7.1.bo x7.1.li x7.1.to ⟨x7.1.da.toArray⟩ hk b1 b2 b8 b10 (fun hn => by
    have hI : hasI k = false:=by unfold hasI;simpa using hn
    rw [hI] at e8 e10
    unfold rdU at e8 e10
    simp only [Bool.false_eq_true,if_false] at e8 e10
    exact ⟨by rw [← e8],by rw [← e10]⟩)
  unfold endF idI
  simp only
  by_cases c1 : x10.2.err ≠ 0
  · rw [if_pos c1,if_pos c1]
  · rw [if_neg c1,if_neg c1]
    by_cases c2 : x10.2.pos < (l.length : Int)
    · rw [if_pos c2,if_pos c2]
    · rw [if_neg c2,if_neg c2,k1]
      by_cases c3 : frC ⟨k,x1.1,x2.1,x3.1,x4.1,x5.1,x6.1,x8.1,x9.1,x10.1,x7.1.no,x7.1.sq,x7.1.of,x7.1.de,x7.1.pr,x7.1.bo,x7.1.li,x7.1.to,⟨x7.1.da.toArray⟩⟩ = 0
      · obtain ⟨q1,q2,q3,q4⟩:=k2 c3
        rw [q1,q2,q3,q4]
      · rw [if_pos c3,if_pos c3]
theorem decB_cons (sm : Int → Int) (b : UInt8) (m : List UInt8) : decB sm (b :: m) = if ¬ (1 ≤ b.toNat ∧ b.toNat ≤ 7) then (noFr,7,0) else endF (b :: m) (readF sm b.toNat (b :: m)):=rfl
theorem decB_sm {sm : Int → Int} (h : GoodSm sm) (l : List UInt8) : decB sm l = decB idI l:=by
  match l with
  | [] => rfl
  | b :: m =>
    rw [decB_cons,decB_cons]
    by_cases hk : 1 ≤ b.toNat ∧ b.toNat ≤ 7
    · rw [if_neg (not_not_intro hk),if_neg (not_not_intro hk)]
      exact endF_sm h b.toNat (by omega) (b :: m)
    · rw [if_pos hk,if_pos hk]
theorem decFr_sm {sm : Int → Int} (h : GoodSm sm) (l : List UInt8) : decFr sm l = decFr idI l:=by
  unfold decFr
  rw [decB_sm h]
theorem rdN_put (l : List UInt8) (q n : Nat) (rest : List UInt8) (h : l.drop q = putN n ++ rest) (hq : q ≤ l.length) (hn2 : n < 18446744073709551616) :
    rdN l ⟨q,0,0⟩ = ((n : Int),⟨((q + (putN n).length : Nat) : Int),0,0⟩) ∧ l.drop (q + (putN n).length) = rest ∧ q + (putN n).length ≤ l.length:=by
  refine ⟨?_,?_,?_⟩
  · have hg : getN l q = (n,q + (putN n).length,0):=by
      unfold getN
      rw [if_neg (by omega),show ((q : Int)).toNat = q by omega,h,getGo_put n rest q hn2]
    unfold rdN
    rw [hg]
    simp
  · rw [← List.drop_drop,h,List.drop_left' rfl]
  · have:=congrArg List.length h
    simp only [List.length_drop,List.length_append] at this
    omega
theorem rdU_put (u : Bool) (l : List UInt8) (q n : Nat) (rest : List UInt8) (h : l.drop q = (if u then putN n else []) ++ rest) (hq : q ≤ l.length) (hn2 : n < 18446744073709551616) :
    ∃ q' : Nat,rdU u l ⟨q,0,0⟩ = (if u then (n : Int) else 0,⟨q',0,0⟩) ∧ l.drop q' = rest ∧ q' ≤ l.length:=by
  cases u
  · exact ⟨q,rfl,by simpa using h,hq⟩
  · obtain ⟨h1,h2,h3⟩:=rdN_put l q n rest (by simpa using h) hq hn2
    exact ⟨_,h1,h2,h3⟩
theorem textM_put (l : List UInt8) (q : Nat) (da rest : List UInt8) (h : l.drop q = putTextN da ++ rest) (hq : q ≤ l.length) (hd : da.length ≤ 1200) :
    getTextN l q 1200 = (da,((q + (putN da.length).length + da.length : Nat) : Int),0) ∧ l.drop (q + (putN da.length).length + da.length) = rest ∧ q + (putN da.length).length + da.length ≤ l.length:=by
  have h1 : l.drop q = putN da.length ++ (da ++ rest):=by rw [h];simp [putTextN]
  have h2:=intN_put l q da.length 1200 (da ++ rest) h1 hq (by omega) (by omega)
  have h3 : l.drop (q + (putN da.length).length) = da ++ rest:=by rw [← List.drop_drop,h1,List.drop_left' rfl]
  have h4:=congrArg List.length h1
  simp only [List.length_drop,List.length_append] at h4
  refine ⟨?_,?_,by omega⟩
  · unfold getTextN
    rw [h2]
    simp only [ne_eq,not_true_eq_false,if_false]
    rw [if_neg (by omega),show (((q + (putN da.length).length : Nat) : Int)).toNat = q + (putN da.length).length by omega,h3,show ((da.length : Int)).toNat = da.length by omega,List.take_left' rfl]
    push_cast
    rfl
  · rw [← List.drop_drop,h3,List.drop_left' rfl]
structure NN (f : Fr) : Prop where
  mi : 0 ≤ f.mi ∧ f.mi < 18446744073709551616
  yo : 0 ≤ f.yo ∧ f.yo < 18446744073709551616
  a : 0 ≤ f.a ∧ f.a < 18446744073709551616
  b : 0 ≤ f.b ∧ f.b < 18446744073709551616
  isq : 0 ≤ f.isq ∧ f.isq < 18446744073709551616
  bsq : 0 ≤ f.bsq ∧ f.bsq < 18446744073709551616
theorem bnF_nat {f : Fr} (h : bnF f = 0) (hn : NN f) : ∃ no sq of de pr bo li to : Nat,f.bno = no ∧ f.bsq = sq ∧ f.bof = of ∧ f.bde = de ∧ f.bpr = pr ∧ f.bbo = bo ∧ f.bli = li ∧ f.bto = to:=nats_of h hn.bsq.1
theorem bnL_bd (f : Fr) (h : bnF f = 0) : 1 ≤ (bnL f).length ∧ (bnL f).length ≤ 1093:=by
  have h1:=(buC_ok h).2.2.2.1
  unfold bnL
  rw [encL_len]
  have h2:=frLen_le f.bno.toNat f.bsq.toNat f.bof.toNat f.bde.toNat f.bpr.toNat f.bbo.toNat f.bli.toNat f.bto.toNat (wholeB f.bof.toNat f.bto.toNat f.da.data.toList.length)
  have h3:=(putN_length f.da.data.toList.length).2
  have h4 : f.da.data.toList.length = f.da.size:=by simp
  unfold szN
  omega
theorem rdV_put (u : Bool) (l : List UInt8) (q : Nat) (f : Fr) (rest : List UInt8) (h : l.drop q = (if u then putTextN (bnL f) else []) ++ rest) (hq : q ≤ l.length) (hv : u = true → bnF f = 0) (hn : NN f) :
    ∃ q' : Nat,rdV u l ⟨q,0,0⟩ = (if u then ⟨f.bno,f.bsq,f.bof,f.bde,f.bpr,f.bbo,f.bli,f.bto,f.da.data.toList,0,0⟩ else .bad 0 0,⟨q',0,0⟩) ∧ l.drop q' = rest ∧ q' ≤ l.length:=by
  cases u
  · exact ⟨q,rfl,by simpa using h,hq⟩
  · have hv':=hv rfl
    have hb:=(bnL_bd f hv').2
    obtain ⟨h1,h2,h3⟩:=textM_put l q (bnL f) rest (by simpa using h) hq (by omega)
    obtain ⟨no,sq,of,de,pr,bo,li,to,e1,e2,e3,e4,e5,e6,e7,e8⟩:=bnF_nat hv' hn
    have hd : decL (bnL f) = ⟨f.bno,f.bsq,f.bof,f.bde,f.bpr,f.bbo,f.bli,f.bto,f.da.data.toList,0,0⟩:=by
      unfold bnL
      unfold bnF at hv'
      rw [e1,e2,e3,e4,e5,e6,e7,e8] at hv' ⊢
      have:=decL_enc no sq of de pr bo li to f.da.data.toList [] (by simpa using hv')
      simpa using this
    refine ⟨_,?_,h2,h3⟩
    unfold rdV rdB
    simp only [if_true,ne_eq,not_true_eq_false,if_false]
    rw [h1]
    simp only [not_true_eq_false,if_false]
    rw [hd]
    simp
theorem ifA (k : Int) (x : List UInt8) : (if k = 1 then [] else x) = if hasA k then x else []:=by unfold hasA;by_cases h : k = 1 <;> simp [h]
theorem ifB (k : Int) (x : List UInt8) : (if k = 3 ∨ k = 4 ∨ k = 6 then x else []) = if hasB k then x else []:=by unfold hasB;by_cases h : k = 3 ∨ k = 4 ∨ k = 6 <;> simp [h]
theorem ifD (k : Int) (x : List UInt8) : (if k = 3 then x else []) = if hasD k then x else []:=by unfold hasD;by_cases h : k = 3 <;> simp [h]
theorem ifI (k : Int) (x y z : List UInt8) : (if k = 5 ∨ k = 6 then x ++ y ++ z else []) = (if hasI k then x else []) ++ ((if hasI k then y else []) ++ (if hasI k then z else [])):=by unfold hasI;by_cases h : k = 5 ∨ k = 6 <;> simp [h]
theorem bodyF_eq (f : Fr) : bodyF f = UInt8.ofNat f.k.toNat :: (putN f.fr.toNat ++ (putN f.to_.toNat ++ (putN f.mi.toNat ++ (putN f.yo.toNat ++ ((if hasA f.k then putN f.a.toNat else []) ++ ((if hasB f.k then putN f.b.toNat else []) ++
    ((if hasD f.k then putTextN (bnL f) else []) ++ ((if hasI f.k then putN f.ino.toNat else []) ++ ((if hasI f.k then putN f.isq.toNat else []) ++ ((if hasI f.k then putN f.iof.toNat else []) ++ [])))))))))):=by
  unfold bodyF
  rw [ifA,ifB,ifD,ifI]
  simp only [List.append_assoc,List.append_nil]
theorem decB_body (f : Fr) (h : frC f = 0) (hn : NN f) : decB idI (bodyF f) = (f,0,0):=by
  obtain ⟨hk,⟨r1,r2,r3,r4,r5,r6,r7,r8,r9,r10,r11,r12⟩,hb,c1,c2,c3,c4⟩:=frC_ok h
  have hI : hasI f.k = true → okI f.ino f.isq f.iof:=fun hi => by
    have hi' : f.k = 5 ∨ f.k = 6:=by simpa [hasI] using hi
    unfold bcF at hb
    rw [if_neg (by omega),if_pos hi'] at hb
    rcases idC_cases f.ino f.isq f.iof with x|x
    · exact x.2
    · omega
  have hI0 : hasI f.k = false → f.ino = 0 ∧ f.isq = 0 ∧ f.iof = 0:=fun hi => c3 (by simpa [hasI] using hi)
  have hD : hasD f.k = true → bnF f = 0:=fun hi => by
    have hi' : f.k = 3:=by simpa [hasD] using hi
    unfold bcF at hb
    rwa [if_pos hi'] at hb
  have e:=bodyF_eq f
  obtain ⟨l,hl⟩ : ∃ l,bodyF f = l:=⟨_,rfl⟩
  rw [hl] at e ⊢
  have d0 : l.drop 1 = _:=congrArg (List.drop 1) e
  simp only [List.drop_succ_cons,List.drop_zero] at d0
  have n1:=hn.mi;have n2:=hn.yo;have n3:=hn.a;have n4:=hn.b;have n5:=hn.isq
  obtain ⟨a1,b1,g1⟩:=rdN_put l 1 f.fr.toNat _ d0 (by rw [e];simp) (by omega)
  obtain ⟨a2,b2,g2⟩:=rdN_put l _ f.to_.toNat _ b1 g1 (by omega)
  obtain ⟨a3,b3,g3⟩:=rdN_put l _ f.mi.toNat _ b2 g2 (by omega)
  obtain ⟨a4,b4,g4⟩:=rdN_put l _ f.yo.toNat _ b3 g3 (by omega)
  obtain ⟨q5,a5,b5,g5⟩:=rdU_put (hasA f.k) l _ f.a.toNat _ b4 g4 (by omega)
  obtain ⟨q6,a6,b6,g6⟩:=rdU_put (hasB f.k) l _ f.b.toNat _ b5 g5 (by omega)
  obtain ⟨q7,a7,b7,g7⟩:=rdV_put (hasD f.k) l _ f _ b6 g6 hD hn
  obtain ⟨q8,a8,b8,g8⟩:=rdU_put (hasI f.k) l _ f.ino.toNat _ b7 g7 (by by_cases hi : hasI f.k = true;(have:=hI hi;unfold okI at this;omega);(have:=hI0 (by simpa using hi);omega))
  obtain ⟨q9,a9,b9,g9⟩:=rdU_put (hasI f.k) l _ f.isq.toNat _ b8 g8 (by omega)
  obtain ⟨q10,a10,b10,g10⟩:=rdU_put (hasI f.k) l _ f.iof.toNat _ b9 g9 (by by_cases hi : hasI f.k = true;(have:=hI hi;unfold okI at this;omega);(have:=hI0 (by simpa using hi);omega))
  have hq : q10 = l.length:=by
    have:=congrArg List.length b10
    simp only [List.length_drop,List.length_nil] at this
    omega
  have hkb : (UInt8.ofNat f.k.toNat).toNat = f.k.toNat:=by rw [UInt8.toNat_ofNat'];omega
  have hki : ((UInt8.ofNat f.k.toNat).toNat : Int) = f.k:=by rw [hkb];omega
  have hdec : decB idI l = endF l (readF idI f.k l):=by
    rw [e]
    rw [decB_cons,hkb,if_neg (by omega),show ((f.k.toNat : Nat) : Int) = f.k by omega]
  rw [hdec]
  have hA : (if hasA f.k = true then (f.a.toNat : Int) else 0) = f.a:=by
    by_cases hi : f.k = 1
    · rw [c1 hi];unfold hasA;simp [hi]
    · unfold hasA;simp [hi];omega
  have hB : (if hasB f.k = true then (f.b.toNat : Int) else 0) = f.b:=by
    by_cases hi : f.k = 3 ∨ f.k = 4 ∨ f.k = 6
    · unfold hasB;simp only [hi,decide_true,if_true];omega
    · rw [c2 (by omega)];unfold hasB;simp
  have hN : ∀ x : Int,(hasI f.k = true → 0 ≤ x) → (hasI f.k = false → x = 0) → (if hasI f.k = true then (x.toNat : Int) else 0) = x:=fun x u v => by
    by_cases hi : hasI f.k = true
    · rw [if_pos hi];have:=u hi;omega
    · rw [if_neg hi,v (by simpa using hi)]
  have hfin : readF idI f.k l = ⟨f,⟨q10,0,0⟩⟩:=by
    unfold readF
    simp only
    rw [show (⟨1,0,0⟩ : Rs) = ⟨((1 : Nat) : Int),0,0⟩ from rfl,a1]
    simp only
    rw [a2]
    simp only
    rw [a3]
    simp only
    rw [a4]
    simp only
    rw [a5]
    simp only
    rw [a6]
    simp only
    rw [a7]
    simp only
    rw [a8]
    simp only
    rw [a9]
    simp only
    rw [a10]
    simp only
    rw [hA,hB,hN f.ino (fun hi => by have:=hI hi;unfold okI at this;omega) (fun hi => (hI0 hi).1),hN f.isq (fun hi => n5.1) (fun hi => (hI0 hi).2.1),hN f.iof (fun hi => by have:=hI hi;unfold okI at this;omega) (fun hi => (hI0 hi).2.2)]
    unfold idI
    rw [show ((f.fr.toNat : Nat) : Int) = f.fr by omega,show ((f.to_.toNat : Nat) : Int) = f.to_ by omega,show ((f.mi.toNat : Nat) : Int) = f.mi by omega,show ((f.yo.toNat : Nat) : Int) = f.yo by omega]
    by_cases hi : hasD f.k = true
    · rw [if_pos hi]
    · rw [if_neg hi]
      have hk3 : f.k ≠ 3:=by simpa [hasD] using hi
      obtain ⟨z1,z2,z3,z4,z5,z6,z7,z8,z9⟩:=c4 hk3
      obtain ⟨k,fr,to_,mi,yo,a,b,ino,isq,iof,bno,bsq,bof,bde,bpr,bbo,bli,bto,da⟩:=f
      simp only at z1 z2 z3 z4 z5 z6 z7 z8 z9
      subst z1;subst z2;subst z3;subst z4;subst z5;subst z6;subst z7;subst z8;subst z9
      rfl
  rw [hfin]
  unfold endF
  simp only [ne_eq,not_true_eq_false,if_false]
  rw [if_neg (by omega),if_neg (by rw [h];simp)]
theorem getN_only (l : List UInt8) (q : Int) (n p : Nat) (h : getN l q = (n,p,0)) :
    ∃ j : Nat,q = (j : Int) ∧ p = j + (putN n).length ∧ j + (putN n).length ≤ l.length ∧ l.drop j = putN n ++ l.drop (j + (putN n).length):=by
  have h1 : intN l q 18446744073709551615 = ((n : Int),(p : Int),0):=by
    have hb:=(getN_bound l q).1
    rw [h] at hb
    unfold intN
    rw [h,if_neg (by simp),if_neg (by simp only;simp only at hb;omega)]
  obtain ⟨k,j,e1,e2,e3,e4,e5,e6⟩:=intN_only l q 18446744073709551615 n p h1
  obtain rfl : n = k:=by omega
  exact ⟨j,e2,by omega,e4,e6⟩
theorem rdN_only (l : List UInt8) (r r' : Rs) (n : Int) (h : rdN l r = (n,r')) (he : r'.err = 0) :
    r.err = 0 ∧ r'.fat = r.fat ∧ ∃ k j : Nat,n = (k : Int) ∧ k < 18446744073709551616 ∧ r.pos = (j : Int) ∧ r'.pos = ((j + (putN k).length : Nat) : Int) ∧ j + (putN k).length ≤ l.length ∧ l.drop j = putN k ++ l.drop (j + (putN k).length):=by
  unfold rdN at h
  split at h
  · rename_i h0
    simp only [Prod.mk.injEq] at h
    obtain ⟨_,rfl⟩:=h
    exact absurd he h0
  · rename_i h0
    simp only [Prod.mk.injEq] at h
    obtain ⟨rfl,rfl⟩:=h
    simp only at he
    have he' : (getN l r.pos).2.2 = 0:=by omega
    obtain ⟨j,e1,e2,e3,e4⟩:=getN_only l r.pos (getN l r.pos).1 (getN l r.pos).2.1 (by rw [← he'])
    exact ⟨by simpa using h0,by simp [he'],_,j,rfl,(getN_bound l r.pos).1,e1,by simp only;omega,e3,e4⟩
theorem rdN_pos (l : List UInt8) (r : Rs) (h : (rdN l r).2.err = 0) : ∃ i : Nat,(rdN l r).2.pos = (i : Int) ∧ i ≤ l.length:=by
  obtain ⟨_,_,k,j,_,_,_,h1,h2,_⟩:=rdN_only l r (rdN l r).2 (rdN l r).1 rfl h
  exact ⟨_,h1,h2⟩
theorem rdU_pos (u : Bool) (l : List UInt8) (r : Rs) (hr : r.err = 0 → ∃ i : Nat,r.pos = (i : Int) ∧ i ≤ l.length) (h : (rdU u l r).2.err = 0) : ∃ i : Nat,(rdU u l r).2.pos = (i : Int) ∧ i ≤ l.length:=by
  cases u
  · exact hr h
  · exact rdN_pos l r h
theorem bodyF_len (f : Fr) (h : frC f = 0) : 5 ≤ (bodyF f).length ∧ (bodyF f).length ≤ 1180:=by
  obtain ⟨hk,_,hb,_⟩:=frC_ok h
  have a1:=putN_length f.fr.toNat
  have a2:=putN_length f.to_.toNat
  have a3:=putN_length f.mi.toNat
  have a4:=putN_length f.yo.toNat
  have a5:=putN_length f.a.toNat
  have a6:=putN_length f.b.toNat
  have a7:=putN_length f.ino.toNat
  have a8:=putN_length f.isq.toNat
  have a9:=putN_length f.iof.toNat
  unfold bodyF
  by_cases h3 : f.k = 3
  · have hv : bnF f = 0:=by unfold bcF at hb;rwa [if_pos h3] at hb
    have b1:=bnL_bd f hv
    have b2:=putN_length (bnL f).length
    rw [if_neg (by omega),if_pos (by omega),if_pos h3,if_neg (by omega)]
    simp [putTextN]
    omega
  · rw [if_neg h3]
    by_cases h1 : f.k = 1
    · rw [if_pos h1,if_neg (by omega),if_neg (by omega)];simp;omega
    · rw [if_neg h1]
      by_cases hb : f.k = 3 ∨ f.k = 4 ∨ f.k = 6
      · rw [if_pos hb]
        by_cases hi : f.k = 5 ∨ f.k = 6
        · rw [if_pos hi];simp;omega
        · rw [if_neg hi];simp;omega
      · rw [if_neg hb]
        by_cases hi : f.k = 5 ∨ f.k = 6
        · rw [if_pos hi];simp;omega
        · rw [if_neg hi];simp;omega
theorem sealS_len (p : List UInt8) : (sealS p).length = p.length + 2:=by simp [sealS,two_len]
theorem decFr_seal (sm : Int → Int) (p : List UInt8) (h1 : 1 ≤ p.length) (h2 : p.length ≤ 1198) : decFr sm (sealS p) = decB sm p:=by
  unfold decFr
  rw [sealS_len,if_neg (by omega),if_neg (by omega),show p.length + 2 - 2 = p.length by omega]
  unfold sealS
  rw [List.take_left' rfl,List.drop_left' rfl,if_neg (by simp)]
theorem decFr_enc (f : Fr) (h : frC f = 0) (hn : NN f) : decFr idI (sealS (bodyF f)) = (f,0,0):=by
  have hl:=bodyF_len f h
  rw [decFr_seal idI (bodyF f) (by omega) (by omega),decB_body f h hn]
theorem decFr_sealed (sm : Int → Int) (l : List UInt8) (h : (decFr sm l).2.1 = 0) : ∃ p,l = sealS p ∧ decFr sm l = decB sm p:=by
  unfold decFr at h ⊢
  split at h
  · simp at h
  · rename_i h1
    split at h
    · simp at h
    · rename_i h2
      split at h
      · simp at h
      · rename_i h3
        rw [if_neg h1,if_neg h2,if_neg h3]
        refine ⟨l.take (l.length - 2),?_,rfl⟩
        unfold sealS
        have h4 : l.drop (l.length - 2) = two (crsN (l.take (l.length - 2))):=by simpa using h3
        rw [← h4,List.take_append_drop]
theorem endF_err (l : List UInt8) (x : Fd) (h : (endF l x).2.1 ≠ 0) : (endF l x).1 = noFr:=by
  unfold endF at h ⊢
  split
  · rfl
  · rename_i h1
    split
    · rfl
    · rename_i h2
      split
      · rfl
      · rename_i h3;rw [if_neg h1,if_neg h2,if_neg h3] at h;exact absurd rfl h
theorem decFr_err (sm : Int → Int) (l : List UInt8) (h : (decFr sm l).2.1 ≠ 0) : (decFr sm l).1 = noFr:=by
  unfold decFr at h ⊢
  split
  · rfl
  · rename_i h1
    split
    · rfl
    · rename_i h2
      split
      · rfl
      · rename_i h3
        rw [if_neg h1,if_neg h2,if_neg h3] at h
        revert h
        generalize l.take (l.length - 2) = m
        intro h
        match m,h with
        | [],_ => rfl
        | b :: m,h =>
          rw [decB_cons] at h ⊢
          split
          · rfl
          · rename_i h4;rw [if_neg h4] at h;exact endF_err _ _ h
theorem decFr_spoilt (sm : Int → Int) (p : List UInt8) (i : Nat) (v : UInt8) (hi : i < (sealS p).length) (hv : v ≠ (sealS p)[i]) : (decFr sm ((sealS p).set i v)).2.1 ≠ 0:=fun h => by
  obtain ⟨p',hp,_⟩:=decFr_sealed sm _ h
  exact sealS_spoilt p p' i v hi hv hp
end Go.Proofs.YtaiofjffoboicaaDoor
namespace Go.Proofs.YtaiofjffoboicaaDoor
open Go.RowKit
theorem intN_pos (l : List UInt8) (q m : Int) (hq : 0 ≤ q ∧ q ≤ l.length) : 0 ≤ (intN l q m).2.1 ∧ (intN l q m).2.1 ≤ l.length:=by
  unfold intN
  have:=(getN_bound l q).2
  split
  · simp only;omega
  · split
    · exact hq
    · simp only;omega
theorem textN_pos (l : List UInt8) (q m : Int) (hq : 0 ≤ q ∧ q ≤ l.length) : 0 ≤ (getTextN l q m).2.1 ∧ (getTextN l q m).2.1 ≤ l.length ∧ ((getTextN l q m).1.length : Int) ≤ (getTextN l q m).2.1:=by
  have hp:=intN_pos l q m hq
  unfold getTextN
  split
  · exact ⟨hp.1,hp.2,by simpa using hp.1⟩
  · rename_i h1
    split
    · exact ⟨hp.1,hp.2,by simpa using hp.1⟩
    · rename_i h2
      have h3:=intN_ok l q m (intN l q m).1 (intN l q m).2.1 (by have : (intN l q m).2.2 = 0:=(by simpa using h1);rw [← this])
      simp only
      refine ⟨by omega,by omega,?_⟩
      rw [List.length_take]
      omega
def RsOk (l : List UInt8) (r : Rs) : Prop:=(0 ≤ r.pos ∧ r.pos ≤ l.length) ∧ 0 ≤ r.fat ∧ r.fat ≤ l.length
theorem rdI_okB (l : List UInt8) (m : Int) (r : Rs) (h : RsOk l r) : RsOk l (rdI l m r).2:=by
  unfold rdI
  have hp:=intN_pos l r.pos m h.1
  split
  · exact h
  · refine ⟨hp,?_⟩
    simp only
    split
    · exact hp
    · exact h.2
theorem startR_okB (l : List UInt8) : RsOk l (startR l).2.2:=by
  match l with
  | [] => exact ⟨⟨Int.le_refl _,by simp [startR]⟩,Int.le_refl _,by simp [startR]⟩
  | b :: r =>
    rw [startR]
    split
    · exact ⟨⟨by simp,by simp;omega⟩,by simp,by simp;omega⟩
    · exact ⟨⟨by simp,by simp;omega⟩,by simp,by simp;omega⟩
theorem fieldsR_okB (l : List UInt8) (fu : Bool) (r : Rs) (h : RsOk l r) : RsOk l (fieldsR l fu r).r:=by
  unfold fieldsR
  simp only
  have h1:=rdI_okB l 16 r h
  have h2:=rdI_okB l 1099511627776 _ h1
  have h3:=rdI_okB l 16 _ h2
  have h4:=rdI_okB l 1099511627776 _ h3
  have h5:=rdI_okB l 1048576 _ h4
  cases fu
  · exact rdI_okB l 20000 _ (rdI_okB l 20000 _ h5)
  · exact h5
theorem bad_fat (e a : Int) : (Dr.bad e a).fat = a:=rfl
theorem decL_fat (l : List UInt8) : 0 ≤ (decL l).fat ∧ (decL l).fat ≤ l.length:=by
  unfold decL
  have h:=fieldsR_okB l (startR l).2.1 (startR l).2.2 (startR_okB l)
  obtain ⟨f,hf⟩ : ∃ f,fieldsR l (startR l).2.1 (startR l).2.2 = f:=⟨_,rfl⟩
  rw [hf] at h ⊢
  unfold decF
  have ht:=textN_pos l f.r.pos 1000 h.1
  obtain ⟨t,htt⟩ : ∃ t,getTextN l f.r.pos 1000 = t:=⟨_,rfl⟩
  rw [htt] at ht ⊢
  split
  · exact h.2
  · unfold decT
    generalize (if (startR l).2.1 = true then (t.1.length : Int) else f.to) = tt
    split
    · rw [bad_fat];exact ⟨ht.1,ht.2.1⟩
    · split
      · rw [bad_fat];omega
      · split
        · rw [bad_fat];exact ⟨ht.1,ht.2.1⟩
        · split
          · rw [bad_fat];omega
          · split
            · rw [bad_fat];omega
            · split
              · rw [bad_fat];omega
              · simp only;omega
end Go.Proofs.YtaiofjffoboicaaDoor
namespace Go.Proofs.YtaiofjffoboicaaDoor
open Go.RowKit
def fdcV (x : Fr × Int × Int) : Value:=.tuple #[frv x.1,.agg #[.int .i64 x.2.1,.int .i64 x.2.2]]
theorem textN_le (l : List UInt8) (q m : Int) : (getTextN l q m).1.length ≤ l.length:=by
  unfold getTextN
  split
  · simp
  · split
    · simp
    · simp only [List.length_take,List.length_drop];omega
theorem decL_da (l : List UInt8) : (decL l).da.length ≤ l.length:=by
  unfold decL decF
  split
  · exact Nat.zero_le _
  · unfold decT
    generalize (if (startR l).2.1 = true then ((getTextN l (fieldsR l (startR l).2.1 (startR l).2.2).r.pos 1000).1.length : Int) else (fieldsR l (startR l).2.1 (startR l).2.2).to) = tt
    split
    · exact Nat.zero_le _
    · split
      · exact Nat.zero_le _
      · split
        · exact Nat.zero_le _
        · split
          · exact Nat.zero_le _
          · split
            · exact Nat.zero_le _
            · split
              · exact Nat.zero_le _
              · exact textN_le _ _ _
theorem rdV_da (u : Bool) (l : List UInt8) (r : Rs) : (rdV u l r).1.da.length ≤ l.length:=by
  unfold rdV
  split
  · unfold rdB
    split
    · exact Nat.zero_le _
    · split
      · exact Nat.zero_le _
      · exact Nat.le_trans (decL_da _) (textN_le _ _ _)
  · exact Nat.zero_le _
theorem readF_eq {k : Int} {l : List UInt8} {A Bb D I : Bool} (hA : hasA k = A) (hB : hasB k = Bb) (hD : hasD k = D) (hI : hasI k = I)
    {v5 v6 v7 v8 v9 v10 v12 v13 v14 : Int} {v11 : Dr} {r5 r6 r7 r8 r9 r10 r11 r12 r13 r14 : Rs}
    (h5 : rdU true l ⟨1,0,0⟩ = (v5,r5)) (h6 : rdU true l r5 = (v6,r6)) (h7 : rdU true l r6 = (v7,r7)) (h8 : rdU true l r7 = (v8,r8)) (h9 : rdU A l r8 = (v9,r9)) (h10 : rdU Bb l r9 = (v10,r10))
    (h11 : rdV D l r10 = (v11,r11)) (h12 : rdU I l r11 = (v12,r12)) (h13 : rdU I l r12 = (v13,r13)) (h14 : rdU I l r13 = (v14,r14)) :
    readF wrapI k l = ⟨⟨k,wrapI v5,wrapI v6,v7,v8,v9,v10,wrapI v12,v13,wrapI v14,v11.no,v11.sq,v11.of,v11.de,v11.pr,v11.bo,v11.li,v11.to,⟨v11.da.toArray⟩⟩,r14⟩:=by
  subst hA hB hD hI
  replace h5 : rdN l ⟨1,0,0⟩ = (v5,r5):=h5
  replace h6 : rdN l r5 = (v6,r6):=h6
  replace h7 : rdN l r6 = (v7,r7):=h7
  replace h8 : rdN l r7 = (v8,r8):=h8
  unfold readF
  simp only [h5,h6,h7,h8,h9,h10,h11,h12,h13,h14]
theorem endF_fail (l : List UInt8) (F : Fr) (p e a : Int) (h : (failC (if p < l.length then failC e a 3 p else (e,a)).1 (if p < l.length then failC e a 3 p else (e,a)).2 (frC F) 0).1 ≠ 0) :
    endF l ⟨F,⟨p,e,a⟩⟩ = (noFr,(failC (if p < l.length then failC e a 3 p else (e,a)).1 (if p < l.length then failC e a 3 p else (e,a)).2 (frC F) 0)):=by
  unfold endF
  simp only
  by_cases he : e = 0
  · subst he
    rw [if_neg (by simp)]
    by_cases hp : p < l.length
    · simp [hp,failC]
    · simp only [hp,if_false] at h ⊢
      by_cases hc : frC F = 0
      · simp [hc,failC] at h
      · simp [hc,failC]
  · rw [if_pos he]
    by_cases hp : p < l.length
    · simp [hp,failC,he]
    · simp [hp,failC,he]
theorem endF_none (l : List UInt8) (F : Fr) (p e a : Int) (h : (failC (if p < l.length then failC e a 3 p else (e,a)).1 (if p < l.length then failC e a 3 p else (e,a)).2 (frC F) 0).1 = 0) :
    endF l ⟨F,⟨p,e,a⟩⟩ = (F,0,0):=by
  unfold endF
  simp only
  by_cases he : e = 0
  · subst he
    rw [if_neg (by simp)]
    by_cases hp : p < l.length
    · simp [hp,failC] at h
    · simp only [hp,if_false] at h ⊢
      by_cases hc : frC F = 0
      · simp [hc]
      · simp [hc,failC] at h
  · by_cases hp : p < l.length
    · simp [hp,failC,he] at h
    · simp [hp,failC,he] at h
end Go.Proofs.YtaiofjffoboicaaDoor
