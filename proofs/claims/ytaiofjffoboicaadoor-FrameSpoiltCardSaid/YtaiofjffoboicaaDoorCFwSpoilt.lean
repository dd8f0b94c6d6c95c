/- Parts of a proof, printed by a program of mine out of my texts: FwSpoilt. -/
import Derived.Laws.BitsAllLaws
import Derived.OpenShut
import Derived.Deep.Cut
import Derived.Test.YtaiofjffoboicaaDoorCEq
import Derived.Test.YtaiofjffoboicaaDoorCFrAwake
import Derived.Test.YtaiofjffoboicaaDoorCFwBits
import Derived.Test.YtaiofjffoboicaaDoorCFwKit
import Derived.Test.YtaiofjffoboicaaDoorCFx
import Derived.Test.YtaiofjffoboicaaDoorCMad
set_option linter.unusedSimpArgs false
set_option linter.unusedVariables false
namespace Go.Proofs.YtaiofjffoboicaaDoor
open Go.RowKit
theorem below_setRow {B b : Nat} {w0 w : World} (k : Below B w0 w) (hb : B ≤ b) (cs : Array Value) : Below B w0 (w.setRow b cs) :=
  ⟨k.os,k.tape,k.output,by rw [setRow_size];exact k.size,fun i hi => by rw [setRow_other w b i cs (by omega)];exact k.block i hi⟩
set_option maxRecDepth 100000 in
set_option maxHeartbeats 1600000 in
theorem frameSpoilt_in (F : Fr) (hok : frC F = 0) (hn : NN F) (S : ByteArray) (hSl : S.data.toList = sealS (bodyF F)) (hs1 : 1 ≤ S.size) (hs2 : S.size ≤ 1182) (bit : Int) :
    ∃ (q r : Nat) (v : UInt8) (e a : Int) (T : ByteArray) (hq : q < S.size),bit % (8 * (S.size : Int)) = 8 * q + r ∧ r < 8 ∧ v.toNat = S[q].toNat ^^^ 2 ^ r ∧ S.extract 0 q ++ ⟨#[v]⟩ ++ S.extract (q + 1) S.size = T ∧ (e != 0) = true ∧
      ∀ w,HTab w → STab w → Calls Tryd.prog 11 #[.string T] w fun e' w' => e' = .returned (.tuple #[.agg #[.int .i64 0,.int .i64 0,.int .i64 0,.int .u64 0,.int .u64 0,.int .u64 0,.int .u64 0,.int .i64 0,.int .u64 0,.int .i64 0,.int .i64 0,.int .u64 0,.int .i64 0,.int .i64 0,.int .i64 0,.int .i64 0,.int .i64 0,.int .i64 0,.string ⟨#[]⟩],.agg #[.int .i64 e,.int .i64 a]]) ∧ Below w.heap.size w w':=by
  have h0:=Int.emod_nonneg bit (show (8 * (S.size : Int)) ≠ 0 by omega)
  have h1:=Int.emod_lt_of_pos bit (show (0 : Int) < 8 * (S.size : Int) by omega)
  obtain ⟨K,hK⟩ : ∃ K,bit % (8 * (S.size : Int)) = K:=⟨_,rfl⟩
  rw [hK] at h0 h1 ⊢
  obtain ⟨k,rfl⟩ : ∃ k : Nat,K = k:=⟨K.toNat,by omega⟩
  have hq : k / 8 < S.size:=by omega
  have hql : k / 8 < S.data.toList.length:=by simp;omega
  obtain ⟨v,hv,hvn⟩:=u8_bit S[k / 8] (k % 8) (by omega)
  have hT : (S.extract 0 (k / 8) ++ ⟨#[v]⟩ ++ S.extract (k / 8 + 1) S.size).data.toList = S.data.toList.set (k / 8) v:=by
    rw [List.set_eq_take_append_cons_drop,if_pos hql]
    have hl : S.data.toList.length = S.size:=by simp
    have e2 : (S.extract (k / 8 + 1) S.size).data.toList = S.data.toList.drop (k / 8 + 1):=by
      rw [Lib.extract_data,List.take_of_length_le (by rw [List.length_drop];omega)]
    have e1 : (S.extract 0 (k / 8)).data.toList = S.data.toList.take (k / 8):=by simp
    rw [ByteArray.data_append,ByteArray.data_append,Array.toList_append,Array.toList_append,e1,e2]
    simp
  have hbad : (decFr wrapI (S.data.toList.set (k / 8) v)).2.1 ≠ 0:=by
    have hx : k / 8 < (sealS (bodyF F)).length:=by rw [← hSl];exact hql
    have hy : v ≠ (sealS (bodyF F))[k / 8]:=by
      have : (sealS (bodyF F))[k / 8] = S[k / 8]:=by
        have h2 : S.data.toList[k / 8]? = (sealS (bodyF F))[k / 8]?:=by rw [hSl]
        rw [List.getElem?_eq_getElem hql,List.getElem?_eq_getElem hx] at h2
        have h3:=Option.some.inj h2
        rw [← h3]
        rfl
      rw [this]
      exact hvn
    rw [hSl]
    exact decFr_spoilt wrapI (bodyF F) (k / 8) v hx hy
  obtain ⟨⟨G,e,a⟩,hG⟩ : ∃ x,decFr wrapI (S.data.toList.set (k / 8) v) = x:=⟨_,rfl⟩
  have hz:=decFr_err wrapI _ hbad
  rw [hG] at hbad hz
  simp only at hbad hz
  subst hz
  refine ⟨k / 8,k % 8,v,e,a,_,hq,by omega,by omega,hv,rfl,by simp [hbad],fun w hH hT' => ?_⟩
  have hts : (S.extract 0 (k / 8) ++ ⟨#[v]⟩ ++ S.extract (k / 8 + 1) S.size).size ≤ maxLen:=by
    have:=congrArg List.length hT
    simp only [List.length_set,Array.length_toList] at this
    have h5 : (S.extract 0 (k / 8) ++ ⟨#[v]⟩ ++ S.extract (k / 8 + 1) S.size).size = (S.extract 0 (k / 8) ++ ⟨#[v]⟩ ++ S.extract (k / 8 + 1) S.size).data.size:=rfl
    have h6 : S.size = S.data.size:=rfl
    unfold maxLen
    omega
  have:=fdec_any _ hts w hH hT'
  rw [hT,hG] at this
  exact this
set_option maxRecDepth 100000 in
set_option maxHeartbeats 40000000 in
theorem frameSpoilt_at (n bit : Int) (w : World) (hH : HTab w) (hT : STab w) :
    Calls Tryd.prog 5 #[.int .i64 n,.int .i64 bit] w fun e w' => e = .returned (.bool true) ∧ Below w.heap.size w w':=by
  have HH:=Lib.hid hH;have HT:=Lib.hid hT;clear hH hT
  have ga:=Lib.hid awake_any
  go_enter Tryd.func5,Tryd.ntmps5
  go_wp2_with fail
  (with_reducible refine (made_any _ _).mono ?_)
  rintro e w1 ⟨F,hok,hn,rfl,b1⟩
  have hda : F.da.size ≤ maxLen:=da_of hok
  have hen : encF F = (sealS (bodyF F),0):=by unfold encF;rw [if_pos hok]
  have hlen:=encF_len F
  rw [hen] at hlen
  simp only at hlen
  have hlo:=(bodyF_len F hok).1
  obtain ⟨S,hS⟩ : ∃ S : ByteArray,(⟨(sealS (bodyF F)).toArray⟩ : ByteArray) = S:=⟨_,rfl⟩
  have hSl : S.data.toList = sealS (bodyF F):=by rw [← hS]
  have hSz : S.size = (sealS (bodyF F)).length:=by rw [← hS];exact bsize _
  have hS1 : 1 ≤ S.size:=by rw [hSz,sealS_len];omega
  have hS2 : S.size ≤ 1182:=by omega
  have ge : ∀ w,HTab w → STab w → Calls Tryd.prog 13 #[.agg #[.int .i64 F.k,.int .i64 F.fr,.int .i64 F.to_,.int .u64 F.mi,.int .u64 F.yo,.int .u64 F.a,.int .u64 F.b,.int .i64 F.ino,.int .u64 F.isq,.int .i64 F.iof,.int .i64 F.bno,.int .u64 F.bsq,.int .i64 F.bof,.int .i64 F.bde,.int .i64 F.bpr,.int .i64 F.bbo,.int .i64 F.bli,.int .i64 F.bto,.string F.da]] w fun e w' => e = .returned (.tuple #[.string S,.int .i64 0]) ∧ Below w.heap.size w w':=fun w h t => by
    have:=fencode_any F hda hn w h t
    unfold encV at this
    rw [hen] at this
    unfold bstr at this
    simp only [hS] at this
    exact this
  obtain ⟨q,r,v,e,a,T,hq,hmod,hr,hv,hT2,he,gd⟩:=frameSpoilt_in F hok hn S hSl hS1 hS2 bit
  have gm : ∀ w,Calls Tryd.prog 15 #[.int .i64 bit,.int .i64 (8 * (S.size : Int))] w fun e w' => e = .returned (.int .i64 (8 * q + r)) ∧ w = w':=fun w => by
    have:=mod_any bit (8 * S.size) w (by omega) (by omega)
    rwa [hmod] at this
  obtain ⟨K,hK⟩ : ∃ K : Int,K = 8 * q + r:=⟨_,rfl⟩
  rw [← hK] at gm
  have k1 : K.tdiv 8 = q:=by rw [hK,Int.tdiv_eq_ediv_of_nonneg (by omega)];omega
  have k2 : K.tmod 8 = r:=by rw [hK,Int.tmod_eq_emod_of_nonneg (by omega)];omega
  have tz : ((S.size : Int) == 0) = false:=by rw [beq_eq_false_iff_ne];omega
  have f1 : (0 : Int) ≤ q:=by omega
  have f2 : (q : Int) ≤ S.size:=by omega
  have f3 : (q : Int) < S.size:=by omega
  have f4 : (q : Int) + 1 ≤ S.size:=by omega
  have f5 : (0 : Int) ≤ (q : Int) + 1:=by omega
  have f6 : (0 : Int) ≤ r:=by omega
  have y1 : IntKind.i64.wrap (q : Int) = q:=IntWalk.i64_in _ (by omega)
  have y2 : IntKind.i64.wrap ((q : Int) + 1) = q + 1:=IntWalk.i64_in _ (by omega)
  have y3 : IntKind.i64.wrap (r : Int) = r:=IntWalk.i64_in _ (by omega)
  have y4 : IntKind.u64.wrap (r : Int) = r:=IntWalk.u64_in _ (by omega)
  have f7 : (r : Int) < 8:=by omega
  have hoc:=Lib.hid (fun W b x h => byte_at (P:=Tryd.prog) Tryd.underlying41 Tryd.underlying5 Tryd.underlying9 b x W h)
  have xr : bits BinOp.xor IntKind.u8 (S[q].toNat : Int) (IntKind.u8.wrap (2 ^ r)) = (v.toNat : Int):=by
    have hp : 2 ^ r < 256:=Nat.pow_lt_pow_right (n:=8) (by decide) hr
    have h8:=u8_xor_nat S[q].toNat (2 ^ r) S[q].toNat_lt hp
    rw [← hv] at h8
    have h7 : ((2 : Int) ^ r) = ((2 ^ r : Nat) : Int):=by push_cast;rfl
    have h9 : IntKind.u8.wrap ((2 : Int) ^ r) = ((2 ^ r : Nat) : Int):=by rw [h7,IntKind.wrap_u8];generalize (2 ^ r : Nat) = p at hp ⊢;omega
    rw [h9]
    exact h8
  have vt : UInt8.ofNat v.toNat = v:=by simp
  have l1 : (⟨#[v]⟩ : ByteArray).size = 1:=rfl
  have l2 : (S.extract 0 q).size = q:=by rw [ByteArray.size_extract];omega
  have l3 : (S.extract (q + 1) S.size).size = S.size - (q + 1):=by rw [ByteArray.size_extract];omega
  have z9 : ¬ (9223372036854775807 < (S.extract 0 q).size + (⟨#[v]⟩ : ByteArray).size):=by rw [l1,l2];omega
  have z8 : ¬ (9223372036854775807 < (S.extract 0 q ++ ⟨#[v]⟩).size + (S.extract (q + 1) S.size).size):=by rw [ByteArray.size_append,l1,l2,l3];omega
  replace hv:=Lib.hid hv
  have z7 : ¬ (9223372036854775807 < min q S.size + 1):=by omega
  have z6 : ¬ (9223372036854775807 < min q S.size + 1 + (S.size - (q + 1))):=by omega
  clear l1 l2 l3
  replace ge:=Lib.hid ge;replace gm:=Lib.hid gm;replace gd:=Lib.hid gd
  replace hK:=Lib.hid hK;replace hmod:=Lib.hid hmod
  clear hok hn hda hen hlen hS hSl hSz hlo hmod
  go_wp2_with fail
  (with_reducible refine (ge.out _ (HH.out.on b1) (HT.out.on b1)).mono ?_)
  rintro e w3 ⟨rfl,h3⟩
  have b3 : Below w.heap.size w w3:=b1.trans (h3.mono b1.size)
  clear h3 b1
  have sw3:=b3.size
  go_upto_region 5 with (go_at_call 15;(with_reducible refine (gm.out _).mono ?_);rintro e wx ⟨rfl,rfl⟩)
  refine wp_region_held_drew (S:=fun _ => True) (by kernel_rfl) trivial (fun _ => ?_)
  obtain ⟨v0,ev0⟩ : ∃ x,x = w3.drew:=⟨_,rfl⟩
  have Bv0 : Below w.heap.size w v0:=(by rw [ev0];exact b3.drew)
  rw [← ev0]
  clear ev0
  have hTr : True:=trivial
  refine wpAnyH_take (i:=0) (oi:=_) (v:=?_) rfl (by kernel_rfl) (by kernel_rfl) (by kernel_rfl) (fun _ _ _ h => h) (Or.inl ⟨by rfl,?_⟩) (by assumption) ?_
  rotate_left
  · (intro W hSw;(try dsimp only at hSw);go_simp;(try with_reducible rfl))
  (try simp only [Act.put,List.setIfInBounds_toArray,List.set_cons_zero,List.set_cons_succ])
  refine wpAnyH_take (i:=1) (oi:=_) (v:=?_) rfl (by kernel_rfl) (by kernel_rfl) (by kernel_rfl) (fun _ _ _ h => h) (Or.inl ⟨by rfl,?_⟩) (by assumption) ?_
  rotate_left
  · (intro W hSw;(try dsimp only at hSw);go_simp;(try with_reducible rfl))
  (try simp only [Act.put,List.setIfInBounds_toArray,List.set_cons_zero,List.set_cons_succ])
  refine wpAnyH_take (i:=2) (oi:=_) (v:=?_) rfl (by kernel_rfl) (by kernel_rfl) (by kernel_rfl) (fun _ _ _ h => h) (Or.inl ⟨by rfl,?_⟩) (by assumption) ?_
  rotate_left
  · (intro W hSw;(try dsimp only at hSw);go_simp;(try with_reducible rfl))
  (try simp only [Act.put,List.setIfInBounds_toArray,List.set_cons_zero,List.set_cons_succ])
  refine wpAnyH_take (i:=3) (oi:=_) (v:=?_) rfl (by kernel_rfl) (by kernel_rfl) (by kernel_rfl) (fun _ _ _ h => h) (Or.inl ⟨by rfl,?_⟩) (by assumption) ?_
  rotate_left
  · (intro W hSw;(try dsimp only at hSw);go_simp;(try with_reducible rfl))
  (try simp only [Act.put,List.setIfInBounds_toArray,List.set_cons_zero,List.set_cons_succ])
  refine wpAnyH_take (i:=4) (oi:=_) (v:=?_) rfl (by kernel_rfl) (by kernel_rfl) (by kernel_rfl) (fun _ _ _ h => h) (Or.inl ⟨by rfl,?_⟩) (by assumption) ?_
  rotate_left
  · (intro W hSw;(try dsimp only at hSw);go_simp;(try with_reducible rfl))
  (try simp only [Act.put,List.setIfInBounds_toArray,List.set_cons_zero,List.set_cons_succ])
  refine wpAnyH_take (i:=5) (oi:=_) (v:=?_) rfl (by kernel_rfl) (by kernel_rfl) (by kernel_rfl) (fun _ _ _ h => h) (Or.inl ⟨by rfl,?_⟩) (by assumption) ?_
  rotate_left
  · (intro W hSw;(try dsimp only at hSw);go_simp;(try with_reducible rfl))
  (try simp only [Act.put,List.setIfInBounds_toArray,List.set_cons_zero,List.set_cons_succ])
  refine wpAnyH_take (i:=6) (oi:=_) (v:=?_) rfl (by kernel_rfl) (by kernel_rfl) (by kernel_rfl) (fun _ _ _ h => h) (Or.inl ⟨by rfl,?_⟩) (by assumption) ?_
  rotate_left
  · (intro W hSw;(try dsimp only at hSw);go_simp;(try with_reducible rfl))
  (try simp only [Act.put,List.setIfInBounds_toArray,List.set_cons_zero,List.set_cons_succ])
  refine wpAnyH_take (i:=7) (oi:=_) (v:=?_) rfl (by kernel_rfl) (by kernel_rfl) (by kernel_rfl) (fun _ _ _ h => h) (Or.inl ⟨by rfl,?_⟩) (by assumption) ?_
  rotate_left
  · (intro W hSw;(try dsimp only at hSw);go_simp;(try with_reducible rfl))
  (try simp only [Act.put,List.setIfInBounds_toArray,List.set_cons_zero,List.set_cons_succ])
  refine wpAnyH_take (i:=8) (oi:=_) (v:=?_) rfl (by kernel_rfl) (by kernel_rfl) (by kernel_rfl) (fun _ _ _ h => h) (Or.inl ⟨by rfl,?_⟩) (by assumption) ?_
  rotate_left
  · (intro W hSw;(try dsimp only at hSw);go_simp;(try with_reducible rfl))
  (try simp only [Act.put,List.setIfInBounds_toArray,List.set_cons_zero,List.set_cons_succ])
  refine wpAnyH_take (i:=9) (oi:=_) (v:=?_) rfl (by kernel_rfl) (by kernel_rfl) (by kernel_rfl) (fun _ _ _ h => h) (Or.inl ⟨by rfl,?_⟩) (by assumption) ?_
  rotate_left
  · (intro W hSw;(try dsimp only at hSw);go_simp;(try with_reducible rfl))
  (try simp only [Act.put,List.setIfInBounds_toArray,List.set_cons_zero,List.set_cons_succ])
  refine wpAnyH_take (i:=10) (oi:=_) (v:=?_) rfl (by kernel_rfl) (by kernel_rfl) (by kernel_rfl) (fun _ _ _ h => h) (Or.inl ⟨by rfl,?_⟩) (by assumption) ?_
  rotate_left
  · (intro W hSw;(try dsimp only at hSw);go_simp;(try with_reducible rfl))
  (try simp only [Act.put,List.setIfInBounds_toArray,List.set_cons_zero,List.set_cons_succ])
  refine wpAnyH_take (i:=11) (oi:=_) (v:=?_) rfl (by kernel_rfl) (by kernel_rfl) (by kernel_rfl) (fun _ _ _ h => h) (Or.inl ⟨by rfl,?_⟩) (by assumption) ?_
  rotate_left
  · (intro W hSw;(try dsimp only at hSw);go_simp;(try with_reducible rfl))
  (try simp only [Act.put,List.setIfInBounds_toArray,List.set_cons_zero,List.set_cons_succ])
  refine wpAnyH_take (i:=12) (oi:=_) (v:=?_) rfl (by kernel_rfl) (by kernel_rfl) (by kernel_rfl) (fun _ _ _ h => h) (Or.inl ⟨by rfl,?_⟩) (by assumption) ?_
  rotate_left
  · (intro W hSw;(try dsimp only at hSw);go_simp;(try with_reducible rfl))
  (try simp only [Act.put,List.setIfInBounds_toArray,List.set_cons_zero,List.set_cons_succ])
  refine wpAnyH_take (i:=16) (oi:=_) (v:=?_) rfl (by kernel_rfl) (by kernel_rfl) (by kernel_rfl) (fun _ _ _ h => h) (Or.inl ⟨by rfl,?_⟩) (by assumption) ?_
  rotate_left
  · (intro W hSw;(try dsimp only at hSw);go_simp;(try with_reducible rfl))
  (try simp only [Act.put,List.setIfInBounds_toArray,List.set_cons_zero,List.set_cons_succ])
  refine wpAnyH_take (i:=17) (oi:=_) (v:=?_) rfl (by kernel_rfl) (by kernel_rfl) (by kernel_rfl) (fun _ _ _ h => h) (Or.inl ⟨by rfl,?_⟩) (by assumption) ?_
  rotate_left
  · (intro W hSw;(try dsimp only at hSw);go_simp;(try with_reducible rfl))
  (try simp only [Act.put,List.setIfInBounds_toArray,List.set_cons_zero,List.set_cons_succ])
  refine wpAnyH_take (i:=18) (oi:=_) (v:=?_) rfl (by kernel_rfl) (by kernel_rfl) (by kernel_rfl) (fun _ _ _ h => h) (Or.inl ⟨by rfl,?_⟩) (by assumption) ?_
  rotate_left
  · (intro W hSw;(try dsimp only at hSw);go_simp;(try with_reducible rfl))
  (try simp only [Act.put,List.setIfInBounds_toArray,List.set_cons_zero,List.set_cons_succ])
  refine wpAnyH_take (i:=19) (oi:=_) (v:=?_) rfl (by kernel_rfl) (by kernel_rfl) (by kernel_rfl) (fun _ _ _ h => h) (Or.inl ⟨by rfl,?_⟩) (by assumption) ?_
  rotate_left
  · (intro W hSw;(try dsimp only at hSw);go_simp;(try with_reducible rfl))
  (try simp only [Act.put,List.setIfInBounds_toArray,List.set_cons_zero,List.set_cons_succ])
  refine wpAnyH_take (i:=20) (oi:=_) (v:=?_) rfl (by kernel_rfl) (by kernel_rfl) (by kernel_rfl) (fun _ _ _ h => h) (Or.inl ⟨by rfl,?_⟩) (by assumption) ?_
  rotate_left
  · (intro W hSw;(try dsimp only at hSw);go_simp;(try with_reducible rfl))
  (try simp only [Act.put,List.setIfInBounds_toArray,List.set_cons_zero,List.set_cons_succ])
  refine wpAnyH_ready (rs:=[13,26,27]) (by kernel_rfl) (by simp) ?_
  refine AllReadyH.cons rfl (fun K hK => ?_) ?_
  · skip
    go_simp
    refine hK.out _ _ trivial (fun _ => ?_)
    clear hK K
    (try simp only [Act.put,List.setIfInBounds_toArray,List.set_cons_zero,List.set_cons_succ])
    obtain ⟨v1,ev1⟩ : ∃ x,x = v0.alloc (.cells #[.int .u8 (v.toNat : Int)] 5):=⟨_,rfl⟩
    obtain ⟨b1,eb1⟩ : ∃ b,b = v0.heap.size:=⟨_,rfl⟩
    have ks_1 : blk v1 b1 = some #[.int .u8 (v.toNat : Int)]:=(by rw [ev1];exact blk_alloc_new _ _ _ eb1)
    have Bv1 : Below w.heap.size w v1:=(by rw [ev1];exact Bv0.alloc Bv0.size _)
    have lb1 : w.heap.size ≤ b1:=(by rw [eb1];exact Bv0.size)
    rw [← ev1,← eb1]
    clear ev1 eb1
    have cs1:=blk_cell ks_1 0
    refine wpAnyH_weaken (S2:=fun W => W.cell? ⟨b1,0,none⟩ = some (.int .u8 (v.toNat : Int))) (fun _ _ => trivial) _ _ _ _ ?_
    have hs1 : v1.cell? ⟨b1,0,none⟩ = some (.int .u8 (v.toNat : Int)):=cs1
    refine wpAnyH_take (i:=14) (oi:=_) (v:=?_) rfl (by kernel_rfl) (by kernel_rfl) (by kernel_rfl) (fun _ _ _ h => h) (Or.inl ⟨by rfl,?_⟩) (by assumption) ?_
    rotate_left
    · (intro W hSw;(try dsimp only at hSw);have hcv:=hoc.out W _ _ hSw;go_simp;(try with_reducible rfl))
    (try simp only [Act.put,List.setIfInBounds_toArray,List.set_cons_zero,List.set_cons_succ])
    refine wpAnyH_take (i:=15) (oi:=_) (v:=?_) rfl (by kernel_rfl) (by kernel_rfl) (by kernel_rfl) (fun _ _ _ h => h) (Or.inl ⟨by rfl,?_⟩) (by assumption) ?_
    rotate_left
    · (intro W hSw;(try dsimp only at hSw);go_simp;(try with_reducible rfl))
    (try simp only [Act.put,List.setIfInBounds_toArray,List.set_cons_zero,List.set_cons_succ])
    refine wpAnyH_take (i:=21) (oi:=_) (v:=?_) rfl (by kernel_rfl) (by kernel_rfl) (by kernel_rfl) (fun _ _ _ h => h) (Or.inl ⟨by rfl,?_⟩) (by assumption) ?_
    rotate_left
    · (intro W hSw;(try dsimp only at hSw);go_simp;(try with_reducible rfl))
    (try simp only [Act.put,List.setIfInBounds_toArray,List.set_cons_zero,List.set_cons_succ])
    refine wpAnyH_ready (rs:=[22,26,27]) (by kernel_rfl) (by simp) ?_
    refine AllReadyH.cons rfl (fun K hK => ?_) ?_
    · skip
      go_simp
      go_at_call 11
      (with_reducible refine (gd.out _ (HH.out.on Bv1) (HT.out.on Bv1)).mono ?_)
      rintro e v2 ⟨rfl,hv2⟩
      (try go_wp2_with fail)
      have ks_2 : blk v2 b1 = some #[.int .u8 (v.toNat : Int)]:=blk_below hv2 ks_1
      have Bv2 : Below w.heap.size w v2:=bt Bv1 hv2
      clear hv2
      refine hK.out _ _ (blk_cell ks_2 0) (fun hHeld => ?_)
      clear hK K
      (try simp only [Act.put,List.setIfInBounds_toArray,List.set_cons_zero,List.set_cons_succ])
      refine wpAnyH_take (i:=23) (oi:=_) (v:=?_) rfl (by kernel_rfl) (by kernel_rfl) (by kernel_rfl) (fun _ _ _ h => h) (Or.inl ⟨by rfl,?_⟩) (by assumption) ?_
      rotate_left
      · (intro W hSw;(try dsimp only at hSw);go_simp;(try with_reducible rfl))
      (try simp only [Act.put,List.setIfInBounds_toArray,List.set_cons_zero,List.set_cons_succ])
      refine wpAnyH_take (i:=24) (oi:=_) (v:=?_) rfl (by kernel_rfl) (by kernel_rfl) (by kernel_rfl) (fun _ _ _ h => h) (Or.inl ⟨by rfl,?_⟩) (by assumption) ?_
      rotate_left
      · (intro W hSw;(try dsimp only at hSw);go_simp;(try with_reducible rfl))
      (try simp only [Act.put,List.setIfInBounds_toArray,List.set_cons_zero,List.set_cons_succ])
      refine wpAnyH_take (i:=25) (oi:=_) (v:=?_) rfl (by kernel_rfl) (by kernel_rfl) (by kernel_rfl) (fun _ _ _ h => h) (Or.inl ⟨by rfl,?_⟩) (by assumption) ?_
      rotate_left
      · (intro W hSw;(try dsimp only at hSw);go_simp;(try with_reducible rfl))
      (try simp only [Act.put,List.setIfInBounds_toArray,List.set_cons_zero,List.set_cons_succ])
      refine wpAnyH_ready (rs:=[26,27]) (by kernel_rfl) (by simp) ?_
      refine AllReadyH.cons rfl (fun K hK => ?_) ?_
      · skip
        go_simp
        refine hK.out _ _ (blk_cell (blk_alloc ks_2 _) 0) (fun _ => ?_)
        clear hK K
        (try simp only [Act.put,List.setIfInBounds_toArray,List.set_cons_zero,List.set_cons_succ])
        obtain ⟨v3,ev3⟩ : ∃ x,x = v2.alloc (.cells #[.int .i64 0,.int .i64 0,.int .i64 0,.int .u64 0,.int .u64 0,.int .u64 0,.int .u64 0,.int .i64 0,.int .u64 0,.int .i64 0,.int .i64 0,.int .u64 0,.int .i64 0,.int .i64 0,.int .i64 0,.int .i64 0,.int .i64 0,.int .i64 0,.string ⟨#[]⟩] 29):=⟨_,rfl⟩
        obtain ⟨b3,eb3⟩ : ∃ b,b = v2.heap.size:=⟨_,rfl⟩
        have dks_2_3 : b1 ≠ b3:=(by rw [eb3];have:=blk_lt ks_2;omega)
        have kf_3 : blk v3 b3 = some #[.int .i64 0,.int .i64 0,.int .i64 0,.int .u64 0,.int .u64 0,.int .u64 0,.int .u64 0,.int .i64 0,.int .u64 0,.int .i64 0,.int .i64 0,.int .u64 0,.int .i64 0,.int .i64 0,.int .i64 0,.int .i64 0,.int .i64 0,.int .i64 0,.string ⟨#[]⟩]:=(by rw [ev3];exact blk_alloc_new _ _ _ eb3)
        have ks_3 : blk v3 b1 = some #[.int .u8 (v.toNat : Int)]:=(by rw [ev3];exact blk_alloc ks_2 _)
        have Bv3 : Below w.heap.size w v3:=(by rw [ev3];exact Bv2.alloc Bv2.size _)
        have lb3 : w.heap.size ≤ b3:=(by rw [eb3];exact Bv2.size)
        rw [← ev3,← eb3]
        clear ev3 eb3
        refine wpAnyH_ready (rs:=[27]) (by kernel_rfl) (by simp) ?_
        refine AllReadyH.cons rfl (fun K hK => ?_) AllReadyH.nil
        go_simp
        refine hK.out _ _ (blk_cell (blk_alloc ks_3 _) 0) (fun _ => ?_)
        clear hK K
        (try simp only [Act.put,List.setIfInBounds_toArray,List.set_cons_zero,List.set_cons_succ])
        obtain ⟨v4,ev4⟩ : ∃ x,x = v3.alloc (.cells #[.int .i64 0,.int .i64 0] 32):=⟨_,rfl⟩
        obtain ⟨b4,eb4⟩ : ∃ b,b = v3.heap.size:=⟨_,rfl⟩
        have dks_3_4 : b1 ≠ b4:=(by rw [eb4];have:=blk_lt ks_3;omega)
        have dkf_3_4 : b3 ≠ b4:=(by rw [eb4];have:=blk_lt kf_3;omega)
        have kt_4 : blk v4 b4 = some #[.int .i64 0,.int .i64 0]:=(by rw [ev4];exact blk_alloc_new _ _ _ eb4)
        have ks_4 : blk v4 b1 = some #[.int .u8 (v.toNat : Int)]:=(by rw [ev4];exact blk_alloc ks_3 _)
        have kf_4 : blk v4 b3 = some #[.int .i64 0,.int .i64 0,.int .i64 0,.int .u64 0,.int .u64 0,.int .u64 0,.int .u64 0,.int .i64 0,.int .u64 0,.int .i64 0,.int .i64 0,.int .u64 0,.int .i64 0,.int .i64 0,.int .i64 0,.int .i64 0,.int .i64 0,.int .i64 0,.string ⟨#[]⟩]:=(by rw [ev4];exact blk_alloc kf_3 _)
        have Bv4 : Below w.heap.size w v4:=(by rw [ev4];exact Bv3.alloc Bv3.size _)
        have lb4 : w.heap.size ≤ b4:=(by rw [eb4];exact Bv3.size)
        rw [← ev4,← eb4]
        clear ev4 eb4
        refine wpAnyH_ready (rs:=[28]) (by kernel_rfl) (by simp) ?_
        refine AllReadyH.cons rfl (fun K hK => ?_) AllReadyH.nil
        rw [if_pos (by rfl)]
        obtain ⟨t8,hg8⟩:=blk_row kf_4
        refine wp_store_row 29 (.tmp 8) (.tmp 52) rfl b3 #[.int .i64 0,.int .i64 0,.int .i64 0,.int .u64 0,.int .u64 0,.int .u64 0,.int .u64 0,.int .i64 0,.int .u64 0,.int .i64 0,.int .i64 0,.int .u64 0,.int .i64 0,.int .i64 0,.int .i64 0,.int .i64 0,.int .i64 0,.int .i64 0,.string ⟨#[]⟩] rfl rfl t8 #[.int .i64 0,.int .i64 0,.int .i64 0,.int .u64 0,.int .u64 0,.int .u64 0,.int .u64 0,.int .i64 0,.int .u64 0,.int .i64 0,.int .i64 0,.int .u64 0,.int .i64 0,.int .i64 0,.int .i64 0,.int .i64 0,.int .i64 0,.int .i64 0,.string ⟨#[]⟩] hg8 (by kernel_rfl) rfl (by kernel_rfl) ?_
        rw [setRow_self v4 b3 #[.int .i64 0,.int .i64 0,.int .i64 0,.int .u64 0,.int .u64 0,.int .u64 0,.int .u64 0,.int .i64 0,.int .u64 0,.int .i64 0,.int .i64 0,.int .u64 0,.int .i64 0,.int .i64 0,.int .i64 0,.int .i64 0,.int .i64 0,.int .i64 0,.string ⟨#[]⟩] t8 (0,0) hg8]
        refine hK.out _ _ (blk_cell ks_4 0) (fun hHeld => ?_)
        clear hK K hg8
        (try simp only [Act.put,List.setIfInBounds_toArray,List.set_cons_zero,List.set_cons_succ])
        refine wpAnyH_ready (rs:=[29]) (by kernel_rfl) (by simp) ?_
        refine AllReadyH.cons rfl (fun K hK => ?_) AllReadyH.nil
        rw [if_pos (by rfl)]
        obtain ⟨t9,hg9⟩:=blk_row kt_4
        refine wp_store_row 32 (.tmp 9) (.tmp 53) rfl b4 #[.int .i64 e,.int .i64 a] rfl rfl t9 #[.int .i64 0,.int .i64 0] hg9 (by kernel_rfl) rfl (by kernel_rfl) ?_
        obtain ⟨v6,ev6⟩ : ∃ x,x = v4.setRow b4 #[.int .i64 e,.int .i64 a]:=⟨_,rfl⟩
        have kt_6 : blk v6 b4 = some #[.int .i64 e,.int .i64 a]:=(by rw [ev6];exact blk_setRow kt_4)
        have ks_6 : blk v6 b1 = some #[.int .u8 (v.toNat : Int)]:=(by rw [ev6];exact (blk_kept (setRow_other v4 b4 b1 _ (by first|assumption|(apply Ne.symm;assumption)))).trans ks_4)
        have Bv6 : Below w.heap.size w v6:=(by rw [ev6];exact below_setRow Bv4 (by assumption) _)
        rw [← ev6]
        refine hK.out _ _ (blk_cell ks_6 0) (fun hHeld => ?_)
        clear hK K hg9 ev6
        (try simp only [Act.put,List.setIfInBounds_toArray,List.set_cons_zero,List.set_cons_succ])
        refine wpAnyH_done (by kernel_rfl) ?_ _
        have kz:=kn kt_6
        go_wp2_with (go_at_call 10;(with_reducible refine (ga.out _ (HH.out.on (by (repeat(first|(with_reducible first|assumption|exact Below.refl _ _|refine je ?_|refine jl ?_)|((with_reducible refine jp ?_ ?_);first|focus(dsimp only;assumption)|focus(simp;done)|focus(dsimp only;omega))|(with_reducible refine bt ?_ (by assumption)))))) (HT.out.on (by (repeat(first|(with_reducible first|assumption|exact Below.refl _ _|refine je ?_|refine jl ?_)|((with_reducible refine jp ?_ ?_);first|focus(dsimp only;assumption)|focus(simp;done)|focus(dsimp only;omega))|(with_reducible refine bt ?_ (by assumption))))))).mono ?_);rintro e wa ⟨rfl,ha⟩)
        go_ret
        exact ⟨rfl,bt Bv6 ha⟩
      refine AllReadyH.cons rfl (fun K hK => ?_) AllReadyH.nil
      go_simp
      refine hK.out _ _ (blk_cell (blk_alloc ks_2 _) 0) (fun _ => ?_)
      clear hK K
      (try simp only [Act.put,List.setIfInBounds_toArray,List.set_cons_zero,List.set_cons_succ])
      obtain ⟨v7,ev7⟩ : ∃ x,x = v2.alloc (.cells #[.int .i64 0,.int .i64 0] 32):=⟨_,rfl⟩
      obtain ⟨b7,eb7⟩ : ∃ b,b = v2.heap.size:=⟨_,rfl⟩
      have dks_2_7 : b1 ≠ b7:=(by rw [eb7];have:=blk_lt ks_2;omega)
      have kt_7 : blk v7 b7 = some #[.int .i64 0,.int .i64 0]:=(by rw [ev7];exact blk_alloc_new _ _ _ eb7)
      have ks_7 : blk v7 b1 = some #[.int .u8 (v.toNat : Int)]:=(by rw [ev7];exact blk_alloc ks_2 _)
      have Bv7 : Below w.heap.size w v7:=(by rw [ev7];exact Bv2.alloc Bv2.size _)
      have lb7 : w.heap.size ≤ b7:=(by rw [eb7];exact Bv2.size)
      rw [← ev7,← eb7]
      clear ev7 eb7
      refine wpAnyH_ready (rs:=[26]) (by kernel_rfl) (by simp) ?_
      refine AllReadyH.cons rfl (fun K hK => ?_) AllReadyH.nil
      go_simp
      refine hK.out _ _ (blk_cell (blk_alloc ks_7 _) 0) (fun _ => ?_)
      clear hK K
      (try simp only [Act.put,List.setIfInBounds_toArray,List.set_cons_zero,List.set_cons_succ])
      obtain ⟨v8,ev8⟩ : ∃ x,x = v7.alloc (.cells #[.int .i64 0,.int .i64 0,.int .i64 0,.int .u64 0,.int .u64 0,.int .u64 0,.int .u64 0,.int .i64 0,.int .u64 0,.int .i64 0,.int .i64 0,.int .u64 0,.int .i64 0,.int .i64 0,.int .i64 0,.int .i64 0,.int .i64 0,.int .i64 0,.string ⟨#[]⟩] 29):=⟨_,rfl⟩
      obtain ⟨b8,eb8⟩ : ∃ b,b = v7.heap.size:=⟨_,rfl⟩
      have dks_7_8 : b1 ≠ b8:=(by rw [eb8];have:=blk_lt ks_7;omega)
      have dkt_7_8 : b7 ≠ b8:=(by rw [eb8];have:=blk_lt kt_7;omega)
      have kf_8 : blk v8 b8 = some #[.int .i64 0,.int .i64 0,.int .i64 0,.int .u64 0,.int .u64 0,.int .u64 0,.int .u64 0,.int .i64 0,.int .u64 0,.int .i64 0,.int .i64 0,.int .u64 0,.int .i64 0,.int .i64 0,.int .i64 0,.int .i64 0,.int .i64 0,.int .i64 0,.string ⟨#[]⟩]:=(by rw [ev8];exact blk_alloc_new _ _ _ eb8)
      have ks_8 : blk v8 b1 = some #[.int .u8 (v.toNat : Int)]:=(by rw [ev8];exact blk_alloc ks_7 _)
      have kt_8 : blk v8 b7 = some #[.int .i64 0,.int .i64 0]:=(by rw [ev8];exact blk_alloc kt_7 _)
      have Bv8 : Below w.heap.size w v8:=(by rw [ev8];exact Bv7.alloc Bv7.size _)
      have lb8 : w.heap.size ≤ b8:=(by rw [eb8];exact Bv7.size)
      rw [← ev8,← eb8]
      clear ev8 eb8
      refine wpAnyH_ready (rs:=[28]) (by kernel_rfl) (by simp) ?_
      refine AllReadyH.cons rfl (fun K hK => ?_) AllReadyH.nil
      rw [if_pos (by rfl)]
      obtain ⟨t8,hg8⟩:=blk_row kf_8
      refine wp_store_row 29 (.tmp 8) (.tmp 52) rfl b8 #[.int .i64 0,.int .i64 0,.int .i64 0,.int .u64 0,.int .u64 0,.int .u64 0,.int .u64 0,.int .i64 0,.int .u64 0,.int .i64 0,.int .i64 0,.int .u64 0,.int .i64 0,.int .i64 0,.int .i64 0,.int .i64 0,.int .i64 0,.int .i64 0,.string ⟨#[]⟩] rfl rfl t8 #[.int .i64 0,.int .i64 0,.int .i64 0,.int .u64 0,.int .u64 0,.int .u64 0,.int .u64 0,.int .i64 0,.int .u64 0,.int .i64 0,.int .i64 0,.int .u64 0,.int .i64 0,.int .i64 0,.int .i64 0,.int .i64 0,.int .i64 0,.int .i64 0,.string ⟨#[]⟩] hg8 (by kernel_rfl) rfl (by kernel_rfl) ?_
      rw [setRow_self v8 b8 #[.int .i64 0,.int .i64 0,.int .i64 0,.int .u64 0,.int .u64 0,.int .u64 0,.int .u64 0,.int .i64 0,.int .u64 0,.int .i64 0,.int .i64 0,.int .u64 0,.int .i64 0,.int .i64 0,.int .i64 0,.int .i64 0,.int .i64 0,.int .i64 0,.string ⟨#[]⟩] t8 (0,0) hg8]
      refine hK.out _ _ (blk_cell ks_8 0) (fun hHeld => ?_)
      clear hK K hg8
      (try simp only [Act.put,List.setIfInBounds_toArray,List.set_cons_zero,List.set_cons_succ])
      refine wpAnyH_ready (rs:=[29]) (by kernel_rfl) (by simp) ?_
      refine AllReadyH.cons rfl (fun K hK => ?_) AllReadyH.nil
      rw [if_pos (by rfl)]
      obtain ⟨t9,hg9⟩:=blk_row kt_8
      refine wp_store_row 32 (.tmp 9) (.tmp 53) rfl b7 #[.int .i64 e,.int .i64 a] rfl rfl t9 #[.int .i64 0,.int .i64 0] hg9 (by kernel_rfl) rfl (by kernel_rfl) ?_
      obtain ⟨v10,ev10⟩ : ∃ x,x = v8.setRow b7 #[.int .i64 e,.int .i64 a]:=⟨_,rfl⟩
      have kt_10 : blk v10 b7 = some #[.int .i64 e,.int .i64 a]:=(by rw [ev10];exact blk_setRow kt_8)
      have ks_10 : blk v10 b1 = some #[.int .u8 (v.toNat : Int)]:=(by rw [ev10];exact (blk_kept (setRow_other v8 b7 b1 _ (by first|assumption|(apply Ne.symm;assumption)))).trans ks_8)
      have Bv10 : Below w.heap.size w v10:=(by rw [ev10];exact below_setRow Bv8 (by assumption) _)
      rw [← ev10]
      refine hK.out _ _ (blk_cell ks_10 0) (fun hHeld => ?_)
      clear hK K hg9 ev10
      (try simp only [Act.put,List.setIfInBounds_toArray,List.set_cons_zero,List.set_cons_succ])
      refine wpAnyH_done (by kernel_rfl) ?_ _
      have kz:=kn kt_10
      go_wp2_with (go_at_call 10;(with_reducible refine (ga.out _ (HH.out.on (by (repeat(first|(with_reducible first|assumption|exact Below.refl _ _|refine je ?_|refine jl ?_)|((with_reducible refine jp ?_ ?_);first|focus(dsimp only;assumption)|focus(simp;done)|focus(dsimp only;omega))|(with_reducible refine bt ?_ (by assumption)))))) (HT.out.on (by (repeat(first|(with_reducible first|assumption|exact Below.refl _ _|refine je ?_|refine jl ?_)|((with_reducible refine jp ?_ ?_);first|focus(dsimp only;assumption)|focus(simp;done)|focus(dsimp only;omega))|(with_reducible refine bt ?_ (by assumption))))))).mono ?_);rintro e wa ⟨rfl,ha⟩)
      go_ret
      exact ⟨rfl,bt Bv10 ha⟩
    refine AllReadyH.cons rfl (fun K hK => ?_) ?_
    · skip
      go_simp
      refine hK.out _ _ (blk_cell (blk_alloc ks_1 _) 0) (fun _ => ?_)
      clear hK K
      (try simp only [Act.put,List.setIfInBounds_toArray,List.set_cons_zero,List.set_cons_succ])
      obtain ⟨v11,ev11⟩ : ∃ x,x = v1.alloc (.cells #[.int .i64 0,.int .i64 0,.int .i64 0,.int .u64 0,.int .u64 0,.int .u64 0,.int .u64 0,.int .i64 0,.int .u64 0,.int .i64 0,.int .i64 0,.int .u64 0,.int .i64 0,.int .i64 0,.int .i64 0,.int .i64 0,.int .i64 0,.int .i64 0,.string ⟨#[]⟩] 29):=⟨_,rfl⟩
      obtain ⟨b11,eb11⟩ : ∃ b,b = v1.heap.size:=⟨_,rfl⟩
      have dks_1_11 : b1 ≠ b11:=(by rw [eb11];have:=blk_lt ks_1;omega)
      have kf_11 : blk v11 b11 = some #[.int .i64 0,.int .i64 0,.int .i64 0,.int .u64 0,.int .u64 0,.int .u64 0,.int .u64 0,.int .i64 0,.int .u64 0,.int .i64 0,.int .i64 0,.int .u64 0,.int .i64 0,.int .i64 0,.int .i64 0,.int .i64 0,.int .i64 0,.int .i64 0,.string ⟨#[]⟩]:=(by rw [ev11];exact blk_alloc_new _ _ _ eb11)
      have ks_11 : blk v11 b1 = some #[.int .u8 (v.toNat : Int)]:=(by rw [ev11];exact blk_alloc ks_1 _)
      have Bv11 : Below w.heap.size w v11:=(by rw [ev11];exact Bv1.alloc Bv1.size _)
      have lb11 : w.heap.size ≤ b11:=(by rw [eb11];exact Bv1.size)
      rw [← ev11,← eb11]
      clear ev11 eb11
      refine wpAnyH_ready (rs:=[22,27]) (by kernel_rfl) (by simp) ?_
      refine AllReadyH.cons rfl (fun K hK => ?_) ?_
      · skip
        go_simp
        go_at_call 11
        (with_reducible refine (gd.out _ (HH.out.on Bv11) (HT.out.on Bv11)).mono ?_)
        rintro e v12 ⟨rfl,hv12⟩
        (try go_wp2_with fail)
        have ks_12 : blk v12 b1 = some #[.int .u8 (v.toNat : Int)]:=blk_below hv12 ks_11
        have kf_12 : blk v12 b11 = some #[.int .i64 0,.int .i64 0,.int .i64 0,.int .u64 0,.int .u64 0,.int .u64 0,.int .u64 0,.int .i64 0,.int .u64 0,.int .i64 0,.int .i64 0,.int .u64 0,.int .i64 0,.int .i64 0,.int .i64 0,.int .i64 0,.int .i64 0,.int .i64 0,.string ⟨#[]⟩]:=blk_below hv12 kf_11
        have Bv12 : Below w.heap.size w v12:=bt Bv11 hv12
        clear hv12
        refine hK.out _ _ (blk_cell ks_12 0) (fun hHeld => ?_)
        clear hK K
        (try simp only [Act.put,List.setIfInBounds_toArray,List.set_cons_zero,List.set_cons_succ])
        refine wpAnyH_take (i:=23) (oi:=_) (v:=?_) rfl (by kernel_rfl) (by kernel_rfl) (by kernel_rfl) (fun _ _ _ h => h) (Or.inl ⟨by rfl,?_⟩) (by assumption) ?_
        rotate_left
        · (intro W hSw;(try dsimp only at hSw);go_simp;(try with_reducible rfl))
        (try simp only [Act.put,List.setIfInBounds_toArray,List.set_cons_zero,List.set_cons_succ])
        refine wpAnyH_take (i:=24) (oi:=_) (v:=?_) rfl (by kernel_rfl) (by kernel_rfl) (by kernel_rfl) (fun _ _ _ h => h) (Or.inl ⟨by rfl,?_⟩) (by assumption) ?_
        rotate_left
        · (intro W hSw;(try dsimp only at hSw);go_simp;(try with_reducible rfl))
        (try simp only [Act.put,List.setIfInBounds_toArray,List.set_cons_zero,List.set_cons_succ])
        refine wpAnyH_take (i:=25) (oi:=_) (v:=?_) rfl (by kernel_rfl) (by kernel_rfl) (by kernel_rfl) (fun _ _ _ h => h) (Or.inl ⟨by rfl,?_⟩) (by assumption) ?_
        rotate_left
        · (intro W hSw;(try dsimp only at hSw);go_simp;(try with_reducible rfl))
        (try simp only [Act.put,List.setIfInBounds_toArray,List.set_cons_zero,List.set_cons_succ])
        refine wpAnyH_ready (rs:=[27]) (by kernel_rfl) (by simp) ?_
        refine AllReadyH.cons rfl (fun K hK => ?_) AllReadyH.nil
        go_simp
        refine hK.out _ _ (blk_cell (blk_alloc ks_12 _) 0) (fun _ => ?_)
        clear hK K
        (try simp only [Act.put,List.setIfInBounds_toArray,List.set_cons_zero,List.set_cons_succ])
        obtain ⟨v13,ev13⟩ : ∃ x,x = v12.alloc (.cells #[.int .i64 0,.int .i64 0] 32):=⟨_,rfl⟩
        obtain ⟨b13,eb13⟩ : ∃ b,b = v12.heap.size:=⟨_,rfl⟩
        have dks_12_13 : b1 ≠ b13:=(by rw [eb13];have:=blk_lt ks_12;omega)
        have dkf_12_13 : b11 ≠ b13:=(by rw [eb13];have:=blk_lt kf_12;omega)
        have kt_13 : blk v13 b13 = some #[.int .i64 0,.int .i64 0]:=(by rw [ev13];exact blk_alloc_new _ _ _ eb13)
        have ks_13 : blk v13 b1 = some #[.int .u8 (v.toNat : Int)]:=(by rw [ev13];exact blk_alloc ks_12 _)
        have kf_13 : blk v13 b11 = some #[.int .i64 0,.int .i64 0,.int .i64 0,.int .u64 0,.int .u64 0,.int .u64 0,.int .u64 0,.int .i64 0,.int .u64 0,.int .i64 0,.int .i64 0,.int .u64 0,.int .i64 0,.int .i64 0,.int .i64 0,.int .i64 0,.int .i64 0,.int .i64 0,.string ⟨#[]⟩]:=(by rw [ev13];exact blk_alloc kf_12 _)
        have Bv13 : Below w.heap.size w v13:=(by rw [ev13];exact Bv12.alloc Bv12.size _)
        have lb13 : w.heap.size ≤ b13:=(by rw [eb13];exact Bv12.size)
        rw [← ev13,← eb13]
        clear ev13 eb13
        refine wpAnyH_ready (rs:=[28]) (by kernel_rfl) (by simp) ?_
        refine AllReadyH.cons rfl (fun K hK => ?_) AllReadyH.nil
        rw [if_pos (by rfl)]
        obtain ⟨t8,hg8⟩:=blk_row kf_13
        refine wp_store_row 29 (.tmp 8) (.tmp 52) rfl b11 #[.int .i64 0,.int .i64 0,.int .i64 0,.int .u64 0,.int .u64 0,.int .u64 0,.int .u64 0,.int .i64 0,.int .u64 0,.int .i64 0,.int .i64 0,.int .u64 0,.int .i64 0,.int .i64 0,.int .i64 0,.int .i64 0,.int .i64 0,.int .i64 0,.string ⟨#[]⟩] rfl rfl t8 #[.int .i64 0,.int .i64 0,.int .i64 0,.int .u64 0,.int .u64 0,.int .u64 0,.int .u64 0,.int .i64 0,.int .u64 0,.int .i64 0,.int .i64 0,.int .u64 0,.int .i64 0,.int .i64 0,.int .i64 0,.int .i64 0,.int .i64 0,.int .i64 0,.string ⟨#[]⟩] hg8 (by kernel_rfl) rfl (by kernel_rfl) ?_
        rw [setRow_self v13 b11 #[.int .i64 0,.int .i64 0,.int .i64 0,.int .u64 0,.int .u64 0,.int .u64 0,.int .u64 0,.int .i64 0,.int .u64 0,.int .i64 0,.int .i64 0,.int .u64 0,.int .i64 0,.int .i64 0,.int .i64 0,.int .i64 0,.int .i64 0,.int .i64 0,.string ⟨#[]⟩] t8 (0,0) hg8]
        refine hK.out _ _ (blk_cell ks_13 0) (fun hHeld => ?_)
        clear hK K hg8
        (try simp only [Act.put,List.setIfInBounds_toArray,List.set_cons_zero,List.set_cons_succ])
        refine wpAnyH_ready (rs:=[29]) (by kernel_rfl) (by simp) ?_
        refine AllReadyH.cons rfl (fun K hK => ?_) AllReadyH.nil
        rw [if_pos (by rfl)]
        obtain ⟨t9,hg9⟩:=blk_row kt_13
        refine wp_store_row 32 (.tmp 9) (.tmp 53) rfl b13 #[.int .i64 e,.int .i64 a] rfl rfl t9 #[.int .i64 0,.int .i64 0] hg9 (by kernel_rfl) rfl (by kernel_rfl) ?_
        obtain ⟨v15,ev15⟩ : ∃ x,x = v13.setRow b13 #[.int .i64 e,.int .i64 a]:=⟨_,rfl⟩
        have kt_15 : blk v15 b13 = some #[.int .i64 e,.int .i64 a]:=(by rw [ev15];exact blk_setRow kt_13)
        have ks_15 : blk v15 b1 = some #[.int .u8 (v.toNat : Int)]:=(by rw [ev15];exact (blk_kept (setRow_other v13 b13 b1 _ (by first|assumption|(apply Ne.symm;assumption)))).trans ks_13)
        have Bv15 : Below w.heap.size w v15:=(by rw [ev15];exact below_setRow Bv13 (by assumption) _)
        rw [← ev15]
        refine hK.out _ _ (blk_cell ks_15 0) (fun hHeld => ?_)
        clear hK K hg9 ev15
        (try simp only [Act.put,List.setIfInBounds_toArray,List.set_cons_zero,List.set_cons_succ])
        refine wpAnyH_done (by kernel_rfl) ?_ _
        have kz:=kn kt_15
        go_wp2_with (go_at_call 10;(with_reducible refine (ga.out _ (HH.out.on (by (repeat(first|(with_reducible first|assumption|exact Below.refl _ _|refine je ?_|refine jl ?_)|((with_reducible refine jp ?_ ?_);first|focus(dsimp only;assumption)|focus(simp;done)|focus(dsimp only;omega))|(with_reducible refine bt ?_ (by assumption)))))) (HT.out.on (by (repeat(first|(with_reducible first|assumption|exact Below.refl _ _|refine je ?_|refine jl ?_)|((with_reducible refine jp ?_ ?_);first|focus(dsimp only;assumption)|focus(simp;done)|focus(dsimp only;omega))|(with_reducible refine bt ?_ (by assumption))))))).mono ?_);rintro e wa ⟨rfl,ha⟩)
        go_ret
        exact ⟨rfl,bt Bv15 ha⟩
      refine AllReadyH.cons rfl (fun K hK => ?_) AllReadyH.nil
      go_simp
      refine hK.out _ _ (blk_cell (blk_alloc ks_11 _) 0) (fun _ => ?_)
      clear hK K
      (try simp only [Act.put,List.setIfInBounds_toArray,List.set_cons_zero,List.set_cons_succ])
      obtain ⟨v16,ev16⟩ : ∃ x,x = v11.alloc (.cells #[.int .i64 0,.int .i64 0] 32):=⟨_,rfl⟩
      obtain ⟨b16,eb16⟩ : ∃ b,b = v11.heap.size:=⟨_,rfl⟩
      have dks_11_16 : b1 ≠ b16:=(by rw [eb16];have:=blk_lt ks_11;omega)
      have dkf_11_16 : b11 ≠ b16:=(by rw [eb16];have:=blk_lt kf_11;omega)
      have kt_16 : blk v16 b16 = some #[.int .i64 0,.int .i64 0]:=(by rw [ev16];exact blk_alloc_new _ _ _ eb16)
      have ks_16 : blk v16 b1 = some #[.int .u8 (v.toNat : Int)]:=(by rw [ev16];exact blk_alloc ks_11 _)
      have kf_16 : blk v16 b11 = some #[.int .i64 0,.int .i64 0,.int .i64 0,.int .u64 0,.int .u64 0,.int .u64 0,.int .u64 0,.int .i64 0,.int .u64 0,.int .i64 0,.int .i64 0,.int .u64 0,.int .i64 0,.int .i64 0,.int .i64 0,.int .i64 0,.int .i64 0,.int .i64 0,.string ⟨#[]⟩]:=(by rw [ev16];exact blk_alloc kf_11 _)
      have Bv16 : Below w.heap.size w v16:=(by rw [ev16];exact Bv11.alloc Bv11.size _)
      have lb16 : w.heap.size ≤ b16:=(by rw [eb16];exact Bv11.size)
      rw [← ev16,← eb16]
      clear ev16 eb16
      refine wpAnyH_ready (rs:=[22]) (by kernel_rfl) (by simp) ?_
      refine AllReadyH.cons rfl (fun K hK => ?_) AllReadyH.nil
      go_simp
      go_at_call 11
      (with_reducible refine (gd.out _ (HH.out.on Bv16) (HT.out.on Bv16)).mono ?_)
      rintro e v17 ⟨rfl,hv17⟩
      (try go_wp2_with fail)
      have ks_17 : blk v17 b1 = some #[.int .u8 (v.toNat : Int)]:=blk_below hv17 ks_16
      have kf_17 : blk v17 b11 = some #[.int .i64 0,.int .i64 0,.int .i64 0,.int .u64 0,.int .u64 0,.int .u64 0,.int .u64 0,.int .i64 0,.int .u64 0,.int .i64 0,.int .i64 0,.int .u64 0,.int .i64 0,.int .i64 0,.int .i64 0,.int .i64 0,.int .i64 0,.int .i64 0,.string ⟨#[]⟩]:=blk_below hv17 kf_16
      have kt_17 : blk v17 b16 = some #[.int .i64 0,.int .i64 0]:=blk_below hv17 kt_16
      have Bv17 : Below w.heap.size w v17:=bt Bv16 hv17
      clear hv17
      refine hK.out _ _ (blk_cell ks_17 0) (fun hHeld => ?_)
      clear hK K
      (try simp only [Act.put,List.setIfInBounds_toArray,List.set_cons_zero,List.set_cons_succ])
      refine wpAnyH_take (i:=23) (oi:=_) (v:=?_) rfl (by kernel_rfl) (by kernel_rfl) (by kernel_rfl) (fun _ _ _ h => h) (Or.inl ⟨by rfl,?_⟩) (by assumption) ?_
      rotate_left
      · (intro W hSw;(try dsimp only at hSw);go_simp;(try with_reducible rfl))
      (try simp only [Act.put,List.setIfInBounds_toArray,List.set_cons_zero,List.set_cons_succ])
      refine wpAnyH_take (i:=24) (oi:=_) (v:=?_) rfl (by kernel_rfl) (by kernel_rfl) (by kernel_rfl) (fun _ _ _ h => h) (Or.inl ⟨by rfl,?_⟩) (by assumption) ?_
      rotate_left
      · (intro W hSw;(try dsimp only at hSw);go_simp;(try with_reducible rfl))
      (try simp only [Act.put,List.setIfInBounds_toArray,List.set_cons_zero,List.set_cons_succ])
      refine wpAnyH_take (i:=25) (oi:=_) (v:=?_) rfl (by kernel_rfl) (by kernel_rfl) (by kernel_rfl) (fun _ _ _ h => h) (Or.inl ⟨by rfl,?_⟩) (by assumption) ?_
      rotate_left
      · (intro W hSw;(try dsimp only at hSw);go_simp;(try with_reducible rfl))
      (try simp only [Act.put,List.setIfInBounds_toArray,List.set_cons_zero,List.set_cons_succ])
      refine wpAnyH_ready (rs:=[28]) (by kernel_rfl) (by simp) ?_
      refine AllReadyH.cons rfl (fun K hK => ?_) AllReadyH.nil
      rw [if_pos (by rfl)]
      obtain ⟨t8,hg8⟩:=blk_row kf_17
      refine wp_store_row 29 (.tmp 8) (.tmp 52) rfl b11 #[.int .i64 0,.int .i64 0,.int .i64 0,.int .u64 0,.int .u64 0,.int .u64 0,.int .u64 0,.int .i64 0,.int .u64 0,.int .i64 0,.int .i64 0,.int .u64 0,.int .i64 0,.int .i64 0,.int .i64 0,.int .i64 0,.int .i64 0,.int .i64 0,.string ⟨#[]⟩] rfl rfl t8 #[.int .i64 0,.int .i64 0,.int .i64 0,.int .u64 0,.int .u64 0,.int .u64 0,.int .u64 0,.int .i64 0,.int .u64 0,.int .i64 0,.int .i64 0,.int .u64 0,.int .i64 0,.int .i64 0,.int .i64 0,.int .i64 0,.int .i64 0,.int .i64 0,.string ⟨#[]⟩] hg8 (by kernel_rfl) rfl (by kernel_rfl) ?_
      rw [setRow_self v17 b11 #[.int .i64 0,.int .i64 0,.int .i64 0,.int .u64 0,.int .u64 0,.int .u64 0,.int .u64 0,.int .i64 0,.int .u64 0,.int .i64 0,.int .i64 0,.int .u64 0,.int .i64 0,.int .i64 0,.int .i64 0,.int .i64 0,.int .i64 0,.int .i64 0,.string ⟨#[]⟩] t8 (0,0) hg8]
      refine hK.out _ _ (blk_cell ks_17 0) (fun hHeld => ?_)
      clear hK K hg8
      (try simp only [Act.put,List.setIfInBounds_toArray,List.set_cons_zero,List.set_cons_succ])
      refine wpAnyH_ready (rs:=[29]) (by kernel_rfl) (by simp) ?_
      refine AllReadyH.cons rfl (fun K hK => ?_) AllReadyH.nil
      rw [if_pos (by rfl)]
      obtain ⟨t9,hg9⟩:=blk_row kt_17
      refine wp_store_row 32 (.tmp 9) (.tmp 53) rfl b16 #[.int .i64 e,.int .i64 a] rfl rfl t9 #[.int .i64 0,.int .i64 0] hg9 (by kernel_rfl) rfl (by kernel_rfl) ?_
      obtain ⟨v19,ev19⟩ : ∃ x,x = v17.setRow b16 #[.int .i64 e,.int .i64 a]:=⟨_,rfl⟩
      have kt_19 : blk v19 b16 = some #[.int .i64 e,.int .i64 a]:=(by rw [ev19];exact blk_setRow kt_17)
      have ks_19 : blk v19 b1 = some #[.int .u8 (v.toNat : Int)]:=(by rw [ev19];exact (blk_kept (setRow_other v17 b16 b1 _ (by first|assumption|(apply Ne.symm;assumption)))).trans ks_17)
      have Bv19 : Below w.heap.size w v19:=(by rw [ev19];exact below_setRow Bv17 (by assumption) _)
      rw [← ev19]
      refine hK.out _ _ (blk_cell ks_19 0) (fun hHeld => ?_)
      clear hK K hg9 ev19
      (try simp only [Act.put,List.setIfInBounds_toArray,List.set_cons_zero,List.set_cons_succ])
      refine wpAnyH_done (by kernel_rfl) ?_ _
      have kz:=kn kt_19
      go_wp2_with (go_at_call 10;(with_reducible refine (ga.out _ (HH.out.on (by (repeat(first|(with_reducible first|assumption|exact Below.refl _ _|refine je ?_|refine jl ?_)|((with_reducible refine jp ?_ ?_);first|focus(dsimp only;assumption)|focus(simp;done)|focus(dsimp only;omega))|(with_reducible refine bt ?_ (by assumption)))))) (HT.out.on (by (repeat(first|(with_reducible first|assumption|exact Below.refl _ _|refine je ?_|refine jl ?_)|((with_reducible refine jp ?_ ?_);first|focus(dsimp only;assumption)|focus(simp;done)|focus(dsimp only;omega))|(with_reducible refine bt ?_ (by assumption))))))).mono ?_);rintro e wa ⟨rfl,ha⟩)
      go_ret
      exact ⟨rfl,bt Bv19 ha⟩
    refine AllReadyH.cons rfl (fun K hK => ?_) AllReadyH.nil
    go_simp
    refine hK.out _ _ (blk_cell (blk_alloc ks_1 _) 0) (fun _ => ?_)
    clear hK K
    (try simp only [Act.put,List.setIfInBounds_toArray,List.set_cons_zero,List.set_cons_succ])
    obtain ⟨v20,ev20⟩ : ∃ x,x = v1.alloc (.cells #[.int .i64 0,.int .i64 0] 32):=⟨_,rfl⟩
    obtain ⟨b20,eb20⟩ : ∃ b,b = v1.heap.size:=⟨_,rfl⟩
    have dks_1_20 : b1 ≠ b20:=(by rw [eb20];have:=blk_lt ks_1;omega)
    have kt_20 : blk v20 b20 = some #[.int .i64 0,.int .i64 0]:=(by rw [ev20];exact blk_alloc_new _ _ _ eb20)
    have ks_20 : blk v20 b1 = some #[.int .u8 (v.toNat : Int)]:=(by rw [ev20];exact blk_alloc ks_1 _)
    have Bv20 : Below w.heap.size w v20:=(by rw [ev20];exact Bv1.alloc Bv1.size _)
    have lb20 : w.heap.size ≤ b20:=(by rw [eb20];exact Bv1.size)
    rw [← ev20,← eb20]
    clear ev20 eb20
    refine wpAnyH_ready (rs:=[22,26]) (by kernel_rfl) (by simp) ?_
    refine AllReadyH.cons rfl (fun K hK => ?_) ?_
    · skip
      go_simp
      go_at_call 11
      (with_reducible refine (gd.out _ (HH.out.on Bv20) (HT.out.on Bv20)).mono ?_)
      rintro e v21 ⟨rfl,hv21⟩
      (try go_wp2_with fail)
      have ks_21 : blk v21 b1 = some #[.int .u8 (v.toNat : Int)]:=blk_below hv21 ks_20
      have kt_21 : blk v21 b20 = some #[.int .i64 0,.int .i64 0]:=blk_below hv21 kt_20
      have Bv21 : Below w.heap.size w v21:=bt Bv20 hv21
      clear hv21
      refine hK.out _ _ (blk_cell ks_21 0) (fun hHeld => ?_)
      clear hK K
      (try simp only [Act.put,List.setIfInBounds_toArray,List.set_cons_zero,List.set_cons_succ])
      refine wpAnyH_take (i:=23) (oi:=_) (v:=?_) rfl (by kernel_rfl) (by kernel_rfl) (by kernel_rfl) (fun _ _ _ h => h) (Or.inl ⟨by rfl,?_⟩) (by assumption) ?_
      rotate_left
      · (intro W hSw;(try dsimp only at hSw);go_simp;(try with_reducible rfl))
      (try simp only [Act.put,List.setIfInBounds_toArray,List.set_cons_zero,List.set_cons_succ])
      refine wpAnyH_take (i:=24) (oi:=_) (v:=?_) rfl (by kernel_rfl) (by kernel_rfl) (by kernel_rfl) (fun _ _ _ h => h) (Or.inl ⟨by rfl,?_⟩) (by assumption) ?_
      rotate_left
      · (intro W hSw;(try dsimp only at hSw);go_simp;(try with_reducible rfl))
      (try simp only [Act.put,List.setIfInBounds_toArray,List.set_cons_zero,List.set_cons_succ])
      refine wpAnyH_take (i:=25) (oi:=_) (v:=?_) rfl (by kernel_rfl) (by kernel_rfl) (by kernel_rfl) (fun _ _ _ h => h) (Or.inl ⟨by rfl,?_⟩) (by assumption) ?_
      rotate_left
      · (intro W hSw;(try dsimp only at hSw);go_simp;(try with_reducible rfl))
      (try simp only [Act.put,List.setIfInBounds_toArray,List.set_cons_zero,List.set_cons_succ])
      refine wpAnyH_ready (rs:=[26]) (by kernel_rfl) (by simp) ?_
      refine AllReadyH.cons rfl (fun K hK => ?_) AllReadyH.nil
      go_simp
      refine hK.out _ _ (blk_cell (blk_alloc ks_21 _) 0) (fun _ => ?_)
      clear hK K
      (try simp only [Act.put,List.setIfInBounds_toArray,List.set_cons_zero,List.set_cons_succ])
      obtain ⟨v22,ev22⟩ : ∃ x,x = v21.alloc (.cells #[.int .i64 0,.int .i64 0,.int .i64 0,.int .u64 0,.int .u64 0,.int .u64 0,.int .u64 0,.int .i64 0,.int .u64 0,.int .i64 0,.int .i64 0,.int .u64 0,.int .i64 0,.int .i64 0,.int .i64 0,.int .i64 0,.int .i64 0,.int .i64 0,.string ⟨#[]⟩] 29):=⟨_,rfl⟩
      obtain ⟨b22,eb22⟩ : ∃ b,b = v21.heap.size:=⟨_,rfl⟩
      have dks_21_22 : b1 ≠ b22:=(by rw [eb22];have:=blk_lt ks_21;omega)
      have dkt_21_22 : b20 ≠ b22:=(by rw [eb22];have:=blk_lt kt_21;omega)
      have kf_22 : blk v22 b22 = some #[.int .i64 0,.int .i64 0,.int .i64 0,.int .u64 0,.int .u64 0,.int .u64 0,.int .u64 0,.int .i64 0,.int .u64 0,.int .i64 0,.int .i64 0,.int .u64 0,.int .i64 0,.int .i64 0,.int .i64 0,.int .i64 0,.int .i64 0,.int .i64 0,.string ⟨#[]⟩]:=(by rw [ev22];exact blk_alloc_new _ _ _ eb22)
      have ks_22 : blk v22 b1 = some #[.int .u8 (v.toNat : Int)]:=(by rw [ev22];exact blk_alloc ks_21 _)
      have kt_22 : blk v22 b20 = some #[.int .i64 0,.int .i64 0]:=(by rw [ev22];exact blk_alloc kt_21 _)
      have Bv22 : Below w.heap.size w v22:=(by rw [ev22];exact Bv21.alloc Bv21.size _)
      have lb22 : w.heap.size ≤ b22:=(by rw [eb22];exact Bv21.size)
      rw [← ev22,← eb22]
      clear ev22 eb22
      refine wpAnyH_ready (rs:=[28]) (by kernel_rfl) (by simp) ?_
      refine AllReadyH.cons rfl (fun K hK => ?_) AllReadyH.nil
      rw [if_pos (by rfl)]
      obtain ⟨t8,hg8⟩:=blk_row kf_22
      refine wp_store_row 29 (.tmp 8) (.tmp 52) rfl b22 #[.int .i64 0,.int .i64 0,.int .i64 0,.int .u64 0,.int .u64 0,.int .u64 0,.int .u64 0,.int .i64 0,.int .u64 0,.int .i64 0,.int .i64 0,.int .u64 0,.int .i64 0,.int .i64 0,.int .i64 0,.int .i64 0,.int .i64 0,.int .i64 0,.string ⟨#[]⟩] rfl rfl t8 #[.int .i64 0,.int .i64 0,.int .i64 0,.int .u64 0,.int .u64 0,.int .u64 0,.int .u64 0,.int .i64 0,.int .u64 0,.int .i64 0,.int .i64 0,.int .u64 0,.int .i64 0,.int .i64 0,.int .i64 0,.int .i64 0,.int .i64 0,.int .i64 0,.string ⟨#[]⟩] hg8 (by kernel_rfl) rfl (by kernel_rfl) ?_
      rw [setRow_self v22 b22 #[.int .i64 0,.int .i64 0,.int .i64 0,.int .u64 0,.int .u64 0,.int .u64 0,.int .u64 0,.int .i64 0,.int .u64 0,.int .i64 0,.int .i64 0,.int .u64 0,.int .i64 0,.int .i64 0,.int .i64 0,.int .i64 0,.int .i64 0,.int .i64 0,.string ⟨#[]⟩] t8 (0,0) hg8]
      refine hK.out _ _ (blk_cell ks_22 0) (fun hHeld => ?_)
      clear hK K hg8
      (try simp only [Act.put,List.setIfInBounds_toArray,List.set_cons_zero,List.set_cons_succ])
      refine wpAnyH_ready (rs:=[29]) (by kernel_rfl) (by simp) ?_
      refine AllReadyH.cons rfl (fun K hK => ?_) AllReadyH.nil
      rw [if_pos (by rfl)]
      obtain ⟨t9,hg9⟩:=blk_row kt_22
      refine wp_store_row 32 (.tmp 9) (.tmp 53) rfl b20 #[.int .i64 e,.int .i64 a] rfl rfl t9 #[.int .i64 0,.int .i64 0] hg9 (by kernel_rfl) rfl (by kernel_rfl) ?_
      obtain ⟨v24,ev24⟩ : ∃ x,x = v22.setRow b20 #[.int .i64 e,.int .i64 a]:=⟨_,rfl⟩
      have kt_24 : blk v24 b20 = some #[.int .i64 e,.int .i64 a]:=(by rw [ev24];exact blk_setRow kt_22)
      have ks_24 : blk v24 b1 = some #[.int .u8 (v.toNat : Int)]:=(by rw [ev24];exact (blk_kept (setRow_other v22 b20 b1 _ (by first|assumption|(apply Ne.symm;assumption)))).trans ks_22)
      have Bv24 : Below w.heap.size w v24:=(by rw [ev24];exact below_setRow Bv22 (by assumption) _)
      rw [← ev24]
      refine hK.out _ _ (blk_cell ks_24 0) (fun hHeld => ?_)
      clear hK K hg9 ev24
      (try simp only [Act.put,List.setIfInBounds_toArray,List.set_cons_zero,List.set_cons_succ])
      refine wpAnyH_done (by kernel_rfl) ?_ _
      have kz:=kn kt_24
      go_wp2_with (go_at_call 10;(with_reducible refine (ga.out _ (HH.out.on (by (repeat(first|(with_reducible first|assumption|exact Below.refl _ _|refine je ?_|refine jl ?_)|((with_reducible refine jp ?_ ?_);first|focus(dsimp only;assumption)|focus(simp;done)|focus(dsimp only;omega))|(with_reducible refine bt ?_ (by assumption)))))) (HT.out.on (by (repeat(first|(with_reducible first|assumption|exact Below.refl _ _|refine je ?_|refine jl ?_)|((with_reducible refine jp ?_ ?_);first|focus(dsimp only;assumption)|focus(simp;done)|focus(dsimp only;omega))|(with_reducible refine bt ?_ (by assumption))))))).mono ?_);rintro e wa ⟨rfl,ha⟩)
      go_ret
      exact ⟨rfl,bt Bv24 ha⟩
    refine AllReadyH.cons rfl (fun K hK => ?_) AllReadyH.nil
    go_simp
    refine hK.out _ _ (blk_cell (blk_alloc ks_20 _) 0) (fun _ => ?_)
    clear hK K
    (try simp only [Act.put,List.setIfInBounds_toArray,List.set_cons_zero,List.set_cons_succ])
    obtain ⟨v25,ev25⟩ : ∃ x,x = v20.alloc (.cells #[.int .i64 0,.int .i64 0,.int .i64 0,.int .u64 0,.int .u64 0,.int .u64 0,.int .u64 0,.int .i64 0,.int .u64 0,.int .i64 0,.int .i64 0,.int .u64 0,.int .i64 0,.int .i64 0,.int .i64 0,.int .i64 0,.int .i64 0,.int .i64 0,.string ⟨#[]⟩] 29):=⟨_,rfl⟩
    obtain ⟨b25,eb25⟩ : ∃ b,b = v20.heap.size:=⟨_,rfl⟩
    have dks_20_25 : b1 ≠ b25:=(by rw [eb25];have:=blk_lt ks_20;omega)
    have dkt_20_25 : b20 ≠ b25:=(by rw [eb25];have:=blk_lt kt_20;omega)
    have kf_25 : blk v25 b25 = some #[.int .i64 0,.int .i64 0,.int .i64 0,.int .u64 0,.int .u64 0,.int .u64 0,.int .u64 0,.int .i64 0,.int .u64 0,.int .i64 0,.int .i64 0,.int .u64 0,.int .i64 0,.int .i64 0,.int .i64 0,.int .i64 0,.int .i64 0,.int .i64 0,.string ⟨#[]⟩]:=(by rw [ev25];exact blk_alloc_new _ _ _ eb25)
    have ks_25 : blk v25 b1 = some #[.int .u8 (v.toNat : Int)]:=(by rw [ev25];exact blk_alloc ks_20 _)
    have kt_25 : blk v25 b20 = some #[.int .i64 0,.int .i64 0]:=(by rw [ev25];exact blk_alloc kt_20 _)
    have Bv25 : Below w.heap.size w v25:=(by rw [ev25];exact Bv20.alloc Bv20.size _)
    have lb25 : w.heap.size ≤ b25:=(by rw [eb25];exact Bv20.size)
    rw [← ev25,← eb25]
    clear ev25 eb25
    refine wpAnyH_ready (rs:=[22]) (by kernel_rfl) (by simp) ?_
    refine AllReadyH.cons rfl (fun K hK => ?_) AllReadyH.nil
    go_simp
    go_at_call 11
    (with_reducible refine (gd.out _ (HH.out.on Bv25) (HT.out.on Bv25)).mono ?_)
    rintro e v26 ⟨rfl,hv26⟩
    (try go_wp2_with fail)
    have ks_26 : blk v26 b1 = some #[.int .u8 (v.toNat : Int)]:=blk_below hv26 ks_25
    have kt_26 : blk v26 b20 = some #[.int .i64 0,.int .i64 0]:=blk_below hv26 kt_25
    have kf_26 : blk v26 b25 = some #[.int .i64 0,.int .i64 0,.int .i64 0,.int .u64 0,.int .u64 0,.int .u64 0,.int .u64 0,.int .i64 0,.int .u64 0,.int .i64 0,.int .i64 0,.int .u64 0,.int .i64 0,.int .i64 0,.int .i64 0,.int .i64 0,.int .i64 0,.int .i64 0,.string ⟨#[]⟩]:=blk_below hv26 kf_25
    have Bv26 : Below w.heap.size w v26:=bt Bv25 hv26
    clear hv26
    refine hK.out _ _ (blk_cell ks_26 0) (fun hHeld => ?_)
    clear hK K
    (try simp only [Act.put,List.setIfInBounds_toArray,List.set_cons_zero,List.set_cons_succ])
    refine wpAnyH_take (i:=23) (oi:=_) (v:=?_) rfl (by kernel_rfl) (by kernel_rfl) (by kernel_rfl) (fun _ _ _ h => h) (Or.inl ⟨by rfl,?_⟩) (by assumption) ?_
    rotate_left
    · (intro W hSw;(try dsimp only at hSw);go_simp;(try with_reducible rfl))
    (try simp only [Act.put,List.setIfInBounds_toArray,List.set_cons_zero,List.set_cons_succ])
    refine wpAnyH_take (i:=24) (oi:=_) (v:=?_) rfl (by kernel_rfl) (by kernel_rfl) (by kernel_rfl) (fun _ _ _ h => h) (Or.inl ⟨by rfl,?_⟩) (by assumption) ?_
    rotate_left
    · (intro W hSw;(try dsimp only at hSw);go_simp;(try with_reducible rfl))
    (try simp only [Act.put,List.setIfInBounds_toArray,List.set_cons_zero,List.set_cons_succ])
    refine wpAnyH_take (i:=25) (oi:=_) (v:=?_) rfl (by kernel_rfl) (by kernel_rfl) (by kernel_rfl) (fun _ _ _ h => h) (Or.inl ⟨by rfl,?_⟩) (by assumption) ?_
    rotate_left
    · (intro W hSw;(try dsimp only at hSw);go_simp;(try with_reducible rfl))
    (try simp only [Act.put,List.setIfInBounds_toArray,List.set_cons_zero,List.set_cons_succ])
    refine wpAnyH_ready (rs:=[28]) (by kernel_rfl) (by simp) ?_
    refine AllReadyH.cons rfl (fun K hK => ?_) AllReadyH.nil
    rw [if_pos (by rfl)]
    obtain ⟨t8,hg8⟩:=blk_row kf_26
    refine wp_store_row 29 (.tmp 8) (.tmp 52) rfl b25 #[.int .i64 0,.int .i64 0,.int .i64 0,.int .u64 0,.int .u64 0,.int .u64 0,.int .u64 0,.int .i64 0,.int .u64 0,.int .i64 0,.int .i64 0,.int .u64 0,.int .i64 0,.int .i64 0,.int .i64 0,.int .i64 0,.int .i64 0,.int .i64 0,.string ⟨#[]⟩] rfl rfl t8 #[.int .i64 0,.int .i64 0,.int .i64 0,.int .u64 0,.int .u64 0,.int .u64 0,.int .u64 0,.int .i64 0,.int .u64 0,.int .i64 0,.int .i64 0,.int .u64 0,.int .i64 0,.int .i64 0,.int .i64 0,.int .i64 0,.int .i64 0,.int .i64 0,.string ⟨#[]⟩] hg8 (by kernel_rfl) rfl (by kernel_rfl) ?_
    rw [setRow_self v26 b25 #[.int .i64 0,.int .i64 0,.int .i64 0,.int .u64 0,.int .u64 0,.int .u64 0,.int .u64 0,.int .i64 0,.int .u64 0,.int .i64 0,.int .i64 0,.int .u64 0,.int .i64 0,.int .i64 0,.int .i64 0,.int .i64 0,.int .i64 0,.int .i64 0,.string ⟨#[]⟩] t8 (0,0) hg8]
    refine hK.out _ _ (blk_cell ks_26 0) (fun hHeld => ?_)
    clear hK K hg8
    (try simp only [Act.put,List.setIfInBounds_toArray,List.set_cons_zero,List.set_cons_succ])
    refine wpAnyH_ready (rs:=[29]) (by kernel_rfl) (by simp) ?_
    refine AllReadyH.cons rfl (fun K hK => ?_) AllReadyH.nil
    rw [if_pos (by rfl)]
    obtain ⟨t9,hg9⟩:=blk_row kt_26
    refine wp_store_row 32 (.tmp 9) (.tmp 53) rfl b20 #[.int .i64 e,.int .i64 a] rfl rfl t9 #[.int .i64 0,.int .i64 0] hg9 (by kernel_rfl) rfl (by kernel_rfl) ?_
    obtain ⟨v28,ev28⟩ : ∃ x,x = v26.setRow b20 #[.int .i64 e,.int .i64 a]:=⟨_,rfl⟩
    have kt_28 : blk v28 b20 = some #[.int .i64 e,.int .i64 a]:=(by rw [ev28];exact blk_setRow kt_26)
    have ks_28 : blk v28 b1 = some #[.int .u8 (v.toNat : Int)]:=(by rw [ev28];exact (blk_kept (setRow_other v26 b20 b1 _ (by first|assumption|(apply Ne.symm;assumption)))).trans ks_26)
    have Bv28 : Below w.heap.size w v28:=(by rw [ev28];exact below_setRow Bv26 (by assumption) _)
    rw [← ev28]
    refine hK.out _ _ (blk_cell ks_28 0) (fun hHeld => ?_)
    clear hK K hg9 ev28
    (try simp only [Act.put,List.setIfInBounds_toArray,List.set_cons_zero,List.set_cons_succ])
    refine wpAnyH_done (by kernel_rfl) ?_ _
    have kz:=kn kt_28
    go_wp2_with (go_at_call 10;(with_reducible refine (ga.out _ (HH.out.on (by (repeat(first|(with_reducible first|assumption|exact Below.refl _ _|refine je ?_|refine jl ?_)|((with_reducible refine jp ?_ ?_);first|focus(dsimp only;assumption)|focus(simp;done)|focus(dsimp only;omega))|(with_reducible refine bt ?_ (by assumption)))))) (HT.out.on (by (repeat(first|(with_reducible first|assumption|exact Below.refl _ _|refine je ?_|refine jl ?_)|((with_reducible refine jp ?_ ?_);first|focus(dsimp only;assumption)|focus(simp;done)|focus(dsimp only;omega))|(with_reducible refine bt ?_ (by assumption))))))).mono ?_);rintro e wa ⟨rfl,ha⟩)
    go_ret
    exact ⟨rfl,bt Bv28 ha⟩
  refine AllReadyH.cons rfl (fun K hK => ?_) ?_
  · skip
    go_simp
    refine hK.out _ _ trivial (fun _ => ?_)
    clear hK K
    (try simp only [Act.put,List.setIfInBounds_toArray,List.set_cons_zero,List.set_cons_succ])
    obtain ⟨v29,ev29⟩ : ∃ x,x = v0.alloc (.cells #[.int .i64 0,.int .i64 0,.int .i64 0,.int .u64 0,.int .u64 0,.int .u64 0,.int .u64 0,.int .i64 0,.int .u64 0,.int .i64 0,.int .i64 0,.int .u64 0,.int .i64 0,.int .i64 0,.int .i64 0,.int .i64 0,.int .i64 0,.int .i64 0,.string ⟨#[]⟩] 29):=⟨_,rfl⟩
    obtain ⟨b29,eb29⟩ : ∃ b,b = v0.heap.size:=⟨_,rfl⟩
    have kf_29 : blk v29 b29 = some #[.int .i64 0,.int .i64 0,.int .i64 0,.int .u64 0,.int .u64 0,.int .u64 0,.int .u64 0,.int .i64 0,.int .u64 0,.int .i64 0,.int .i64 0,.int .u64 0,.int .i64 0,.int .i64 0,.int .i64 0,.int .i64 0,.int .i64 0,.int .i64 0,.string ⟨#[]⟩]:=(by rw [ev29];exact blk_alloc_new _ _ _ eb29)
    have Bv29 : Below w.heap.size w v29:=(by rw [ev29];exact Bv0.alloc Bv0.size _)
    have lb29 : w.heap.size ≤ b29:=(by rw [eb29];exact Bv0.size)
    rw [← ev29,← eb29]
    clear ev29 eb29
    refine wpAnyH_ready (rs:=[13,27]) (by kernel_rfl) (by simp) ?_
    refine AllReadyH.cons rfl (fun K hK => ?_) ?_
    · skip
      go_simp
      refine hK.out _ _ trivial (fun _ => ?_)
      clear hK K
      (try simp only [Act.put,List.setIfInBounds_toArray,List.set_cons_zero,List.set_cons_succ])
      obtain ⟨v30,ev30⟩ : ∃ x,x = v29.alloc (.cells #[.int .u8 (v.toNat : Int)] 5):=⟨_,rfl⟩
      obtain ⟨b30,eb30⟩ : ∃ b,b = v29.heap.size:=⟨_,rfl⟩
      have dkf_29_30 : b29 ≠ b30:=(by rw [eb30];have:=blk_lt kf_29;omega)
      have ks_30 : blk v30 b30 = some #[.int .u8 (v.toNat : Int)]:=(by rw [ev30];exact blk_alloc_new _ _ _ eb30)
      have kf_30 : blk v30 b29 = some #[.int .i64 0,.int .i64 0,.int .i64 0,.int .u64 0,.int .u64 0,.int .u64 0,.int .u64 0,.int .i64 0,.int .u64 0,.int .i64 0,.int .i64 0,.int .u64 0,.int .i64 0,.int .i64 0,.int .i64 0,.int .i64 0,.int .i64 0,.int .i64 0,.string ⟨#[]⟩]:=(by rw [ev30];exact blk_alloc kf_29 _)
      have Bv30 : Below w.heap.size w v30:=(by rw [ev30];exact Bv29.alloc Bv29.size _)
      have lb30 : w.heap.size ≤ b30:=(by rw [eb30];exact Bv29.size)
      rw [← ev30,← eb30]
      clear ev30 eb30
      have cs30:=blk_cell ks_30 0
      refine wpAnyH_weaken (S2:=fun W => W.cell? ⟨b30,0,none⟩ = some (.int .u8 (v.toNat : Int))) (fun _ _ => trivial) _ _ _ _ ?_
      have hs30 : v30.cell? ⟨b30,0,none⟩ = some (.int .u8 (v.toNat : Int)):=cs30
      refine wpAnyH_take (i:=14) (oi:=_) (v:=?_) rfl (by kernel_rfl) (by kernel_rfl) (by kernel_rfl) (fun _ _ _ h => h) (Or.inl ⟨by rfl,?_⟩) (by assumption) ?_
      rotate_left
      · (intro W hSw;(try dsimp only at hSw);have hcv:=hoc.out W _ _ hSw;go_simp;(try with_reducible rfl))
      (try simp only [Act.put,List.setIfInBounds_toArray,List.set_cons_zero,List.set_cons_succ])
      refine wpAnyH_take (i:=15) (oi:=_) (v:=?_) rfl (by kernel_rfl) (by kernel_rfl) (by kernel_rfl) (fun _ _ _ h => h) (Or.inl ⟨by rfl,?_⟩) (by assumption) ?_
      rotate_left
      · (intro W hSw;(try dsimp only at hSw);go_simp;(try with_reducible rfl))
      (try simp only [Act.put,List.setIfInBounds_toArray,List.set_cons_zero,List.set_cons_succ])
      refine wpAnyH_take (i:=21) (oi:=_) (v:=?_) rfl (by kernel_rfl) (by kernel_rfl) (by kernel_rfl) (fun _ _ _ h => h) (Or.inl ⟨by rfl,?_⟩) (by assumption) ?_
      rotate_left
      · (intro W hSw;(try dsimp only at hSw);go_simp;(try with_reducible rfl))
      (try simp only [Act.put,List.setIfInBounds_toArray,List.set_cons_zero,List.set_cons_succ])
      refine wpAnyH_ready (rs:=[22,27]) (by kernel_rfl) (by simp) ?_
      refine AllReadyH.cons rfl (fun K hK => ?_) ?_
      · skip
        go_simp
        go_at_call 11
        (with_reducible refine (gd.out _ (HH.out.on Bv30) (HT.out.on Bv30)).mono ?_)
        rintro e v31 ⟨rfl,hv31⟩
        (try go_wp2_with fail)
        have kf_31 : blk v31 b29 = some #[.int .i64 0,.int .i64 0,.int .i64 0,.int .u64 0,.int .u64 0,.int .u64 0,.int .u64 0,.int .i64 0,.int .u64 0,.int .i64 0,.int .i64 0,.int .u64 0,.int .i64 0,.int .i64 0,.int .i64 0,.int .i64 0,.int .i64 0,.int .i64 0,.string ⟨#[]⟩]:=blk_below hv31 kf_30
        have ks_31 : blk v31 b30 = some #[.int .u8 (v.toNat : Int)]:=blk_below hv31 ks_30
        have Bv31 : Below w.heap.size w v31:=bt Bv30 hv31
        clear hv31
        refine hK.out _ _ (blk_cell ks_31 0) (fun hHeld => ?_)
        clear hK K
        (try simp only [Act.put,List.setIfInBounds_toArray,List.set_cons_zero,List.set_cons_succ])
        refine wpAnyH_take (i:=23) (oi:=_) (v:=?_) rfl (by kernel_rfl) (by kernel_rfl) (by kernel_rfl) (fun _ _ _ h => h) (Or.inl ⟨by rfl,?_⟩) (by assumption) ?_
        rotate_left
        · (intro W hSw;(try dsimp only at hSw);go_simp;(try with_reducible rfl))
        (try simp only [Act.put,List.setIfInBounds_toArray,List.set_cons_zero,List.set_cons_succ])
        refine wpAnyH_take (i:=24) (oi:=_) (v:=?_) rfl (by kernel_rfl) (by kernel_rfl) (by kernel_rfl) (fun _ _ _ h => h) (Or.inl ⟨by rfl,?_⟩) (by assumption) ?_
        rotate_left
        · (intro W hSw;(try dsimp only at hSw);go_simp;(try with_reducible rfl))
        (try simp only [Act.put,List.setIfInBounds_toArray,List.set_cons_zero,List.set_cons_succ])
        refine wpAnyH_take (i:=25) (oi:=_) (v:=?_) rfl (by kernel_rfl) (by kernel_rfl) (by kernel_rfl) (fun _ _ _ h => h) (Or.inl ⟨by rfl,?_⟩) (by assumption) ?_
        rotate_left
        · (intro W hSw;(try dsimp only at hSw);go_simp;(try with_reducible rfl))
        (try simp only [Act.put,List.setIfInBounds_toArray,List.set_cons_zero,List.set_cons_succ])
        refine wpAnyH_ready (rs:=[27]) (by kernel_rfl) (by simp) ?_
        refine AllReadyH.cons rfl (fun K hK => ?_) AllReadyH.nil
        go_simp
        refine hK.out _ _ (blk_cell (blk_alloc ks_31 _) 0) (fun _ => ?_)
        clear hK K
        (try simp only [Act.put,List.setIfInBounds_toArray,List.set_cons_zero,List.set_cons_succ])
        obtain ⟨v32,ev32⟩ : ∃ x,x = v31.alloc (.cells #[.int .i64 0,.int .i64 0] 32):=⟨_,rfl⟩
        obtain ⟨b32,eb32⟩ : ∃ b,b = v31.heap.size:=⟨_,rfl⟩
        have dkf_31_32 : b29 ≠ b32:=(by rw [eb32];have:=blk_lt kf_31;omega)
        have dks_31_32 : b30 ≠ b32:=(by rw [eb32];have:=blk_lt ks_31;omega)
        have kt_32 : blk v32 b32 = some #[.int .i64 0,.int .i64 0]:=(by rw [ev32];exact blk_alloc_new _ _ _ eb32)
        have kf_32 : blk v32 b29 = some #[.int .i64 0,.int .i64 0,.int .i64 0,.int .u64 0,.int .u64 0,.int .u64 0,.int .u64 0,.int .i64 0,.int .u64 0,.int .i64 0,.int .i64 0,.int .u64 0,.int .i64 0,.int .i64 0,.int .i64 0,.int .i64 0,.int .i64 0,.int .i64 0,.string ⟨#[]⟩]:=(by rw [ev32];exact blk_alloc kf_31 _)
        have ks_32 : blk v32 b30 = some #[.int .u8 (v.toNat : Int)]:=(by rw [ev32];exact blk_alloc ks_31 _)
        have Bv32 : Below w.heap.size w v32:=(by rw [ev32];exact Bv31.alloc Bv31.size _)
        have lb32 : w.heap.size ≤ b32:=(by rw [eb32];exact Bv31.size)
        rw [← ev32,← eb32]
        clear ev32 eb32
        refine wpAnyH_ready (rs:=[28]) (by kernel_rfl) (by simp) ?_
        refine AllReadyH.cons rfl (fun K hK => ?_) AllReadyH.nil
        rw [if_pos (by rfl)]
        obtain ⟨t8,hg8⟩:=blk_row kf_32
        refine wp_store_row 29 (.tmp 8) (.tmp 52) rfl b29 #[.int .i64 0,.int .i64 0,.int .i64 0,.int .u64 0,.int .u64 0,.int .u64 0,.int .u64 0,.int .i64 0,.int .u64 0,.int .i64 0,.int .i64 0,.int .u64 0,.int .i64 0,.int .i64 0,.int .i64 0,.int .i64 0,.int .i64 0,.int .i64 0,.string ⟨#[]⟩] rfl rfl t8 #[.int .i64 0,.int .i64 0,.int .i64 0,.int .u64 0,.int .u64 0,.int .u64 0,.int .u64 0,.int .i64 0,.int .u64 0,.int .i64 0,.int .i64 0,.int .u64 0,.int .i64 0,.int .i64 0,.int .i64 0,.int .i64 0,.int .i64 0,.int .i64 0,.string ⟨#[]⟩] hg8 (by kernel_rfl) rfl (by kernel_rfl) ?_
        rw [setRow_self v32 b29 #[.int .i64 0,.int .i64 0,.int .i64 0,.int .u64 0,.int .u64 0,.int .u64 0,.int .u64 0,.int .i64 0,.int .u64 0,.int .i64 0,.int .i64 0,.int .u64 0,.int .i64 0,.int .i64 0,.int .i64 0,.int .i64 0,.int .i64 0,.int .i64 0,.string ⟨#[]⟩] t8 (0,0) hg8]
        refine hK.out _ _ (blk_cell ks_32 0) (fun hHeld => ?_)
        clear hK K hg8
        (try simp only [Act.put,List.setIfInBounds_toArray,List.set_cons_zero,List.set_cons_succ])
        refine wpAnyH_ready (rs:=[29]) (by kernel_rfl) (by simp) ?_
        refine AllReadyH.cons rfl (fun K hK => ?_) AllReadyH.nil
        rw [if_pos (by rfl)]
        obtain ⟨t9,hg9⟩:=blk_row kt_32
        refine wp_store_row 32 (.tmp 9) (.tmp 53) rfl b32 #[.int .i64 e,.int .i64 a] rfl rfl t9 #[.int .i64 0,.int .i64 0] hg9 (by kernel_rfl) rfl (by kernel_rfl) ?_
        obtain ⟨v34,ev34⟩ : ∃ x,x = v32.setRow b32 #[.int .i64 e,.int .i64 a]:=⟨_,rfl⟩
        have kt_34 : blk v34 b32 = some #[.int .i64 e,.int .i64 a]:=(by rw [ev34];exact blk_setRow kt_32)
        have ks_34 : blk v34 b30 = some #[.int .u8 (v.toNat : Int)]:=(by rw [ev34];exact (blk_kept (setRow_other v32 b32 b30 _ (by first|assumption|(apply Ne.symm;assumption)))).trans ks_32)
        have Bv34 : Below w.heap.size w v34:=(by rw [ev34];exact below_setRow Bv32 (by assumption) _)
        rw [← ev34]
        refine hK.out _ _ (blk_cell ks_34 0) (fun hHeld => ?_)
        clear hK K hg9 ev34
        (try simp only [Act.put,List.setIfInBounds_toArray,List.set_cons_zero,List.set_cons_succ])
        refine wpAnyH_done (by kernel_rfl) ?_ _
        have kz:=kn kt_34
        go_wp2_with (go_at_call 10;(with_reducible refine (ga.out _ (HH.out.on (by (repeat(first|(with_reducible first|assumption|exact Below.refl _ _|refine je ?_|refine jl ?_)|((with_reducible refine jp ?_ ?_);first|focus(dsimp only;assumption)|focus(simp;done)|focus(dsimp only;omega))|(with_reducible refine bt ?_ (by assumption)))))) (HT.out.on (by (repeat(first|(with_reducible first|assumption|exact Below.refl _ _|refine je ?_|refine jl ?_)|((with_reducible refine jp ?_ ?_);first|focus(dsimp only;assumption)|focus(simp;done)|focus(dsimp only;omega))|(with_reducible refine bt ?_ (by assumption))))))).mono ?_);rintro e wa ⟨rfl,ha⟩)
        go_ret
        exact ⟨rfl,bt Bv34 ha⟩
      refine AllReadyH.cons rfl (fun K hK => ?_) AllReadyH.nil
      go_simp
      refine hK.out _ _ (blk_cell (blk_alloc ks_30 _) 0) (fun _ => ?_)
      clear hK K
      (try simp only [Act.put,List.setIfInBounds_toArray,List.set_cons_zero,List.set_cons_succ])
      obtain ⟨v35,ev35⟩ : ∃ x,x = v30.alloc (.cells #[.int .i64 0,.int .i64 0] 32):=⟨_,rfl⟩
      obtain ⟨b35,eb35⟩ : ∃ b,b = v30.heap.size:=⟨_,rfl⟩
      have dkf_30_35 : b29 ≠ b35:=(by rw [eb35];have:=blk_lt kf_30;omega)
      have dks_30_35 : b30 ≠ b35:=(by rw [eb35];have:=blk_lt ks_30;omega)
      have kt_35 : blk v35 b35 = some #[.int .i64 0,.int .i64 0]:=(by rw [ev35];exact blk_alloc_new _ _ _ eb35)
      have kf_35 : blk v35 b29 = some #[.int .i64 0,.int .i64 0,.int .i64 0,.int .u64 0,.int .u64 0,.int .u64 0,.int .u64 0,.int .i64 0,.int .u64 0,.int .i64 0,.int .i64 0,.int .u64 0,.int .i64 0,.int .i64 0,.int .i64 0,.int .i64 0,.int .i64 0,.int .i64 0,.string ⟨#[]⟩]:=(by rw [ev35];exact blk_alloc kf_30 _)
      have ks_35 : blk v35 b30 = some #[.int .u8 (v.toNat : Int)]:=(by rw [ev35];exact blk_alloc ks_30 _)
      have Bv35 : Below w.heap.size w v35:=(by rw [ev35];exact Bv30.alloc Bv30.size _)
      have lb35 : w.heap.size ≤ b35:=(by rw [eb35];exact Bv30.size)
      rw [← ev35,← eb35]
      clear ev35 eb35
      refine wpAnyH_ready (rs:=[22]) (by kernel_rfl) (by simp) ?_
      refine AllReadyH.cons rfl (fun K hK => ?_) AllReadyH.nil
      go_simp
      go_at_call 11
      (with_reducible refine (gd.out _ (HH.out.on Bv35) (HT.out.on Bv35)).mono ?_)
      rintro e v36 ⟨rfl,hv36⟩
      (try go_wp2_with fail)
      have kf_36 : blk v36 b29 = some #[.int .i64 0,.int .i64 0,.int .i64 0,.int .u64 0,.int .u64 0,.int .u64 0,.int .u64 0,.int .i64 0,.int .u64 0,.int .i64 0,.int .i64 0,.int .u64 0,.int .i64 0,.int .i64 0,.int .i64 0,.int .i64 0,.int .i64 0,.int .i64 0,.string ⟨#[]⟩]:=blk_below hv36 kf_35
      have ks_36 : blk v36 b30 = some #[.int .u8 (v.toNat : Int)]:=blk_below hv36 ks_35
      have kt_36 : blk v36 b35 = some #[.int .i64 0,.int .i64 0]:=blk_below hv36 kt_35
      have Bv36 : Below w.heap.size w v36:=bt Bv35 hv36
      clear hv36
      refine hK.out _ _ (blk_cell ks_36 0) (fun hHeld => ?_)
      clear hK K
      (try simp only [Act.put,List.setIfInBounds_toArray,List.set_cons_zero,List.set_cons_succ])
      refine wpAnyH_take (i:=23) (oi:=_) (v:=?_) rfl (by kernel_rfl) (by kernel_rfl) (by kernel_rfl) (fun _ _ _ h => h) (Or.inl ⟨by rfl,?_⟩) (by assumption) ?_
      rotate_left
      · (intro W hSw;(try dsimp only at hSw);go_simp;(try with_reducible rfl))
      (try simp only [Act.put,List.setIfInBounds_toArray,List.set_cons_zero,List.set_cons_succ])
      refine wpAnyH_take (i:=24) (oi:=_) (v:=?_) rfl (by kernel_rfl) (by kernel_rfl) (by kernel_rfl) (fun _ _ _ h => h) (Or.inl ⟨by rfl,?_⟩) (by assumption) ?_
      rotate_left
      · (intro W hSw;(try dsimp only at hSw);go_simp;(try with_reducible rfl))
      (try simp only [Act.put,List.setIfInBounds_toArray,List.set_cons_zero,List.set_cons_succ])
      refine wpAnyH_take (i:=25) (oi:=_) (v:=?_) rfl (by kernel_rfl) (by kernel_rfl) (by kernel_rfl) (fun _ _ _ h => h) (Or.inl ⟨by rfl,?_⟩) (by assumption) ?_
      rotate_left
      · (intro W hSw;(try dsimp only at hSw);go_simp;(try with_reducible rfl))
      (try simp only [Act.put,List.setIfInBounds_toArray,List.set_cons_zero,List.set_cons_succ])
      refine wpAnyH_ready (rs:=[28]) (by kernel_rfl) (by simp) ?_
      refine AllReadyH.cons rfl (fun K hK => ?_) AllReadyH.nil
      rw [if_pos (by rfl)]
      obtain ⟨t8,hg8⟩:=blk_row kf_36
      refine wp_store_row 29 (.tmp 8) (.tmp 52) rfl b29 #[.int .i64 0,.int .i64 0,.int .i64 0,.int .u64 0,.int .u64 0,.int .u64 0,.int .u64 0,.int .i64 0,.int .u64 0,.int .i64 0,.int .i64 0,.int .u64 0,.int .i64 0,.int .i64 0,.int .i64 0,.int .i64 0,.int .i64 0,.int .i64 0,.string ⟨#[]⟩] rfl rfl t8 #[.int .i64 0,.int .i64 0,.int .i64 0,.int .u64 0,.int .u64 0,.int .u64 0,.int .u64 0,.int .i64 0,.int .u64 0,.int .i64 0,.int .i64 0,.int .u64 0,.int .i64 0,.int .i64 0,.int .i64 0,.int .i64 0,.int .i64 0,.int .i64 0,.string ⟨#[]⟩] hg8 (by kernel_rfl) rfl (by kernel_rfl) ?_
      rw [setRow_self v36 b29 #[.int .i64 0,.int .i64 0,.int .i64 0,.int .u64 0,.int .u64 0,.int .u64 0,.int .u64 0,.int .i64 0,.int .u64 0,.int .i64 0,.int .i64 0,.int .u64 0,.int .i64 0,.int .i64 0,.int .i64 0,.int .i64 0,.int .i64 0,.int .i64 0,.string ⟨#[]⟩] t8 (0,0) hg8]
      refine hK.out _ _ (blk_cell ks_36 0) (fun hHeld => ?_)
      clear hK K hg8
      (try simp only [Act.put,List.setIfInBounds_toArray,List.set_cons_zero,List.set_cons_succ])
      refine wpAnyH_ready (rs:=[29]) (by kernel_rfl) (by simp) ?_
      refine AllReadyH.cons rfl (fun K hK => ?_) AllReadyH.nil
      rw [if_pos (by rfl)]
      obtain ⟨t9,hg9⟩:=blk_row kt_36
      refine wp_store_row 32 (.tmp 9) (.tmp 53) rfl b35 #[.int .i64 e,.int .i64 a] rfl rfl t9 #[.int .i64 0,.int .i64 0] hg9 (by kernel_rfl) rfl (by kernel_rfl) ?_
      obtain ⟨v38,ev38⟩ : ∃ x,x = v36.setRow b35 #[.int .i64 e,.int .i64 a]:=⟨_,rfl⟩
      have kt_38 : blk v38 b35 = some #[.int .i64 e,.int .i64 a]:=(by rw [ev38];exact blk_setRow kt_36)
      have ks_38 : blk v38 b30 = some #[.int .u8 (v.toNat : Int)]:=(by rw [ev38];exact (blk_kept (setRow_other v36 b35 b30 _ (by first|assumption|(apply Ne.symm;assumption)))).trans ks_36)
      have Bv38 : Below w.heap.size w v38:=(by rw [ev38];exact below_setRow Bv36 (by assumption) _)
      rw [← ev38]
      refine hK.out _ _ (blk_cell ks_38 0) (fun hHeld => ?_)
      clear hK K hg9 ev38
      (try simp only [Act.put,List.setIfInBounds_toArray,List.set_cons_zero,List.set_cons_succ])
      refine wpAnyH_done (by kernel_rfl) ?_ _
      have kz:=kn kt_38
      go_wp2_with (go_at_call 10;(with_reducible refine (ga.out _ (HH.out.on (by (repeat(first|(with_reducible first|assumption|exact Below.refl _ _|refine je ?_|refine jl ?_)|((with_reducible refine jp ?_ ?_);first|focus(dsimp only;assumption)|focus(simp;done)|focus(dsimp only;omega))|(with_reducible refine bt ?_ (by assumption)))))) (HT.out.on (by (repeat(first|(with_reducible first|assumption|exact Below.refl _ _|refine je ?_|refine jl ?_)|((with_reducible refine jp ?_ ?_);first|focus(dsimp only;assumption)|focus(simp;done)|focus(dsimp only;omega))|(with_reducible refine bt ?_ (by assumption))))))).mono ?_);rintro e wa ⟨rfl,ha⟩)
      go_ret
      exact ⟨rfl,bt Bv38 ha⟩
    refine AllReadyH.cons rfl (fun K hK => ?_) AllReadyH.nil
    go_simp
    refine hK.out _ _ trivial (fun _ => ?_)
    clear hK K
    (try simp only [Act.put,List.setIfInBounds_toArray,List.set_cons_zero,List.set_cons_succ])
    obtain ⟨v39,ev39⟩ : ∃ x,x = v29.alloc (.cells #[.int .i64 0,.int .i64 0] 32):=⟨_,rfl⟩
    obtain ⟨b39,eb39⟩ : ∃ b,b = v29.heap.size:=⟨_,rfl⟩
    have dkf_29_39 : b29 ≠ b39:=(by rw [eb39];have:=blk_lt kf_29;omega)
    have kt_39 : blk v39 b39 = some #[.int .i64 0,.int .i64 0]:=(by rw [ev39];exact blk_alloc_new _ _ _ eb39)
    have kf_39 : blk v39 b29 = some #[.int .i64 0,.int .i64 0,.int .i64 0,.int .u64 0,.int .u64 0,.int .u64 0,.int .u64 0,.int .i64 0,.int .u64 0,.int .i64 0,.int .i64 0,.int .u64 0,.int .i64 0,.int .i64 0,.int .i64 0,.int .i64 0,.int .i64 0,.int .i64 0,.string ⟨#[]⟩]:=(by rw [ev39];exact blk_alloc kf_29 _)
    have Bv39 : Below w.heap.size w v39:=(by rw [ev39];exact Bv29.alloc Bv29.size _)
    have lb39 : w.heap.size ≤ b39:=(by rw [eb39];exact Bv29.size)
    rw [← ev39,← eb39]
    clear ev39 eb39
    refine wpAnyH_ready (rs:=[13]) (by kernel_rfl) (by simp) ?_
    refine AllReadyH.cons rfl (fun K hK => ?_) AllReadyH.nil
    go_simp
    refine hK.out _ _ trivial (fun _ => ?_)
    clear hK K
    (try simp only [Act.put,List.setIfInBounds_toArray,List.set_cons_zero,List.set_cons_succ])
    obtain ⟨v40,ev40⟩ : ∃ x,x = v39.alloc (.cells #[.int .u8 (v.toNat : Int)] 5):=⟨_,rfl⟩
    obtain ⟨b40,eb40⟩ : ∃ b,b = v39.heap.size:=⟨_,rfl⟩
    have dkf_39_40 : b29 ≠ b40:=(by rw [eb40];have:=blk_lt kf_39;omega)
    have dkt_39_40 : b39 ≠ b40:=(by rw [eb40];have:=blk_lt kt_39;omega)
    have ks_40 : blk v40 b40 = some #[.int .u8 (v.toNat : Int)]:=(by rw [ev40];exact blk_alloc_new _ _ _ eb40)
    have kf_40 : blk v40 b29 = some #[.int .i64 0,.int .i64 0,.int .i64 0,.int .u64 0,.int .u64 0,.int .u64 0,.int .u64 0,.int .i64 0,.int .u64 0,.int .i64 0,.int .i64 0,.int .u64 0,.int .i64 0,.int .i64 0,.int .i64 0,.int .i64 0,.int .i64 0,.int .i64 0,.string ⟨#[]⟩]:=(by rw [ev40];exact blk_alloc kf_39 _)
    have kt_40 : blk v40 b39 = some #[.int .i64 0,.int .i64 0]:=(by rw [ev40];exact blk_alloc kt_39 _)
    have Bv40 : Below w.heap.size w v40:=(by rw [ev40];exact Bv39.alloc Bv39.size _)
    have lb40 : w.heap.size ≤ b40:=(by rw [eb40];exact Bv39.size)
    rw [← ev40,← eb40]
    clear ev40 eb40
    have cs40:=blk_cell ks_40 0
    refine wpAnyH_weaken (S2:=fun W => W.cell? ⟨b40,0,none⟩ = some (.int .u8 (v.toNat : Int))) (fun _ _ => trivial) _ _ _ _ ?_
    have hs40 : v40.cell? ⟨b40,0,none⟩ = some (.int .u8 (v.toNat : Int)):=cs40
    refine wpAnyH_take (i:=14) (oi:=_) (v:=?_) rfl (by kernel_rfl) (by kernel_rfl) (by kernel_rfl) (fun _ _ _ h => h) (Or.inl ⟨by rfl,?_⟩) (by assumption) ?_
    rotate_left
    · (intro W hSw;(try dsimp only at hSw);have hcv:=hoc.out W _ _ hSw;go_simp;(try with_reducible rfl))
    (try simp only [Act.put,List.setIfInBounds_toArray,List.set_cons_zero,List.set_cons_succ])
    refine wpAnyH_take (i:=15) (oi:=_) (v:=?_) rfl (by kernel_rfl) (by kernel_rfl) (by kernel_rfl) (fun _ _ _ h => h) (Or.inl ⟨by rfl,?_⟩) (by assumption) ?_
    rotate_left
    · (intro W hSw;(try dsimp only at hSw);go_simp;(try with_reducible rfl))
    (try simp only [Act.put,List.setIfInBounds_toArray,List.set_cons_zero,List.set_cons_succ])
    refine wpAnyH_take (i:=21) (oi:=_) (v:=?_) rfl (by kernel_rfl) (by kernel_rfl) (by kernel_rfl) (fun _ _ _ h => h) (Or.inl ⟨by rfl,?_⟩) (by assumption) ?_
    rotate_left
    · (intro W hSw;(try dsimp only at hSw);go_simp;(try with_reducible rfl))
    (try simp only [Act.put,List.setIfInBounds_toArray,List.set_cons_zero,List.set_cons_succ])
    refine wpAnyH_ready (rs:=[22]) (by kernel_rfl) (by simp) ?_
    refine AllReadyH.cons rfl (fun K hK => ?_) AllReadyH.nil
    go_simp
    go_at_call 11
    (with_reducible refine (gd.out _ (HH.out.on Bv40) (HT.out.on Bv40)).mono ?_)
    rintro e v41 ⟨rfl,hv41⟩
    (try go_wp2_with fail)
    have kf_41 : blk v41 b29 = some #[.int .i64 0,.int .i64 0,.int .i64 0,.int .u64 0,.int .u64 0,.int .u64 0,.int .u64 0,.int .i64 0,.int .u64 0,.int .i64 0,.int .i64 0,.int .u64 0,.int .i64 0,.int .i64 0,.int .i64 0,.int .i64 0,.int .i64 0,.int .i64 0,.string ⟨#[]⟩]:=blk_below hv41 kf_40
    have kt_41 : blk v41 b39 = some #[.int .i64 0,.int .i64 0]:=blk_below hv41 kt_40
    have ks_41 : blk v41 b40 = some #[.int .u8 (v.toNat : Int)]:=blk_below hv41 ks_40
    have Bv41 : Below w.heap.size w v41:=bt Bv40 hv41
    clear hv41
    refine hK.out _ _ (blk_cell ks_41 0) (fun hHeld => ?_)
    clear hK K
    (try simp only [Act.put,List.setIfInBounds_toArray,List.set_cons_zero,List.set_cons_succ])
    refine wpAnyH_take (i:=23) (oi:=_) (v:=?_) rfl (by kernel_rfl) (by kernel_rfl) (by kernel_rfl) (fun _ _ _ h => h) (Or.inl ⟨by rfl,?_⟩) (by assumption) ?_
    rotate_left
    · (intro W hSw;(try dsimp only at hSw);go_simp;(try with_reducible rfl))
    (try simp only [Act.put,List.setIfInBounds_toArray,List.set_cons_zero,List.set_cons_succ])
    refine wpAnyH_take (i:=24) (oi:=_) (v:=?_) rfl (by kernel_rfl) (by kernel_rfl) (by kernel_rfl) (fun _ _ _ h => h) (Or.inl ⟨by rfl,?_⟩) (by assumption) ?_
    rotate_left
    · (intro W hSw;(try dsimp only at hSw);go_simp;(try with_reducible rfl))
    (try simp only [Act.put,List.setIfInBounds_toArray,List.set_cons_zero,List.set_cons_succ])
    refine wpAnyH_take (i:=25) (oi:=_) (v:=?_) rfl (by kernel_rfl) (by kernel_rfl) (by kernel_rfl) (fun _ _ _ h => h) (Or.inl ⟨by rfl,?_⟩) (by assumption) ?_
    rotate_left
    · (intro W hSw;(try dsimp only at hSw);go_simp;(try with_reducible rfl))
    (try simp only [Act.put,List.setIfInBounds_toArray,List.set_cons_zero,List.set_cons_succ])
    refine wpAnyH_ready (rs:=[28]) (by kernel_rfl) (by simp) ?_
    refine AllReadyH.cons rfl (fun K hK => ?_) AllReadyH.nil
    rw [if_pos (by rfl)]
    obtain ⟨t8,hg8⟩:=blk_row kf_41
    refine wp_store_row 29 (.tmp 8) (.tmp 52) rfl b29 #[.int .i64 0,.int .i64 0,.int .i64 0,.int .u64 0,.int .u64 0,.int .u64 0,.int .u64 0,.int .i64 0,.int .u64 0,.int .i64 0,.int .i64 0,.int .u64 0,.int .i64 0,.int .i64 0,.int .i64 0,.int .i64 0,.int .i64 0,.int .i64 0,.string ⟨#[]⟩] rfl rfl t8 #[.int .i64 0,.int .i64 0,.int .i64 0,.int .u64 0,.int .u64 0,.int .u64 0,.int .u64 0,.int .i64 0,.int .u64 0,.int .i64 0,.int .i64 0,.int .u64 0,.int .i64 0,.int .i64 0,.int .i64 0,.int .i64 0,.int .i64 0,.int .i64 0,.string ⟨#[]⟩] hg8 (by kernel_rfl) rfl (by kernel_rfl) ?_
    rw [setRow_self v41 b29 #[.int .i64 0,.int .i64 0,.int .i64 0,.int .u64 0,.int .u64 0,.int .u64 0,.int .u64 0,.int .i64 0,.int .u64 0,.int .i64 0,.int .i64 0,.int .u64 0,.int .i64 0,.int .i64 0,.int .i64 0,.int .i64 0,.int .i64 0,.int .i64 0,.string ⟨#[]⟩] t8 (0,0) hg8]
    refine hK.out _ _ (blk_cell ks_41 0) (fun hHeld => ?_)
    clear hK K hg8
    (try simp only [Act.put,List.setIfInBounds_toArray,List.set_cons_zero,List.set_cons_succ])
    refine wpAnyH_ready (rs:=[29]) (by kernel_rfl) (by simp) ?_
    refine AllReadyH.cons rfl (fun K hK => ?_) AllReadyH.nil
    rw [if_pos (by rfl)]
    obtain ⟨t9,hg9⟩:=blk_row kt_41
    refine wp_store_row 32 (.tmp 9) (.tmp 53) rfl b39 #[.int .i64 e,.int .i64 a] rfl rfl t9 #[.int .i64 0,.int .i64 0] hg9 (by kernel_rfl) rfl (by kernel_rfl) ?_
    obtain ⟨v43,ev43⟩ : ∃ x,x = v41.setRow b39 #[.int .i64 e,.int .i64 a]:=⟨_,rfl⟩
    have kt_43 : blk v43 b39 = some #[.int .i64 e,.int .i64 a]:=(by rw [ev43];exact blk_setRow kt_41)
    have ks_43 : blk v43 b40 = some #[.int .u8 (v.toNat : Int)]:=(by rw [ev43];exact (blk_kept (setRow_other v41 b39 b40 _ (by first|assumption|(apply Ne.symm;assumption)))).trans ks_41)
    have Bv43 : Below w.heap.size w v43:=(by rw [ev43];exact below_setRow Bv41 (by assumption) _)
    rw [← ev43]
    refine hK.out _ _ (blk_cell ks_43 0) (fun hHeld => ?_)
    clear hK K hg9 ev43
    (try simp only [Act.put,List.setIfInBounds_toArray,List.set_cons_zero,List.set_cons_succ])
    refine wpAnyH_done (by kernel_rfl) ?_ _
    have kz:=kn kt_43
    go_wp2_with (go_at_call 10;(with_reducible refine (ga.out _ (HH.out.on (by (repeat(first|(with_reducible first|assumption|exact Below.refl _ _|refine je ?_|refine jl ?_)|((with_reducible refine jp ?_ ?_);first|focus(dsimp only;assumption)|focus(simp;done)|focus(dsimp only;omega))|(with_reducible refine bt ?_ (by assumption)))))) (HT.out.on (by (repeat(first|(with_reducible first|assumption|exact Below.refl _ _|refine je ?_|refine jl ?_)|((with_reducible refine jp ?_ ?_);first|focus(dsimp only;assumption)|focus(simp;done)|focus(dsimp only;omega))|(with_reducible refine bt ?_ (by assumption))))))).mono ?_);rintro e wa ⟨rfl,ha⟩)
    go_ret
    exact ⟨rfl,bt Bv43 ha⟩
  refine AllReadyH.cons rfl (fun K hK => ?_) AllReadyH.nil
  go_simp
  refine hK.out _ _ trivial (fun _ => ?_)
  clear hK K
  (try simp only [Act.put,List.setIfInBounds_toArray,List.set_cons_zero,List.set_cons_succ])
  obtain ⟨v44,ev44⟩ : ∃ x,x = v0.alloc (.cells #[.int .i64 0,.int .i64 0] 32):=⟨_,rfl⟩
  obtain ⟨b44,eb44⟩ : ∃ b,b = v0.heap.size:=⟨_,rfl⟩
  have kt_44 : blk v44 b44 = some #[.int .i64 0,.int .i64 0]:=(by rw [ev44];exact blk_alloc_new _ _ _ eb44)
  have Bv44 : Below w.heap.size w v44:=(by rw [ev44];exact Bv0.alloc Bv0.size _)
  have lb44 : w.heap.size ≤ b44:=(by rw [eb44];exact Bv0.size)
  rw [← ev44,← eb44]
  clear ev44 eb44
  refine wpAnyH_ready (rs:=[13,26]) (by kernel_rfl) (by simp) ?_
  refine AllReadyH.cons rfl (fun K hK => ?_) ?_
  · skip
    go_simp
    refine hK.out _ _ trivial (fun _ => ?_)
    clear hK K
    (try simp only [Act.put,List.setIfInBounds_toArray,List.set_cons_zero,List.set_cons_succ])
    obtain ⟨v45,ev45⟩ : ∃ x,x = v44.alloc (.cells #[.int .u8 (v.toNat : Int)] 5):=⟨_,rfl⟩
    obtain ⟨b45,eb45⟩ : ∃ b,b = v44.heap.size:=⟨_,rfl⟩
    have dkt_44_45 : b44 ≠ b45:=(by rw [eb45];have:=blk_lt kt_44;omega)
    have ks_45 : blk v45 b45 = some #[.int .u8 (v.toNat : Int)]:=(by rw [ev45];exact blk_alloc_new _ _ _ eb45)
    have kt_45 : blk v45 b44 = some #[.int .i64 0,.int .i64 0]:=(by rw [ev45];exact blk_alloc kt_44 _)
    have Bv45 : Below w.heap.size w v45:=(by rw [ev45];exact Bv44.alloc Bv44.size _)
    have lb45 : w.heap.size ≤ b45:=(by rw [eb45];exact Bv44.size)
    rw [← ev45,← eb45]
    clear ev45 eb45
    have cs45:=blk_cell ks_45 0
    refine wpAnyH_weaken (S2:=fun W => W.cell? ⟨b45,0,none⟩ = some (.int .u8 (v.toNat : Int))) (fun _ _ => trivial) _ _ _ _ ?_
    have hs45 : v45.cell? ⟨b45,0,none⟩ = some (.int .u8 (v.toNat : Int)):=cs45
    refine wpAnyH_take (i:=14) (oi:=_) (v:=?_) rfl (by kernel_rfl) (by kernel_rfl) (by kernel_rfl) (fun _ _ _ h => h) (Or.inl ⟨by rfl,?_⟩) (by assumption) ?_
    rotate_left
    · (intro W hSw;(try dsimp only at hSw);have hcv:=hoc.out W _ _ hSw;go_simp;(try with_reducible rfl))
    (try simp only [Act.put,List.setIfInBounds_toArray,List.set_cons_zero,List.set_cons_succ])
    refine wpAnyH_take (i:=15) (oi:=_) (v:=?_) rfl (by kernel_rfl) (by kernel_rfl) (by kernel_rfl) (fun _ _ _ h => h) (Or.inl ⟨by rfl,?_⟩) (by assumption) ?_
    rotate_left
    · (intro W hSw;(try dsimp only at hSw);go_simp;(try with_reducible rfl))
    (try simp only [Act.put,List.setIfInBounds_toArray,List.set_cons_zero,List.set_cons_succ])
    refine wpAnyH_take (i:=21) (oi:=_) (v:=?_) rfl (by kernel_rfl) (by kernel_rfl) (by kernel_rfl) (fun _ _ _ h => h) (Or.inl ⟨by rfl,?_⟩) (by assumption) ?_
    rotate_left
    · (intro W hSw;(try dsimp only at hSw);go_simp;(try with_reducible rfl))
    (try simp only [Act.put,List.setIfInBounds_toArray,List.set_cons_zero,List.set_cons_succ])
    refine wpAnyH_ready (rs:=[22,26]) (by kernel_rfl) (by simp) ?_
    refine AllReadyH.cons rfl (fun K hK => ?_) ?_
    · skip
      go_simp
      go_at_call 11
      (with_reducible refine (gd.out _ (HH.out.on Bv45) (HT.out.on Bv45)).mono ?_)
      rintro e v46 ⟨rfl,hv46⟩
      (try go_wp2_with fail)
      have kt_46 : blk v46 b44 = some #[.int .i64 0,.int .i64 0]:=blk_below hv46 kt_45
      have ks_46 : blk v46 b45 = some #[.int .u8 (v.toNat : Int)]:=blk_below hv46 ks_45
      have Bv46 : Below w.heap.size w v46:=bt Bv45 hv46
      clear hv46
      refine hK.out _ _ (blk_cell ks_46 0) (fun hHeld => ?_)
      clear hK K
      (try simp only [Act.put,List.setIfInBounds_toArray,List.set_cons_zero,List.set_cons_succ])
      refine wpAnyH_take (i:=23) (oi:=_) (v:=?_) rfl (by kernel_rfl) (by kernel_rfl) (by kernel_rfl) (fun _ _ _ h => h) (Or.inl ⟨by rfl,?_⟩) (by assumption) ?_
      rotate_left
      · (intro W hSw;(try dsimp only at hSw);go_simp;(try with_reducible rfl))
      (try simp only [Act.put,List.setIfInBounds_toArray,List.set_cons_zero,List.set_cons_succ])
      refine wpAnyH_take (i:=24) (oi:=_) (v:=?_) rfl (by kernel_rfl) (by kernel_rfl) (by kernel_rfl) (fun _ _ _ h => h) (Or.inl ⟨by rfl,?_⟩) (by assumption) ?_
      rotate_left
      · (intro W hSw;(try dsimp only at hSw);go_simp;(try with_reducible rfl))
      (try simp only [Act.put,List.setIfInBounds_toArray,List.set_cons_zero,List.set_cons_succ])
      refine wpAnyH_take (i:=25) (oi:=_) (v:=?_) rfl (by kernel_rfl) (by kernel_rfl) (by kernel_rfl) (fun _ _ _ h => h) (Or.inl ⟨by rfl,?_⟩) (by assumption) ?_
      rotate_left
      · (intro W hSw;(try dsimp only at hSw);go_simp;(try with_reducible rfl))
      (try simp only [Act.put,List.setIfInBounds_toArray,List.set_cons_zero,List.set_cons_succ])
      refine wpAnyH_ready (rs:=[26]) (by kernel_rfl) (by simp) ?_
      refine AllReadyH.cons rfl (fun K hK => ?_) AllReadyH.nil
      go_simp
      refine hK.out _ _ (blk_cell (blk_alloc ks_46 _) 0) (fun _ => ?_)
      clear hK K
      (try simp only [Act.put,List.setIfInBounds_toArray,List.set_cons_zero,List.set_cons_succ])
      obtain ⟨v47,ev47⟩ : ∃ x,x = v46.alloc (.cells #[.int .i64 0,.int .i64 0,.int .i64 0,.int .u64 0,.int .u64 0,.int .u64 0,.int .u64 0,.int .i64 0,.int .u64 0,.int .i64 0,.int .i64 0,.int .u64 0,.int .i64 0,.int .i64 0,.int .i64 0,.int .i64 0,.int .i64 0,.int .i64 0,.string ⟨#[]⟩] 29):=⟨_,rfl⟩
      obtain ⟨b47,eb47⟩ : ∃ b,b = v46.heap.size:=⟨_,rfl⟩
      have dkt_46_47 : b44 ≠ b47:=(by rw [eb47];have:=blk_lt kt_46;omega)
      have dks_46_47 : b45 ≠ b47:=(by rw [eb47];have:=blk_lt ks_46;omega)
      have kf_47 : blk v47 b47 = some #[.int .i64 0,.int .i64 0,.int .i64 0,.int .u64 0,.int .u64 0,.int .u64 0,.int .u64 0,.int .i64 0,.int .u64 0,.int .i64 0,.int .i64 0,.int .u64 0,.int .i64 0,.int .i64 0,.int .i64 0,.int .i64 0,.int .i64 0,.int .i64 0,.string ⟨#[]⟩]:=(by rw [ev47];exact blk_alloc_new _ _ _ eb47)
      have kt_47 : blk v47 b44 = some #[.int .i64 0,.int .i64 0]:=(by rw [ev47];exact blk_alloc kt_46 _)
      have ks_47 : blk v47 b45 = some #[.int .u8 (v.toNat : Int)]:=(by rw [ev47];exact blk_alloc ks_46 _)
      have Bv47 : Below w.heap.size w v47:=(by rw [ev47];exact Bv46.alloc Bv46.size _)
      have lb47 : w.heap.size ≤ b47:=(by rw [eb47];exact Bv46.size)
      rw [← ev47,← eb47]
      clear ev47 eb47
      refine wpAnyH_ready (rs:=[28]) (by kernel_rfl) (by simp) ?_
      refine AllReadyH.cons rfl (fun K hK => ?_) AllReadyH.nil
      rw [if_pos (by rfl)]
      obtain ⟨t8,hg8⟩:=blk_row kf_47
      refine wp_store_row 29 (.tmp 8) (.tmp 52) rfl b47 #[.int .i64 0,.int .i64 0,.int .i64 0,.int .u64 0,.int .u64 0,.int .u64 0,.int .u64 0,.int .i64 0,.int .u64 0,.int .i64 0,.int .i64 0,.int .u64 0,.int .i64 0,.int .i64 0,.int .i64 0,.int .i64 0,.int .i64 0,.int .i64 0,.string ⟨#[]⟩] rfl rfl t8 #[.int .i64 0,.int .i64 0,.int .i64 0,.int .u64 0,.int .u64 0,.int .u64 0,.int .u64 0,.int .i64 0,.int .u64 0,.int .i64 0,.int .i64 0,.int .u64 0,.int .i64 0,.int .i64 0,.int .i64 0,.int .i64 0,.int .i64 0,.int .i64 0,.string ⟨#[]⟩] hg8 (by kernel_rfl) rfl (by kernel_rfl) ?_
      rw [setRow_self v47 b47 #[.int .i64 0,.int .i64 0,.int .i64 0,.int .u64 0,.int .u64 0,.int .u64 0,.int .u64 0,.int .i64 0,.int .u64 0,.int .i64 0,.int .i64 0,.int .u64 0,.int .i64 0,.int .i64 0,.int .i64 0,.int .i64 0,.int .i64 0,.int .i64 0,.string ⟨#[]⟩] t8 (0,0) hg8]
      refine hK.out _ _ (blk_cell ks_47 0) (fun hHeld => ?_)
      clear hK K hg8
      (try simp only [Act.put,List.setIfInBounds_toArray,List.set_cons_zero,List.set_cons_succ])
      refine wpAnyH_ready (rs:=[29]) (by kernel_rfl) (by simp) ?_
      refine AllReadyH.cons rfl (fun K hK => ?_) AllReadyH.nil
      rw [if_pos (by rfl)]
      obtain ⟨t9,hg9⟩:=blk_row kt_47
      refine wp_store_row 32 (.tmp 9) (.tmp 53) rfl b44 #[.int .i64 e,.int .i64 a] rfl rfl t9 #[.int .i64 0,.int .i64 0] hg9 (by kernel_rfl) rfl (by kernel_rfl) ?_
      obtain ⟨v49,ev49⟩ : ∃ x,x = v47.setRow b44 #[.int .i64 e,.int .i64 a]:=⟨_,rfl⟩
      have kt_49 : blk v49 b44 = some #[.int .i64 e,.int .i64 a]:=(by rw [ev49];exact blk_setRow kt_47)
      have ks_49 : blk v49 b45 = some #[.int .u8 (v.toNat : Int)]:=(by rw [ev49];exact (blk_kept (setRow_other v47 b44 b45 _ (by first|assumption|(apply Ne.symm;assumption)))).trans ks_47)
      have Bv49 : Below w.heap.size w v49:=(by rw [ev49];exact below_setRow Bv47 (by assumption) _)
      rw [← ev49]
      refine hK.out _ _ (blk_cell ks_49 0) (fun hHeld => ?_)
      clear hK K hg9 ev49
      (try simp only [Act.put,List.setIfInBounds_toArray,List.set_cons_zero,List.set_cons_succ])
      refine wpAnyH_done (by kernel_rfl) ?_ _
      have kz:=kn kt_49
      go_wp2_with (go_at_call 10;(with_reducible refine (ga.out _ (HH.out.on (by (repeat(first|(with_reducible first|assumption|exact Below.refl _ _|refine je ?_|refine jl ?_)|((with_reducible refine jp ?_ ?_);first|focus(dsimp only;assumption)|focus(simp;done)|focus(dsimp only;omega))|(with_reducible refine bt ?_ (by assumption)))))) (HT.out.on (by (repeat(first|(with_reducible first|assumption|exact Below.refl _ _|refine je ?_|refine jl ?_)|((with_reducible refine jp ?_ ?_);first|focus(dsimp only;assumption)|focus(simp;done)|focus(dsimp only;omega))|(with_reducible refine bt ?_ (by assumption))))))).mono ?_);rintro e wa ⟨rfl,ha⟩)
      go_ret
      exact ⟨rfl,bt Bv49 ha⟩
    refine AllReadyH.cons rfl (fun K hK => ?_) AllReadyH.nil
    go_simp
    refine hK.out _ _ (blk_cell (blk_alloc ks_45 _) 0) (fun _ => ?_)
    clear hK K
    (try simp only [Act.put,List.setIfInBounds_toArray,List.set_cons_zero,List.set_cons_succ])
    obtain ⟨v50,ev50⟩ : ∃ x,x = v45.alloc (.cells #[.int .i64 0,.int .i64 0,.int .i64 0,.int .u64 0,.int .u64 0,.int .u64 0,.int .u64 0,.int .i64 0,.int .u64 0,.int .i64 0,.int .i64 0,.int .u64 0,.int .i64 0,.int .i64 0,.int .i64 0,.int .i64 0,.int .i64 0,.int .i64 0,.string ⟨#[]⟩] 29):=⟨_,rfl⟩
    obtain ⟨b50,eb50⟩ : ∃ b,b = v45.heap.size:=⟨_,rfl⟩
    have dkt_45_50 : b44 ≠ b50:=(by rw [eb50];have:=blk_lt kt_45;omega)
    have dks_45_50 : b45 ≠ b50:=(by rw [eb50];have:=blk_lt ks_45;omega)
    have kf_50 : blk v50 b50 = some #[.int .i64 0,.int .i64 0,.int .i64 0,.int .u64 0,.int .u64 0,.int .u64 0,.int .u64 0,.int .i64 0,.int .u64 0,.int .i64 0,.int .i64 0,.int .u64 0,.int .i64 0,.int .i64 0,.int .i64 0,.int .i64 0,.int .i64 0,.int .i64 0,.string ⟨#[]⟩]:=(by rw [ev50];exact blk_alloc_new _ _ _ eb50)
    have kt_50 : blk v50 b44 = some #[.int .i64 0,.int .i64 0]:=(by rw [ev50];exact blk_alloc kt_45 _)
    have ks_50 : blk v50 b45 = some #[.int .u8 (v.toNat : Int)]:=(by rw [ev50];exact blk_alloc ks_45 _)
    have Bv50 : Below w.heap.size w v50:=(by rw [ev50];exact Bv45.alloc Bv45.size _)
    have lb50 : w.heap.size ≤ b50:=(by rw [eb50];exact Bv45.size)
    rw [← ev50,← eb50]
    clear ev50 eb50
    refine wpAnyH_ready (rs:=[22]) (by kernel_rfl) (by simp) ?_
    refine AllReadyH.cons rfl (fun K hK => ?_) AllReadyH.nil
    go_simp
    go_at_call 11
    (with_reducible refine (gd.out _ (HH.out.on Bv50) (HT.out.on Bv50)).mono ?_)
    rintro e v51 ⟨rfl,hv51⟩
    (try go_wp2_with fail)
    have kt_51 : blk v51 b44 = some #[.int .i64 0,.int .i64 0]:=blk_below hv51 kt_50
    have ks_51 : blk v51 b45 = some #[.int .u8 (v.toNat : Int)]:=blk_below hv51 ks_50
    have kf_51 : blk v51 b50 = some #[.int .i64 0,.int .i64 0,.int .i64 0,.int .u64 0,.int .u64 0,.int .u64 0,.int .u64 0,.int .i64 0,.int .u64 0,.int .i64 0,.int .i64 0,.int .u64 0,.int .i64 0,.int .i64 0,.int .i64 0,.int .i64 0,.int .i64 0,.int .i64 0,.string ⟨#[]⟩]:=blk_below hv51 kf_50
    have Bv51 : Below w.heap.size w v51:=bt Bv50 hv51
    clear hv51
    refine hK.out _ _ (blk_cell ks_51 0) (fun hHeld => ?_)
    clear hK K
    (try simp only [Act.put,List.setIfInBounds_toArray,List.set_cons_zero,List.set_cons_succ])
    refine wpAnyH_take (i:=23) (oi:=_) (v:=?_) rfl (by kernel_rfl) (by kernel_rfl) (by kernel_rfl) (fun _ _ _ h => h) (Or.inl ⟨by rfl,?_⟩) (by assumption) ?_
    rotate_left
    · (intro W hSw;(try dsimp only at hSw);go_simp;(try with_reducible rfl))
    (try simp only [Act.put,List.setIfInBounds_toArray,List.set_cons_zero,List.set_cons_succ])
    refine wpAnyH_take (i:=24) (oi:=_) (v:=?_) rfl (by kernel_rfl) (by kernel_rfl) (by kernel_rfl) (fun _ _ _ h => h) (Or.inl ⟨by rfl,?_⟩) (by assumption) ?_
    rotate_left
    · (intro W hSw;(try dsimp only at hSw);go_simp;(try with_reducible rfl))
    (try simp only [Act.put,List.setIfInBounds_toArray,List.set_cons_zero,List.set_cons_succ])
    refine wpAnyH_take (i:=25) (oi:=_) (v:=?_) rfl (by kernel_rfl) (by kernel_rfl) (by kernel_rfl) (fun _ _ _ h => h) (Or.inl ⟨by rfl,?_⟩) (by assumption) ?_
    rotate_left
    · (intro W hSw;(try dsimp only at hSw);go_simp;(try with_reducible rfl))
    (try simp only [Act.put,List.setIfInBounds_toArray,List.set_cons_zero,List.set_cons_succ])
    refine wpAnyH_ready (rs:=[28]) (by kernel_rfl) (by simp) ?_
    refine AllReadyH.cons rfl (fun K hK => ?_) AllReadyH.nil
    rw [if_pos (by rfl)]
    obtain ⟨t8,hg8⟩:=blk_row kf_51
    refine wp_store_row 29 (.tmp 8) (.tmp 52) rfl b50 #[.int .i64 0,.int .i64 0,.int .i64 0,.int .u64 0,.int .u64 0,.int .u64 0,.int .u64 0,.int .i64 0,.int .u64 0,.int .i64 0,.int .i64 0,.int .u64 0,.int .i64 0,.int .i64 0,.int .i64 0,.int .i64 0,.int .i64 0,.int .i64 0,.string ⟨#[]⟩] rfl rfl t8 #[.int .i64 0,.int .i64 0,.int .i64 0,.int .u64 0,.int .u64 0,.int .u64 0,.int .u64 0,.int .i64 0,.int .u64 0,.int .i64 0,.int .i64 0,.int .u64 0,.int .i64 0,.int .i64 0,.int .i64 0,.int .i64 0,.int .i64 0,.int .i64 0,.string ⟨#[]⟩] hg8 (by kernel_rfl) rfl (by kernel_rfl) ?_
    rw [setRow_self v51 b50 #[.int .i64 0,.int .i64 0,.int .i64 0,.int .u64 0,.int .u64 0,.int .u64 0,.int .u64 0,.int .i64 0,.int .u64 0,.int .i64 0,.int .i64 0,.int .u64 0,.int .i64 0,.int .i64 0,.int .i64 0,.int .i64 0,.int .i64 0,.int .i64 0,.string ⟨#[]⟩] t8 (0,0) hg8]
    refine hK.out _ _ (blk_cell ks_51 0) (fun hHeld => ?_)
    clear hK K hg8
    (try simp only [Act.put,List.setIfInBounds_toArray,List.set_cons_zero,List.set_cons_succ])
    refine wpAnyH_ready (rs:=[29]) (by kernel_rfl) (by simp) ?_
    refine AllReadyH.cons rfl (fun K hK => ?_) AllReadyH.nil
    rw [if_pos (by rfl)]
    obtain ⟨t9,hg9⟩:=blk_row kt_51
    refine wp_store_row 32 (.tmp 9) (.tmp 53) rfl b44 #[.int .i64 e,.int .i64 a] rfl rfl t9 #[.int .i64 0,.int .i64 0] hg9 (by kernel_rfl) rfl (by kernel_rfl) ?_
    obtain ⟨v53,ev53⟩ : ∃ x,x = v51.setRow b44 #[.int .i64 e,.int .i64 a]:=⟨_,rfl⟩
    have kt_53 : blk v53 b44 = some #[.int .i64 e,.int .i64 a]:=(by rw [ev53];exact blk_setRow kt_51)
    have ks_53 : blk v53 b45 = some #[.int .u8 (v.toNat : Int)]:=(by rw [ev53];exact (blk_kept (setRow_other v51 b44 b45 _ (by first|assumption|(apply Ne.symm;assumption)))).trans ks_51)
    have Bv53 : Below w.heap.size w v53:=(by rw [ev53];exact below_setRow Bv51 (by assumption) _)
    rw [← ev53]
    refine hK.out _ _ (blk_cell ks_53 0) (fun hHeld => ?_)
    clear hK K hg9 ev53
    (try simp only [Act.put,List.setIfInBounds_toArray,List.set_cons_zero,List.set_cons_succ])
    refine wpAnyH_done (by kernel_rfl) ?_ _
    have kz:=kn kt_53
    go_wp2_with (go_at_call 10;(with_reducible refine (ga.out _ (HH.out.on (by (repeat(first|(with_reducible first|assumption|exact Below.refl _ _|refine je ?_|refine jl ?_)|((with_reducible refine jp ?_ ?_);first|focus(dsimp only;assumption)|focus(simp;done)|focus(dsimp only;omega))|(with_reducible refine bt ?_ (by assumption)))))) (HT.out.on (by (repeat(first|(with_reducible first|assumption|exact Below.refl _ _|refine je ?_|refine jl ?_)|((with_reducible refine jp ?_ ?_);first|focus(dsimp only;assumption)|focus(simp;done)|focus(dsimp only;omega))|(with_reducible refine bt ?_ (by assumption))))))).mono ?_);rintro e wa ⟨rfl,ha⟩)
    go_ret
    exact ⟨rfl,bt Bv53 ha⟩
  refine AllReadyH.cons rfl (fun K hK => ?_) AllReadyH.nil
  go_simp
  refine hK.out _ _ trivial (fun _ => ?_)
  clear hK K
  (try simp only [Act.put,List.setIfInBounds_toArray,List.set_cons_zero,List.set_cons_succ])
  obtain ⟨v54,ev54⟩ : ∃ x,x = v44.alloc (.cells #[.int .i64 0,.int .i64 0,.int .i64 0,.int .u64 0,.int .u64 0,.int .u64 0,.int .u64 0,.int .i64 0,.int .u64 0,.int .i64 0,.int .i64 0,.int .u64 0,.int .i64 0,.int .i64 0,.int .i64 0,.int .i64 0,.int .i64 0,.int .i64 0,.string ⟨#[]⟩] 29):=⟨_,rfl⟩
  obtain ⟨b54,eb54⟩ : ∃ b,b = v44.heap.size:=⟨_,rfl⟩
  have dkt_44_54 : b44 ≠ b54:=(by rw [eb54];have:=blk_lt kt_44;omega)
  have kf_54 : blk v54 b54 = some #[.int .i64 0,.int .i64 0,.int .i64 0,.int .u64 0,.int .u64 0,.int .u64 0,.int .u64 0,.int .i64 0,.int .u64 0,.int .i64 0,.int .i64 0,.int .u64 0,.int .i64 0,.int .i64 0,.int .i64 0,.int .i64 0,.int .i64 0,.int .i64 0,.string ⟨#[]⟩]:=(by rw [ev54];exact blk_alloc_new _ _ _ eb54)
  have kt_54 : blk v54 b44 = some #[.int .i64 0,.int .i64 0]:=(by rw [ev54];exact blk_alloc kt_44 _)
  have Bv54 : Below w.heap.size w v54:=(by rw [ev54];exact Bv44.alloc Bv44.size _)
  have lb54 : w.heap.size ≤ b54:=(by rw [eb54];exact Bv44.size)
  rw [← ev54,← eb54]
  clear ev54 eb54
  refine wpAnyH_ready (rs:=[13]) (by kernel_rfl) (by simp) ?_
  refine AllReadyH.cons rfl (fun K hK => ?_) AllReadyH.nil
  go_simp
  refine hK.out _ _ trivial (fun _ => ?_)
  clear hK K
  (try simp only [Act.put,List.setIfInBounds_toArray,List.set_cons_zero,List.set_cons_succ])
  obtain ⟨v55,ev55⟩ : ∃ x,x = v54.alloc (.cells #[.int .u8 (v.toNat : Int)] 5):=⟨_,rfl⟩
  obtain ⟨b55,eb55⟩ : ∃ b,b = v54.heap.size:=⟨_,rfl⟩
  have dkt_54_55 : b44 ≠ b55:=(by rw [eb55];have:=blk_lt kt_54;omega)
  have dkf_54_55 : b54 ≠ b55:=(by rw [eb55];have:=blk_lt kf_54;omega)
  have ks_55 : blk v55 b55 = some #[.int .u8 (v.toNat : Int)]:=(by rw [ev55];exact blk_alloc_new _ _ _ eb55)
  have kt_55 : blk v55 b44 = some #[.int .i64 0,.int .i64 0]:=(by rw [ev55];exact blk_alloc kt_54 _)
  have kf_55 : blk v55 b54 = some #[.int .i64 0,.int .i64 0,.int .i64 0,.int .u64 0,.int .u64 0,.int .u64 0,.int .u64 0,.int .i64 0,.int .u64 0,.int .i64 0,.int .i64 0,.int .u64 0,.int .i64 0,.int .i64 0,.int .i64 0,.int .i64 0,.int .i64 0,.int .i64 0,.string ⟨#[]⟩]:=(by rw [ev55];exact blk_alloc kf_54 _)
  have Bv55 : Below w.heap.size w v55:=(by rw [ev55];exact Bv54.alloc Bv54.size _)
  have lb55 : w.heap.size ≤ b55:=(by rw [eb55];exact Bv54.size)
  rw [← ev55,← eb55]
  clear ev55 eb55
  have cs55:=blk_cell ks_55 0
  refine wpAnyH_weaken (S2:=fun W => W.cell? ⟨b55,0,none⟩ = some (.int .u8 (v.toNat : Int))) (fun _ _ => trivial) _ _ _ _ ?_
  have hs55 : v55.cell? ⟨b55,0,none⟩ = some (.int .u8 (v.toNat : Int)):=cs55
  refine wpAnyH_take (i:=14) (oi:=_) (v:=?_) rfl (by kernel_rfl) (by kernel_rfl) (by kernel_rfl) (fun _ _ _ h => h) (Or.inl ⟨by rfl,?_⟩) (by assumption) ?_
  rotate_left
  · (intro W hSw;(try dsimp only at hSw);have hcv:=hoc.out W _ _ hSw;go_simp;(try with_reducible rfl))
  (try simp only [Act.put,List.setIfInBounds_toArray,List.set_cons_zero,List.set_cons_succ])
  refine wpAnyH_take (i:=15) (oi:=_) (v:=?_) rfl (by kernel_rfl) (by kernel_rfl) (by kernel_rfl) (fun _ _ _ h => h) (Or.inl ⟨by rfl,?_⟩) (by assumption) ?_
  rotate_left
  · (intro W hSw;(try dsimp only at hSw);go_simp;(try with_reducible rfl))
  (try simp only [Act.put,List.setIfInBounds_toArray,List.set_cons_zero,List.set_cons_succ])
  refine wpAnyH_take (i:=21) (oi:=_) (v:=?_) rfl (by kernel_rfl) (by kernel_rfl) (by kernel_rfl) (fun _ _ _ h => h) (Or.inl ⟨by rfl,?_⟩) (by assumption) ?_
  rotate_left
  · (intro W hSw;(try dsimp only at hSw);go_simp;(try with_reducible rfl))
  (try simp only [Act.put,List.setIfInBounds_toArray,List.set_cons_zero,List.set_cons_succ])
  refine wpAnyH_ready (rs:=[22]) (by kernel_rfl) (by simp) ?_
  refine AllReadyH.cons rfl (fun K hK => ?_) AllReadyH.nil
  go_simp
  go_at_call 11
  (with_reducible refine (gd.out _ (HH.out.on Bv55) (HT.out.on Bv55)).mono ?_)
  rintro e v56 ⟨rfl,hv56⟩
  (try go_wp2_with fail)
  have kt_56 : blk v56 b44 = some #[.int .i64 0,.int .i64 0]:=blk_below hv56 kt_55
  have kf_56 : blk v56 b54 = some #[.int .i64 0,.int .i64 0,.int .i64 0,.int .u64 0,.int .u64 0,.int .u64 0,.int .u64 0,.int .i64 0,.int .u64 0,.int .i64 0,.int .i64 0,.int .u64 0,.int .i64 0,.int .i64 0,.int .i64 0,.int .i64 0,.int .i64 0,.int .i64 0,.string ⟨#[]⟩]:=blk_below hv56 kf_55
  have ks_56 : blk v56 b55 = some #[.int .u8 (v.toNat : Int)]:=blk_below hv56 ks_55
  have Bv56 : Below w.heap.size w v56:=bt Bv55 hv56
  clear hv56
  refine hK.out _ _ (blk_cell ks_56 0) (fun hHeld => ?_)
  clear hK K
  (try simp only [Act.put,List.setIfInBounds_toArray,List.set_cons_zero,List.set_cons_succ])
  refine wpAnyH_take (i:=23) (oi:=_) (v:=?_) rfl (by kernel_rfl) (by kernel_rfl) (by kernel_rfl) (fun _ _ _ h => h) (Or.inl ⟨by rfl,?_⟩) (by assumption) ?_
  rotate_left
  · (intro W hSw;(try dsimp only at hSw);go_simp;(try with_reducible rfl))
  (try simp only [Act.put,List.setIfInBounds_toArray,List.set_cons_zero,List.set_cons_succ])
  refine wpAnyH_take (i:=24) (oi:=_) (v:=?_) rfl (by kernel_rfl) (by kernel_rfl) (by kernel_rfl) (fun _ _ _ h => h) (Or.inl ⟨by rfl,?_⟩) (by assumption) ?_
  rotate_left
  · (intro W hSw;(try dsimp only at hSw);go_simp;(try with_reducible rfl))
  (try simp only [Act.put,List.setIfInBounds_toArray,List.set_cons_zero,List.set_cons_succ])
  refine wpAnyH_take (i:=25) (oi:=_) (v:=?_) rfl (by kernel_rfl) (by kernel_rfl) (by kernel_rfl) (fun _ _ _ h => h) (Or.inl ⟨by rfl,?_⟩) (by assumption) ?_
  rotate_left
  · (intro W hSw;(try dsimp only at hSw);go_simp;(try with_reducible rfl))
  (try simp only [Act.put,List.setIfInBounds_toArray,List.set_cons_zero,List.set_cons_succ])
  refine wpAnyH_ready (rs:=[28]) (by kernel_rfl) (by simp) ?_
  refine AllReadyH.cons rfl (fun K hK => ?_) AllReadyH.nil
  rw [if_pos (by rfl)]
  obtain ⟨t8,hg8⟩:=blk_row kf_56
  refine wp_store_row 29 (.tmp 8) (.tmp 52) rfl b54 #[.int .i64 0,.int .i64 0,.int .i64 0,.int .u64 0,.int .u64 0,.int .u64 0,.int .u64 0,.int .i64 0,.int .u64 0,.int .i64 0,.int .i64 0,.int .u64 0,.int .i64 0,.int .i64 0,.int .i64 0,.int .i64 0,.int .i64 0,.int .i64 0,.string ⟨#[]⟩] rfl rfl t8 #[.int .i64 0,.int .i64 0,.int .i64 0,.int .u64 0,.int .u64 0,.int .u64 0,.int .u64 0,.int .i64 0,.int .u64 0,.int .i64 0,.int .i64 0,.int .u64 0,.int .i64 0,.int .i64 0,.int .i64 0,.int .i64 0,.int .i64 0,.int .i64 0,.string ⟨#[]⟩] hg8 (by kernel_rfl) rfl (by kernel_rfl) ?_
  rw [setRow_self v56 b54 #[.int .i64 0,.int .i64 0,.int .i64 0,.int .u64 0,.int .u64 0,.int .u64 0,.int .u64 0,.int .i64 0,.int .u64 0,.int .i64 0,.int .i64 0,.int .u64 0,.int .i64 0,.int .i64 0,.int .i64 0,.int .i64 0,.int .i64 0,.int .i64 0,.string ⟨#[]⟩] t8 (0,0) hg8]
  refine hK.out _ _ (blk_cell ks_56 0) (fun hHeld => ?_)
  clear hK K hg8
  (try simp only [Act.put,List.setIfInBounds_toArray,List.set_cons_zero,List.set_cons_succ])
  refine wpAnyH_ready (rs:=[29]) (by kernel_rfl) (by simp) ?_
  refine AllReadyH.cons rfl (fun K hK => ?_) AllReadyH.nil
  rw [if_pos (by rfl)]
  obtain ⟨t9,hg9⟩:=blk_row kt_56
  refine wp_store_row 32 (.tmp 9) (.tmp 53) rfl b44 #[.int .i64 e,.int .i64 a] rfl rfl t9 #[.int .i64 0,.int .i64 0] hg9 (by kernel_rfl) rfl (by kernel_rfl) ?_
  obtain ⟨v58,ev58⟩ : ∃ x,x = v56.setRow b44 #[.int .i64 e,.int .i64 a]:=⟨_,rfl⟩
  have kt_58 : blk v58 b44 = some #[.int .i64 e,.int .i64 a]:=(by rw [ev58];exact blk_setRow kt_56)
  have ks_58 : blk v58 b55 = some #[.int .u8 (v.toNat : Int)]:=(by rw [ev58];exact (blk_kept (setRow_other v56 b44 b55 _ (by first|assumption|(apply Ne.symm;assumption)))).trans ks_56)
  have Bv58 : Below w.heap.size w v58:=(by rw [ev58];exact below_setRow Bv56 (by assumption) _)
  rw [← ev58]
  refine hK.out _ _ (blk_cell ks_58 0) (fun hHeld => ?_)
  clear hK K hg9 ev58
  (try simp only [Act.put,List.setIfInBounds_toArray,List.set_cons_zero,List.set_cons_succ])
  refine wpAnyH_done (by kernel_rfl) ?_ _
  have kz:=kn kt_58
  go_wp2_with (go_at_call 10;(with_reducible refine (ga.out _ (HH.out.on (by (repeat(first|(with_reducible first|assumption|exact Below.refl _ _|refine je ?_|refine jl ?_)|((with_reducible refine jp ?_ ?_);first|focus(dsimp only;assumption)|focus(simp;done)|focus(dsimp only;omega))|(with_reducible refine bt ?_ (by assumption)))))) (HT.out.on (by (repeat(first|(with_reducible first|assumption|exact Below.refl _ _|refine je ?_|refine jl ?_)|((with_reducible refine jp ?_ ?_);first|focus(dsimp only;assumption)|focus(simp;done)|focus(dsimp only;omega))|(with_reducible refine bt ?_ (by assumption))))))).mono ?_);rintro e wa ⟨rfl,ha⟩)
  go_ret
  exact ⟨rfl,bt Bv58 ha⟩
theorem frameSpoilt_walk (n bit : Int) (w : World) (T0 : Lib.TabIs Tryd.prog w sumNm .u32 sumTab) (T1 : Lib.TabIs Tryd.prog w headsNm .u8 headsTab) :
    Calls Tryd.prog 5 #[.int .i64 n,.int .i64 bit] w fun e w' => e = .returned (.bool true) ∧ Below w.heap.size w w' :=
  frameSpoilt_at n bit w (htab_of T1) (stab_of T0)
end Go.Proofs.YtaiofjffoboicaaDoor
