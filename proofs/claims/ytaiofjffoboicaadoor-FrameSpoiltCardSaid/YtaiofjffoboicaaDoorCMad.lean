/- Parts of a proof, printed by a program of mine out of my texts: Slice, KitMod, BuKit, FrMade. -/
import Derived.Great.Walk
import Derived.Deep.Cut
import Derived.Test.YtaiofjffoboicaaDoorCA
import Derived.Test.YtaiofjffoboicaaDoorCB
import Derived.Test.YtaiofjffoboicaaDoorCLaw
import Derived.Test.YtaiofjffoboicaaDoorCUsed
set_option linter.unusedSimpArgs false
set_option linter.unusedVariables false
namespace Go.Proofs.YtaiofjffoboicaaDoor
open Go.RowKit
def Row (k : IntKind) (w : World) (a : Option Addr) (cap : Nat) (zs : List Int) : Prop :=
  zs.length ≤ cap ∧ cap ≤ maxLen ∧ (∀ z ∈ zs,(Lit.int k z).wf = true) ∧
  (a = none → cap = 0) ∧
  (0 < zs.length → ∃ b off,a = some ⟨b,off,none⟩ ∧ b < w.heap.size ∧ ∀ i (h : i < zs.length),w.cell? ⟨b,off + i,none⟩ = some (.int k zs[i]))
theorem Row.below {k : IntKind} {w w' : World} {a : Option Addr} {cap : Nat} {zs : List Int} (h : Row k w a cap zs) (hb : Below w.heap.size w w') : Row k w' a cap zs:=by
  obtain ⟨h1,h2,h3,h5,h4⟩:=h
  refine ⟨h1,h2,h3,h5,fun h0 => ?_⟩
  obtain ⟨b,off,e,hlt,hc⟩:=h4 h0
  exact ⟨b,off,e,Nat.lt_of_lt_of_le hlt hb.size,fun i hi => (hb.cell (p:=⟨b,off + i,none⟩) hlt).trans (hc i hi)⟩
end Go.Proofs.YtaiofjffoboicaaDoor
namespace Go.Proofs.YtaiofjffoboicaaDoor
open Go.RowKit
theorem emod_tmod (a n : Int) (h : 1 ≤ n) : (a.tmod n < 0 → a % n = a.tmod n + n) ∧ (¬ a.tmod n < 0 → a % n = a.tmod n) ∧ -n < a.tmod n ∧ a.tmod n < n:=by
  have h1:=Int.emod_nonneg a (show n ≠ 0 by omega)
  have h2:=Int.emod_lt_of_pos a (show 0 < n by omega)
  have h3:=Int.tmod_eq_emod (a:=a) (b:=n)
  split at h3 <;> omega
set_option maxRecDepth 100000 in
theorem mod_any (a n : Int) (w : World) (h1 : 1 ≤ n) (h2 : n ≤ 1152921504606846976) :
    Calls Tryd.prog 15 #[.int .i64 a,.int .i64 n] w fun e w' => e = .returned (.int .i64 (a % n)) ∧ w = w':=by
  obtain ⟨m1,m2,m3,m4⟩:=emod_tmod a n h1
  have hz : (n == 0) = false:=by simp;omega
  have e1 : IntKind.i64.wrap (a.tmod n) = a.tmod n:=IntWalk.i64_in _ (by omega)
  have e2 : IntKind.i64.wrap (a.tmod n + n) = a.tmod n + n:=IntWalk.i64_in _ (by omega)
  by_cases c : a.tmod n < 0
  · rw [m1 c]
    clear m1 m2
    go_enter Tryd.func15,Tryd.ntmps15
    go_wp2
    go_ret
    exact ⟨rfl,rfl⟩
  · rw [m2 c]
    clear m1 m2
    go_enter Tryd.func15,Tryd.ntmps15
    go_wp2
    go_ret
    exact ⟨rfl,rfl⟩
end Go.Proofs.YtaiofjffoboicaaDoor
namespace Go.Proofs.YtaiofjffoboicaaDoor
open Go.RowKit
set_option maxRecDepth 100000 in
set_option maxHeartbeats 800000 in
theorem bundleID_any (n : Int) (w : World) :
    Calls Tryd.prog 39 #[.int .i64 n] w fun e w' => e = .returned (idv (1 + n % 1073741824 % 4) (n % 1073741824 / 4 % 50) 0) ∧ Below w.heap.size w w':=by
  have Hm:=Lib.hid fun w => mod_any n 1073741824 w (by decide) (by decide)
  have h0:=Int.emod_nonneg n (show (1073741824 : Int) ≠ 0 by decide)
  have h1:=Int.emod_lt_of_pos n (show (0 : Int) < 1073741824 by decide)
  obtain ⟨k,hk⟩ : ∃ k,n % 1073741824 = k:=⟨_,rfl⟩
  rw [hk] at Hm h0 h1 ⊢
  clear hk
  go_enter Tryd.func39,Tryd.ntmps39
  go_wp2_with (go_at_call 15;(with_reducible refine (Hm.out _).mono ?_);rintro e wx ⟨rfl,rfl⟩)
  refine ret_blk (b:=w.heap.size) (c:=#[.int .i64 (1 + k % 4),.int .u64 (k / 4 % 50),.int .i64 0]) (v:=idv (1 + k % 4) (k / 4 % 50) 0) (by (apply jt;(focus repeat(first|(with_reducible first|assumption|apply jd|apply js)|((with_reducible apply jo);first|focus(dsimp only;assumption)|focus(simp;done)|focus(dsimp only;omega))|((with_reducible apply jn);first|with_reducible rfl|focus(simp;done)|focus(simp;omega))|(with_reducible apply ja)|((with_reducible apply jb);with_reducible assumption)));rfl)) (fun W' hc => by simp [results,Tryd.results39,go_sem,hc]) rfl ⟨rfl,by (repeat(first|(with_reducible first|exact Below.refl _ _|refine je ?_|refine jl ?_)|((with_reducible refine jp ?_ ?_);first|focus(dsimp only;assumption)|focus(simp;done)|focus(dsimp only;omega))|(with_reducible refine bt ?_ (by assumption))))⟩
abbrev madev (k : Int) (da : ByteArray) : Value:=buv (1 + k % 4) (k / 4 % 50) 0 (1 + k / 200 % 4) (k / 800 % 3) (k / 2400 % 20) (1 + k / 48000 % 60) (k % 17 + 1) da
def MadeOf (k : Int) (da : ByteArray) : Prop:=0 ≤ k ∧ k < 1073741824 ∧ (da.size : Int) = k % 17 + 1
set_option maxRecDepth 100000 in
set_option maxHeartbeats 1600000 in
theorem bundleOf_any (n : Int) (w : World) :
    Calls Tryd.prog 38 #[.int .i64 n] w fun e w' => ∃ da,MadeOf (n % 1073741824) da ∧ e = .returned (madev (n % 1073741824) da) ∧ Below w.heap.size w w':=by
  have Hm:=Lib.hid fun w => mod_any n 1073741824 w (by decide) (by decide)
  have h0:=Int.emod_nonneg n (show (1073741824 : Int) ≠ 0 by decide)
  have h1:=Int.emod_lt_of_pos n (show (0 : Int) < 1073741824 by decide)
  obtain ⟨k,hk⟩ : ∃ k,n % 1073741824 = k:=⟨_,rfl⟩
  rw [hk] at Hm h0 h1 ⊢
  clear hk
  have Hi:=Lib.hid fun w => bundleID_any k w
  rw [show k % 1073741824 = k by omega] at Hi
  have hob:=fun x w => one_byte (P:=Tryd.prog) Tryd.underlying41 Tryd.underlying5 Tryd.underlying9 x w
  go_enter Tryd.func38,Tryd.ntmps38
  go_wp2_with (go_at_call 15;(with_reducible refine (Hm.out _).mono ?_);rintro e wx ⟨rfl,rfl⟩)
  go_loopw [4,5] (fun d i wr => ∃ (j : Nat) (da : ByteArray),i = .int .i64 j ∧ (j : Int) ≤ k % 17 + 1 ∧ d = .string da ∧ da.size = j ∧ Below w.heap.size w wr ∧ blk wr w.heap.size = some #[.int .i64 0,.int .u64 0,.int .i64 0,.int .i64 0,.int .i64 0,.int .i64 0,.int .i64 0,.int .i64 0,.string ⟨#[]⟩]) (fun _ i _ => (k % 17 + 1 - intOf i).toNat)
  case atStart => exact ⟨0,⟨#[]⟩,rfl,by omega,rfl,rfl,by (repeat(first|(with_reducible first|exact Below.refl _ _|refine je ?_|refine jl ?_)|((with_reducible refine jp ?_ ?_);first|focus(dsimp only;assumption)|focus(simp;done)|focus(dsimp only;omega))|(with_reducible refine bt ?_ (by assumption)))),by (apply jt;(focus repeat(first|(with_reducible first|assumption|apply jd|apply js)|((with_reducible apply jo);first|focus(dsimp only;assumption)|focus(simp;done)|focus(dsimp only;omega))|((with_reducible apply jn);first|with_reducible rfl|focus(simp;done)|focus(simp;omega))|(with_reducible apply ja)|((with_reducible apply jb);with_reducible assumption)));rfl)⟩
  case round =>
    obtain ⟨j,da,rfl,hj,rfl,hsz,hbw,hbk⟩:=hrel
    have hd : da.size ≤ 100:=by omega
    have Hsz:=Lib.hid hsz;clear hsz
    by_cases hlt : (j : Int) ≤ k % 17
    · go_wp2
      go_roundw
      case rel =>
        refine ⟨j + 1,_,by go_num,by omega,rfl,?_,by (repeat(first|(with_reducible first|exact Below.refl _ _|refine je ?_|refine jl ?_)|((with_reducible refine jp ?_ ?_);first|focus(dsimp only;assumption)|focus(simp;done)|focus(dsimp only;omega))|(with_reducible refine bt ?_ (by assumption)))),by (apply jt;(focus repeat(first|(with_reducible first|assumption|apply jd|apply js)|((with_reducible apply jo);first|focus(dsimp only;assumption)|focus(simp;done)|focus(dsimp only;omega))|((with_reducible apply jn);first|with_reducible rfl|focus(simp;done)|focus(simp;omega))|(with_reducible apply ja)|((with_reducible apply jb);with_reducible assumption)));rfl)⟩
        have:=Hsz.out
        simp [ByteArray.size_append,this];rfl
      case measure => simp [intOf];omega
    · have hz:=Hsz.out
      have HZ : Hid ((da.size : Int) = k % 17 + 1):=by show (da.size : Int) = _;omega
      have Hj:=Lib.hid hj;clear hj hz
      have kn0:=kn hbk
      go_wp2_with (go_at_call 39;(with_reducible refine (Hi.out _).mono ?_);rintro e w2 ⟨rfl,h2⟩;have kk1 : blk w2 (w.heap.size) = some #[.int .i64 0,.int .u64 0,.int .i64 0,.int .i64 0,.int .i64 0,.int .i64 0,.int .i64 0,.int .i64 0,.string ⟨#[]⟩]:=(by (apply jt;(focus repeat(first|(with_reducible first|assumption|apply jd|apply js)|((with_reducible apply jo);first|focus(dsimp only;assumption)|focus(simp;done)|focus(dsimp only;omega))|((with_reducible apply jn);first|with_reducible rfl|focus(simp;done)|focus(simp;omega))|(with_reducible apply ja)|((with_reducible apply jb);with_reducible assumption)));rfl));have kn1:=kn kk1)
      refine ret_blk (b:=w.heap.size) (c:=#[.int .i64 (1 + k % 4),.int .u64 (k / 4 % 50),.int .i64 0,.int .i64 (1 + k / 200 % 4),.int .i64 (k / 800 % 3),.int .i64 (k / 2400 % 20),.int .i64 (1 + k / 48000 % 60),.int .i64 (da.size : Int),.string da]) (v:=madev k da) (by (apply jt;(focus repeat(first|(with_reducible first|assumption|apply jd|apply js)|((with_reducible apply jo);first|focus(dsimp only;assumption)|focus(simp;done)|focus(dsimp only;omega))|((with_reducible apply jn);first|with_reducible rfl|focus(simp;done)|focus(simp;omega))|(with_reducible apply ja)|((with_reducible apply jb);with_reducible assumption)));rfl)) (fun W' hc => by simp [results,Tryd.results38,go_sem,hc,HZ.out]) rfl ⟨da,⟨h0,h1,HZ.out⟩,rfl,by (repeat(first|(with_reducible first|assumption|exact Below.refl _ _|refine je ?_|refine jl ?_)|((with_reducible refine jp ?_ ?_);first|focus(dsimp only;assumption)|focus(simp;done)|focus(dsimp only;omega))|(with_reducible refine bt ?_ (by assumption))))⟩
end Go.Proofs.YtaiofjffoboicaaDoor
namespace Go.Proofs.YtaiofjffoboicaaDoor
open Go.RowKit
set_option maxRecDepth 100000 in
set_option maxHeartbeats 3200000 in
theorem made_any (n : Int) (w : World) : Calls Tryd.prog 14 #[.int .i64 n] w fun e w' => ∃ F,frC F = 0 ∧ NN F ∧ e = .returned (frv F) ∧ Below w.heap.size w w':=by
  have Hm:=Lib.hid fun w => mod_any n 1073741824 w (by decide) (by decide)
  have h0:=Int.emod_nonneg n (show (1073741824 : Int) ≠ 0 by decide)
  have h1:=Int.emod_lt_of_pos n (show (0 : Int) < 1073741824 by decide)
  obtain ⟨m,hk⟩ : ∃ k,n % 1073741824 = k:=⟨_,rfl⟩
  rw [hk] at Hm h0 h1
  clear hk
  have Hb:=Lib.hid bundleOf_any
  have Hi:=Lib.hid bundleID_any
  go_enter Tryd.func14,Tryd.ntmps14
  go_upto_region 3 with (go_at_call 15;(with_reducible refine (Hm.out _).mono ?_);rintro e wx ⟨rfl,rfl⟩)
  refine wp_region_tail0 24 ?_
  intro W0 hE hN
  have kz0 : blk W0 w.heap.size = some #[.int .i64 0,.int .i64 0,.int .i64 0,.int .u64 0,.int .u64 0,.int .u64 0,.int .u64 0,.int .i64 0,.int .u64 0,.int .i64 0,.int .i64 0,.int .u64 0,.int .i64 0,.int .i64 0,.int .i64 0,.int .i64 0,.int .i64 0,.int .i64 0,.string ⟨#[]⟩]:=(by rw [hE.out];(apply jt;(focus repeat(first|(with_reducible first|assumption|apply jd|apply js)|((with_reducible apply jo);first|focus(dsimp only;assumption)|focus(simp;done)|focus(dsimp only;omega))|((with_reducible apply jn);first|with_reducible rfl|focus(simp;done)|focus(simp;omega))|(with_reducible apply ja)|((with_reducible apply jb);with_reducible assumption)));rfl))
  have hw0 : Below w.heap.size w W0:=(by rw [hE.out];(repeat(first|(with_reducible first|assumption|exact Below.refl _ _|refine je ?_|refine jl ?_)|((with_reducible refine jp ?_ ?_);first|focus(dsimp only;assumption)|focus(simp;done)|focus(dsimp only;omega))|(with_reducible refine bt ?_ (by assumption)))))
  clear hE
  simp only [List.take_succ_cons,List.take_zero,List.drop_succ_cons,List.drop_zero]
  repeat (go_big_quiet_step (fail))
  refine wpQuiet_nil ?_
  rintro _ ⟨x,rfl⟩
  have kz1:=blk_below x.ok kz0
  have hw1 : Below w.heap.size w x.wd:=hw0.trans (x.ok.mono hw0.size)
  clear kz0 hw0 hN
  obtain ⟨w2,hw2⟩ : ∃ w2,w2 = x.wd:=⟨_,rfl⟩
  rw [← hw2] at kz1 hw1 ⊢
  clear hw2 x
  have hTz:=blk_lt kz1
  refine wpList_build_is 29 _ #[.int .i64 (1 + m % 7),.int .i64 (1 + m / 7 % 16),.int .i64 (1 + (1 + m / 7 % 16 + m / 112 % 15) % 16),.int .u64 (1 + m / 1680 % 300),.int .u64 (m / 3 % 5),.int .u64 (m / 11 % 70000),.int .u64 0,.int .i64 0,.int .u64 0,.int .i64 0,.int .i64 0,.int .u64 0,.int .i64 0,.int .i64 0,.int .i64 0,.int .i64 0,.int .i64 0,.int .i64 0,.string ⟨#[]⟩] rfl rfl (by kernel_rfl) ?_
  conv => arg 5;simp [Act.put]
  refine Go.Great.wpList_allocTo rfl (some 4) rfl (.pointer (some ⟨w2.heap.size,0,none⟩)) (.cells #[.int .i64 0,.int .i64 0,.int .i64 0,.int .u64 0,.int .u64 0,.int .u64 0,.int .u64 0,.int .i64 0,.int .u64 0,.int .i64 0,.int .i64 0,.int .u64 0,.int .i64 0,.int .i64 0,.int .i64 0,.int .i64 0,.int .i64 0,.int .i64 0,.string ⟨#[]⟩] 29) (by kernel_rfl) ?_
  conv => arg 5;simp [Act.put]
  refine wpList_store_blk 29 (.tmp 4) (.tmp 35) w2.heap.size #[.int .i64 0,.int .i64 0,.int .i64 0,.int .u64 0,.int .u64 0,.int .u64 0,.int .u64 0,.int .i64 0,.int .u64 0,.int .i64 0,.int .i64 0,.int .u64 0,.int .i64 0,.int .i64 0,.int .i64 0,.int .i64 0,.int .i64 0,.int .i64 0,.string ⟨#[]⟩] #[.int .i64 (1 + m % 7),.int .i64 (1 + m / 7 % 16),.int .i64 (1 + (1 + m / 7 % 16 + m / 112 % 15) % 16),.int .u64 (1 + m / 1680 % 300),.int .u64 (m / 3 % 5),.int .u64 (m / 11 % 70000),.int .u64 0,.int .i64 0,.int .u64 0,.int .i64 0,.int .i64 0,.int .u64 0,.int .i64 0,.int .i64 0,.int .i64 0,.int .i64 0,.int .i64 0,.int .i64 0,.string ⟨#[]⟩] (blk_alloc_new _ _ _ rfl) rfl rfl rfl rfl (by kernel_rfl) rfl (by kernel_rfl) ?_
  intro w3 k3 o3 B3 s3
  conv => arg 5;simp [Act.put]
  have kz3:=o3 w.heap.size #[.int .i64 0,.int .i64 0,.int .i64 0,.int .u64 0,.int .u64 0,.int .u64 0,.int .u64 0,.int .i64 0,.int .u64 0,.int .i64 0,.int .i64 0,.int .u64 0,.int .i64 0,.int .i64 0,.int .i64 0,.int .i64 0,.int .i64 0,.int .i64 0,.string ⟨#[]⟩] (by omega) (blk_alloc kz1 _)
  have hw3 : Below w.heap.size w w3:=B3 _ _ hw1.size (hw1.alloc hw1.size _)
  clear o3 B3 kz1 hw1 s3
  have h7 : m % 7 = 0 ∨ m % 7 = 1 ∨ m % 7 = 2 ∨ m % 7 = 3 ∨ m % 7 = 4 ∨ m % 7 = 5 ∨ m % 7 = 6:=by omega
  obtain ⟨fr,hfr⟩ : ∃ x,1 + m / 7 % 16 = x:=⟨_,rfl⟩
  obtain ⟨to_,hto⟩ : ∃ x,1 + (fr + m / 112 % 15) % 16 = x:=⟨_,rfl⟩
  obtain ⟨mi,hmi⟩ : ∃ x,1 + m / 1680 % 300 = x:=⟨_,rfl⟩
  obtain ⟨yo,hyo⟩ : ∃ x,m / 3 % 5 = x:=⟨_,rfl⟩
  obtain ⟨a,ha⟩ : ∃ x,m / 11 % 70000 = x:=⟨_,rfl⟩
  rw [hfr,hto,hmi,hyo,ha] at k3
  have q1 : 1 ≤ fr ∧ fr ≤ 16:=by omega
  have q2 : 1 ≤ to_ ∧ to_ ≤ 16 ∧ to_ ≠ fr:=by omega
  have q3 : 1 ≤ mi ∧ mi ≤ 300:=by omega
  have q4 : 0 ≤ yo ∧ yo ≤ 4:=by omega
  have q5 : 0 ≤ a ∧ a < 70000:=by omega
  rcases h7 with h7|h7|h7|h7|h7|h7|h7 <;> rw [h7] at k3 <;> clear hfr hto hmi hyo ha
  · replace k3 : blk w3 w2.heap.size = some #[.int .i64 1,.int .i64 fr,.int .i64 to_,.int .u64 mi,.int .u64 yo,.int .u64 a,.int .u64 0,.int .i64 0,.int .u64 0,.int .i64 0,.int .i64 0,.int .u64 0,.int .i64 0,.int .i64 0,.int .i64 0,.int .i64 0,.int .i64 0,.int .i64 0,.string ⟨#[]⟩]:=k3
    have n3:=kn k3
    have nz:=kn kz3
    go_upto_region 15 with fail
    refine wp_region_lit ?_
    refine wpList_load_blk 29 (.tmp 4) w2.heap.size #[.int .i64 1,.int .i64 fr,.int .i64 to_,.int .u64 mi,.int .u64 yo,.int .u64 0,.int .u64 0,.int .i64 0,.int .u64 0,.int .i64 0,.int .i64 0,.int .u64 0,.int .i64 0,.int .i64 0,.int .i64 0,.int .i64 0,.int .i64 0,.int .i64 0,.string ⟨#[]⟩] (by (apply jt;(focus repeat(first|(with_reducible first|assumption|apply jd|apply js)|((with_reducible apply jo);first|focus(dsimp only;assumption)|focus(simp;done)|focus(dsimp only;omega))|((with_reducible apply jn);first|with_reducible rfl|focus(simp;done)|focus(simp;omega))|(with_reducible apply ja)|((with_reducible apply jb);with_reducible assumption)));kernel_rfl)) _ rfl rfl rfl Tryd.underlying29 rfl (by kernel_rfl) ?_
    conv => arg 5;simp [Act.put]
    refine wpList_store_blk 29 (.tmp 2) (.tmp 76) w.heap.size #[.int .i64 0,.int .i64 0,.int .i64 0,.int .u64 0,.int .u64 0,.int .u64 0,.int .u64 0,.int .i64 0,.int .u64 0,.int .i64 0,.int .i64 0,.int .u64 0,.int .i64 0,.int .i64 0,.int .i64 0,.int .i64 0,.int .i64 0,.int .i64 0,.string ⟨#[]⟩] #[.int .i64 1,.int .i64 fr,.int .i64 to_,.int .u64 mi,.int .u64 yo,.int .u64 0,.int .u64 0,.int .i64 0,.int .u64 0,.int .i64 0,.int .i64 0,.int .u64 0,.int .i64 0,.int .i64 0,.int .i64 0,.int .i64 0,.int .i64 0,.int .i64 0,.string ⟨#[]⟩] (by (apply jt;(focus repeat(first|(with_reducible first|assumption|apply jd|apply js)|((with_reducible apply jo);first|focus(dsimp only;assumption)|focus(simp;done)|focus(dsimp only;omega))|((with_reducible apply jn);first|with_reducible rfl|focus(simp;done)|focus(simp;omega))|(with_reducible apply ja)|((with_reducible apply jb);with_reducible assumption)));rfl)) rfl rfl rfl rfl (by kernel_rfl) rfl (by kernel_rfl) ?_
    intro w9 k9 o9 B9 s9
    conv => arg 5;simp [Act.put]
    have hw9 : Below w.heap.size w w9:=B9 _ _ (Nat.le_refl _) (by (repeat(first|(with_reducible first|assumption|exact Below.refl _ _|refine je ?_|refine jl ?_)|((with_reducible refine jp ?_ ?_);first|focus(dsimp only;assumption)|focus(simp;done)|focus(dsimp only;omega))|(with_reducible refine bt ?_ (by assumption)))))
    clear o9 B9 s9
    go_wp2
    refine ret_row 2 29 _ k9 rfl rfl Tryd.underlying29 rfl (by kernel_rfl) rfl ⟨⟨1,fr,to_,mi,yo,0,0,0,0,0,0,0,0,0,0,0,0,0,⟨#[]⟩⟩,frC_of ?_ ?_ ?_ ?_,?_,rfl,hw9⟩
    · simp
    · unfold rngF;simp only;omega
    · rfl
    · unfold clnF;simp
    · constructor <;> simp only <;> omega
  · replace k3 : blk w3 w2.heap.size = some #[.int .i64 2,.int .i64 fr,.int .i64 to_,.int .u64 mi,.int .u64 yo,.int .u64 a,.int .u64 0,.int .i64 0,.int .u64 0,.int .i64 0,.int .i64 0,.int .u64 0,.int .i64 0,.int .i64 0,.int .i64 0,.int .i64 0,.int .i64 0,.int .i64 0,.string ⟨#[]⟩]:=k3
    have n3:=kn k3
    have nz:=kn kz3
    go_upto_region 15 with fail
    refine wp_region_lit ?_
    refine wpList_load_blk 29 (.tmp 4) w2.heap.size #[.int .i64 2,.int .i64 fr,.int .i64 to_,.int .u64 mi,.int .u64 yo,.int .u64 a,.int .u64 0,.int .i64 0,.int .u64 0,.int .i64 0,.int .i64 0,.int .u64 0,.int .i64 0,.int .i64 0,.int .i64 0,.int .i64 0,.int .i64 0,.int .i64 0,.string ⟨#[]⟩] (by (apply jt;(focus repeat(first|(with_reducible first|assumption|apply jd|apply js)|((with_reducible apply jo);first|focus(dsimp only;assumption)|focus(simp;done)|focus(dsimp only;omega))|((with_reducible apply jn);first|with_reducible rfl|focus(simp;done)|focus(simp;omega))|(with_reducible apply ja)|((with_reducible apply jb);with_reducible assumption)));kernel_rfl)) _ rfl rfl rfl Tryd.underlying29 rfl (by kernel_rfl) ?_
    conv => arg 5;simp [Act.put]
    refine wpList_store_blk 29 (.tmp 2) (.tmp 76) w.heap.size #[.int .i64 0,.int .i64 0,.int .i64 0,.int .u64 0,.int .u64 0,.int .u64 0,.int .u64 0,.int .i64 0,.int .u64 0,.int .i64 0,.int .i64 0,.int .u64 0,.int .i64 0,.int .i64 0,.int .i64 0,.int .i64 0,.int .i64 0,.int .i64 0,.string ⟨#[]⟩] #[.int .i64 2,.int .i64 fr,.int .i64 to_,.int .u64 mi,.int .u64 yo,.int .u64 a,.int .u64 0,.int .i64 0,.int .u64 0,.int .i64 0,.int .i64 0,.int .u64 0,.int .i64 0,.int .i64 0,.int .i64 0,.int .i64 0,.int .i64 0,.int .i64 0,.string ⟨#[]⟩] (by (apply jt;(focus repeat(first|(with_reducible first|assumption|apply jd|apply js)|((with_reducible apply jo);first|focus(dsimp only;assumption)|focus(simp;done)|focus(dsimp only;omega))|((with_reducible apply jn);first|with_reducible rfl|focus(simp;done)|focus(simp;omega))|(with_reducible apply ja)|((with_reducible apply jb);with_reducible assumption)));rfl)) rfl rfl rfl rfl (by kernel_rfl) rfl (by kernel_rfl) ?_
    intro w9 k9 o9 B9 s9
    conv => arg 5;simp [Act.put]
    have hw9 : Below w.heap.size w w9:=B9 _ _ (Nat.le_refl _) (by (repeat(first|(with_reducible first|assumption|exact Below.refl _ _|refine je ?_|refine jl ?_)|((with_reducible refine jp ?_ ?_);first|focus(dsimp only;assumption)|focus(simp;done)|focus(dsimp only;omega))|(with_reducible refine bt ?_ (by assumption)))))
    clear o9 B9 s9
    go_wp2
    refine ret_row 2 29 _ k9 rfl rfl Tryd.underlying29 rfl (by kernel_rfl) rfl ⟨⟨2,fr,to_,mi,yo,a,0,0,0,0,0,0,0,0,0,0,0,0,⟨#[]⟩⟩,frC_of ?_ ?_ ?_ ?_,?_,rfl,hw9⟩
    · simp
    · unfold rngF;simp only;omega
    · rfl
    · unfold clnF;simp
    · constructor <;> simp only <;> omega
  · replace k3 : blk w3 w2.heap.size = some #[.int .i64 3,.int .i64 fr,.int .i64 to_,.int .u64 mi,.int .u64 yo,.int .u64 a,.int .u64 0,.int .i64 0,.int .u64 0,.int .i64 0,.int .i64 0,.int .u64 0,.int .i64 0,.int .i64 0,.int .i64 0,.int .i64 0,.int .i64 0,.int .i64 0,.string ⟨#[]⟩]:=k3
    have n3:=kn k3
    have nz:=kn kz3
    obtain ⟨J,hJ⟩ : ∃ J,IntKind.i64.wrap (m.tdiv 13) = J:=⟨_,rfl⟩
    obtain ⟨hb,hhb⟩ : ∃ x,IntKind.u64.wrap (a.tdiv 2) = x:=⟨_,rfl⟩
    have q6 : 0 ≤ hb ∧ hb ≤ a:=(by rw [← hhb,Int.tdiv_eq_ediv_of_nonneg q5.1,IntKind.wrap_u64];omega)
    obtain ⟨q,hq⟩ : ∃ q,q = J % 1073741824:=⟨_,rfl⟩
    have Hb2:=Lib.hid fun w => Hb.out J w
    rw [← hq] at Hb2
    replace hq:=Lib.hid hq
    go_upto_region 8 with fail
    clear nz
    have S3 : w3.drew.cell? ⟨w2.heap.size,5,none⟩ = some (.int .u64 a):=(blk_cell (blk_drew k3) 5).trans rfl
    go_region_held3 (fun W => W.cell? ⟨w2.heap.size,5,none⟩ = some (.int .u64 a)) (repeat (first|(with_reducible assumption)|((with_reducible refine (World.cell?_setCell_other _ _ _ _ ?_).trans ?_);focus (simp;done)))) ((go_at_call 38;(with_reducible refine (Hb2.out _).mono ?_);rintro e w4 ⟨da,hda,rfl,h4⟩;have k4:=blk_below h4 (blk_drew k3);have z4:=blk_below h4 (blk_drew kz3);have n4:=kn k4;have S4 : w4.cell? ⟨w2.heap.size,5,none⟩ = some (.int .u64 a):=(blk_cell k4 5).trans rfl;have hw4 : Below w.heap.size w w4:=bt (beld_drew hw3) h4))
    clear n3 S3 S4
    go_upto_region 15 with fail
    refine wp_region_lit ?_
    refine wpList_load_blk 29 (.tmp 4) w2.heap.size #[.int .i64 3,.int .i64 fr,.int .i64 to_,.int .u64 mi,.int .u64 yo,.int .u64 a,.int .u64 hb,.int .i64 0,.int .u64 0,.int .i64 0,.int .i64 (1 + q % 4),.int .u64 (q / 4 % 50),.int .i64 0,.int .i64 (1 + q / 200 % 4),.int .i64 (q / 800 % 3),.int .i64 (q / 2400 % 20),.int .i64 (1 + q / 48000 % 60),.int .i64 (q % 17 + 1),.string da] (by (apply jt;(focus repeat(first|(with_reducible first|assumption|apply jd|apply js)|((with_reducible apply jo);first|focus(dsimp only;assumption)|focus(simp;done)|focus(dsimp only;omega))|((with_reducible apply jn);first|with_reducible rfl|focus(simp;done)|focus(simp;omega))|(with_reducible apply ja)|((with_reducible apply jb);with_reducible assumption)));kernel_rfl)) _ rfl rfl rfl Tryd.underlying29 rfl (by kernel_rfl) ?_
    conv => arg 5;simp [Act.put]
    refine wpList_store_blk 29 (.tmp 2) (.tmp 76) w.heap.size #[.int .i64 0,.int .i64 0,.int .i64 0,.int .u64 0,.int .u64 0,.int .u64 0,.int .u64 0,.int .i64 0,.int .u64 0,.int .i64 0,.int .i64 0,.int .u64 0,.int .i64 0,.int .i64 0,.int .i64 0,.int .i64 0,.int .i64 0,.int .i64 0,.string ⟨#[]⟩] #[.int .i64 3,.int .i64 fr,.int .i64 to_,.int .u64 mi,.int .u64 yo,.int .u64 a,.int .u64 hb,.int .i64 0,.int .u64 0,.int .i64 0,.int .i64 (1 + q % 4),.int .u64 (q / 4 % 50),.int .i64 0,.int .i64 (1 + q / 200 % 4),.int .i64 (q / 800 % 3),.int .i64 (q / 2400 % 20),.int .i64 (1 + q / 48000 % 60),.int .i64 (q % 17 + 1),.string da] (by (apply jt;(focus repeat(first|(with_reducible first|assumption|apply jd|apply js)|((with_reducible apply jo);first|focus(dsimp only;assumption)|focus(simp;done)|focus(dsimp only;omega))|((with_reducible apply jn);first|with_reducible rfl|focus(simp;done)|focus(simp;omega))|(with_reducible apply ja)|((with_reducible apply jb);with_reducible assumption)));rfl)) rfl rfl rfl rfl (by kernel_rfl) rfl (by kernel_rfl) ?_
    intro w9 k9 o9 B9 s9
    conv => arg 5;simp [Act.put]
    have hw9 : Below w.heap.size w w9:=B9 _ _ (Nat.le_refl _) (by (repeat(first|(with_reducible first|assumption|exact Below.refl _ _|refine je ?_|refine jl ?_)|((with_reducible refine jp ?_ ?_);first|focus(dsimp only;assumption)|focus(simp;done)|focus(dsimp only;omega))|(with_reducible refine bt ?_ (by assumption)))))
    clear o9 B9 s9
    go_wp2
    refine ret_row 2 29 _ k9 rfl rfl Tryd.underlying29 rfl (by kernel_rfl) rfl ⟨⟨3,fr,to_,mi,yo,a,hb,0,0,0,(1 + q % 4),(q / 4 % 50),0,(1 + q / 200 % 4),(q / 800 % 3),(q / 2400 % 20),(1 + q / 48000 % 60),(q % 17 + 1),da⟩,frC_of ?_ ?_ ?_ ?_,?_,rfl,hw9⟩
    · simp
    · unfold rngF;simp only;omega
    · (obtain ⟨y1,y2,y3⟩:=hda;unfold bcF bnF buC;simp only;rw [if_pos (by decide),if_neg (not_not_intro (by unfold okI;omega)),if_neg (not_not_intro (by unfold okN;omega)),if_neg (by omega),if_neg (by omega),if_neg (by omega)])
    · unfold clnF;simp
    · constructor <;> simp only <;> omega
  · replace k3 : blk w3 w2.heap.size = some #[.int .i64 4,.int .i64 fr,.int .i64 to_,.int .u64 mi,.int .u64 yo,.int .u64 a,.int .u64 0,.int .i64 0,.int .u64 0,.int .i64 0,.int .i64 0,.int .u64 0,.int .i64 0,.int .i64 0,.int .i64 0,.int .i64 0,.int .i64 0,.int .i64 0,.string ⟨#[]⟩]:=k3
    have n3:=kn k3
    have nz:=kn kz3
    go_upto_region 15 with fail
    refine wp_region_lit ?_
    refine wpList_load_blk 29 (.tmp 4) w2.heap.size #[.int .i64 4,.int .i64 fr,.int .i64 to_,.int .u64 mi,.int .u64 yo,.int .u64 a,.int .u64 (m / 17 % 1000),.int .i64 0,.int .u64 0,.int .i64 0,.int .i64 0,.int .u64 0,.int .i64 0,.int .i64 0,.int .i64 0,.int .i64 0,.int .i64 0,.int .i64 0,.string ⟨#[]⟩] (by (apply jt;(focus repeat(first|(with_reducible first|assumption|apply jd|apply js)|((with_reducible apply jo);first|focus(dsimp only;assumption)|focus(simp;done)|focus(dsimp only;omega))|((with_reducible apply jn);first|with_reducible rfl|focus(simp;done)|focus(simp;omega))|(with_reducible apply ja)|((with_reducible apply jb);with_reducible assumption)));kernel_rfl)) _ rfl rfl rfl Tryd.underlying29 rfl (by kernel_rfl) ?_
    conv => arg 5;simp [Act.put]
    refine wpList_store_blk 29 (.tmp 2) (.tmp 76) w.heap.size #[.int .i64 0,.int .i64 0,.int .i64 0,.int .u64 0,.int .u64 0,.int .u64 0,.int .u64 0,.int .i64 0,.int .u64 0,.int .i64 0,.int .i64 0,.int .u64 0,.int .i64 0,.int .i64 0,.int .i64 0,.int .i64 0,.int .i64 0,.int .i64 0,.string ⟨#[]⟩] #[.int .i64 4,.int .i64 fr,.int .i64 to_,.int .u64 mi,.int .u64 yo,.int .u64 a,.int .u64 (m / 17 % 1000),.int .i64 0,.int .u64 0,.int .i64 0,.int .i64 0,.int .u64 0,.int .i64 0,.int .i64 0,.int .i64 0,.int .i64 0,.int .i64 0,.int .i64 0,.string ⟨#[]⟩] (by (apply jt;(focus repeat(first|(with_reducible first|assumption|apply jd|apply js)|((with_reducible apply jo);first|focus(dsimp only;assumption)|focus(simp;done)|focus(dsimp only;omega))|((with_reducible apply jn);first|with_reducible rfl|focus(simp;done)|focus(simp;omega))|(with_reducible apply ja)|((with_reducible apply jb);with_reducible assumption)));rfl)) rfl rfl rfl rfl (by kernel_rfl) rfl (by kernel_rfl) ?_
    intro w9 k9 o9 B9 s9
    conv => arg 5;simp [Act.put]
    have hw9 : Below w.heap.size w w9:=B9 _ _ (Nat.le_refl _) (by (repeat(first|(with_reducible first|assumption|exact Below.refl _ _|refine je ?_|refine jl ?_)|((with_reducible refine jp ?_ ?_);first|focus(dsimp only;assumption)|focus(simp;done)|focus(dsimp only;omega))|(with_reducible refine bt ?_ (by assumption)))))
    clear o9 B9 s9
    go_wp2
    refine ret_row 2 29 _ k9 rfl rfl Tryd.underlying29 rfl (by kernel_rfl) rfl ⟨⟨4,fr,to_,mi,yo,a,(m / 17 % 1000),0,0,0,0,0,0,0,0,0,0,0,⟨#[]⟩⟩,frC_of ?_ ?_ ?_ ?_,?_,rfl,hw9⟩
    · simp
    · unfold rngF;simp only;omega
    · rfl
    · unfold clnF;simp
    · constructor <;> simp only <;> omega
  · replace k3 : blk w3 w2.heap.size = some #[.int .i64 5,.int .i64 fr,.int .i64 to_,.int .u64 mi,.int .u64 yo,.int .u64 a,.int .u64 0,.int .i64 0,.int .u64 0,.int .i64 0,.int .i64 0,.int .u64 0,.int .i64 0,.int .i64 0,.int .i64 0,.int .i64 0,.int .i64 0,.int .i64 0,.string ⟨#[]⟩]:=k3
    have n3:=kn k3
    have nz:=kn kz3
    obtain ⟨j,hj⟩ : ∃ j,j = m / 19 % 1073741824:=⟨_,rfl⟩
    have j0 : 0 ≤ j:=(by omega)
    have Hi2:=Lib.hid fun w => Hi.out (m / 19) w
    rw [← hj] at Hi2
    replace hj:=Lib.hid hj
    go_upto_region 15 with (go_at_call 39;(with_reducible refine (Hi2.out _).mono ?_);rintro e w4 ⟨rfl,h4⟩;have k4:=blk_below h4 k3;have z4:=blk_below h4 kz3;have n4:=kn k4;have hw4 : Below w.heap.size w w4:=bt hw3 h4)
    clear n3 nz
    go_upto_region 15 with fail
    refine wp_region_lit ?_
    refine wpList_load_blk 29 (.tmp 4) w2.heap.size #[.int .i64 5,.int .i64 fr,.int .i64 to_,.int .u64 mi,.int .u64 yo,.int .u64 a,.int .u64 0,.int .i64 (1 + j % 4),.int .u64 (j / 4 % 50),.int .i64 0,.int .i64 0,.int .u64 0,.int .i64 0,.int .i64 0,.int .i64 0,.int .i64 0,.int .i64 0,.int .i64 0,.string ⟨#[]⟩] (by (apply jt;(focus repeat(first|(with_reducible first|assumption|apply jd|apply js)|((with_reducible apply jo);first|focus(dsimp only;assumption)|focus(simp;done)|focus(dsimp only;omega))|((with_reducible apply jn);first|with_reducible rfl|focus(simp;done)|focus(simp;omega))|(with_reducible apply ja)|((with_reducible apply jb);with_reducible assumption)));kernel_rfl)) _ rfl rfl rfl Tryd.underlying29 rfl (by kernel_rfl) ?_
    conv => arg 5;simp [Act.put]
    refine wpList_store_blk 29 (.tmp 2) (.tmp 76) w.heap.size #[.int .i64 0,.int .i64 0,.int .i64 0,.int .u64 0,.int .u64 0,.int .u64 0,.int .u64 0,.int .i64 0,.int .u64 0,.int .i64 0,.int .i64 0,.int .u64 0,.int .i64 0,.int .i64 0,.int .i64 0,.int .i64 0,.int .i64 0,.int .i64 0,.string ⟨#[]⟩] #[.int .i64 5,.int .i64 fr,.int .i64 to_,.int .u64 mi,.int .u64 yo,.int .u64 a,.int .u64 0,.int .i64 (1 + j % 4),.int .u64 (j / 4 % 50),.int .i64 0,.int .i64 0,.int .u64 0,.int .i64 0,.int .i64 0,.int .i64 0,.int .i64 0,.int .i64 0,.int .i64 0,.string ⟨#[]⟩] (by (apply jt;(focus repeat(first|(with_reducible first|assumption|apply jd|apply js)|((with_reducible apply jo);first|focus(dsimp only;assumption)|focus(simp;done)|focus(dsimp only;omega))|((with_reducible apply jn);first|with_reducible rfl|focus(simp;done)|focus(simp;omega))|(with_reducible apply ja)|((with_reducible apply jb);with_reducible assumption)));rfl)) rfl rfl rfl rfl (by kernel_rfl) rfl (by kernel_rfl) ?_
    intro w9 k9 o9 B9 s9
    conv => arg 5;simp [Act.put]
    have hw9 : Below w.heap.size w w9:=B9 _ _ (Nat.le_refl _) (by (repeat(first|(with_reducible first|assumption|exact Below.refl _ _|refine je ?_|refine jl ?_)|((with_reducible refine jp ?_ ?_);first|focus(dsimp only;assumption)|focus(simp;done)|focus(dsimp only;omega))|(with_reducible refine bt ?_ (by assumption)))))
    clear o9 B9 s9
    go_wp2
    refine ret_row 2 29 _ k9 rfl rfl Tryd.underlying29 rfl (by kernel_rfl) rfl ⟨⟨5,fr,to_,mi,yo,a,0,(1 + j % 4),(j / 4 % 50),0,0,0,0,0,0,0,0,0,⟨#[]⟩⟩,frC_of ?_ ?_ ?_ ?_,?_,rfl,hw9⟩
    · simp
    · unfold rngF;simp only;omega
    · (unfold bcF;simp only;rw [if_neg (by decide),if_pos (by decide)];unfold idC;rw [if_pos (by omega)])
    · unfold clnF;simp
    · constructor <;> simp only <;> omega
  · replace k3 : blk w3 w2.heap.size = some #[.int .i64 6,.int .i64 fr,.int .i64 to_,.int .u64 mi,.int .u64 yo,.int .u64 a,.int .u64 0,.int .i64 0,.int .u64 0,.int .i64 0,.int .i64 0,.int .u64 0,.int .i64 0,.int .i64 0,.int .i64 0,.int .i64 0,.int .i64 0,.int .i64 0,.string ⟨#[]⟩]:=k3
    have n3:=kn k3
    have nz:=kn kz3
    obtain ⟨j,hj⟩ : ∃ j,j = m / 19 % 1073741824:=⟨_,rfl⟩
    have j0 : 0 ≤ j:=(by omega)
    have Hi2:=Lib.hid fun w => Hi.out (m / 19) w
    rw [← hj] at Hi2
    replace hj:=Lib.hid hj
    go_upto_region 15 with (go_at_call 39;(with_reducible refine (Hi2.out _).mono ?_);rintro e w4 ⟨rfl,h4⟩;have k4:=blk_below h4 k3;have z4:=blk_below h4 kz3;have n4:=kn k4;have hw4 : Below w.heap.size w w4:=bt hw3 h4)
    clear n3 nz
    go_upto_region 15 with fail
    refine wp_region_lit ?_
    refine wpList_load_blk 29 (.tmp 4) w2.heap.size #[.int .i64 6,.int .i64 fr,.int .i64 to_,.int .u64 mi,.int .u64 yo,.int .u64 a,.int .u64 (1 + m / 23 % 3),.int .i64 (1 + j % 4),.int .u64 (j / 4 % 50),.int .i64 0,.int .i64 0,.int .u64 0,.int .i64 0,.int .i64 0,.int .i64 0,.int .i64 0,.int .i64 0,.int .i64 0,.string ⟨#[]⟩] (by (apply jt;(focus repeat(first|(with_reducible first|assumption|apply jd|apply js)|((with_reducible apply jo);first|focus(dsimp only;assumption)|focus(simp;done)|focus(dsimp only;omega))|((with_reducible apply jn);first|with_reducible rfl|focus(simp;done)|focus(simp;omega))|(with_reducible apply ja)|((with_reducible apply jb);with_reducible assumption)));kernel_rfl)) _ rfl rfl rfl Tryd.underlying29 rfl (by kernel_rfl) ?_
    conv => arg 5;simp [Act.put]
    refine wpList_store_blk 29 (.tmp 2) (.tmp 76) w.heap.size #[.int .i64 0,.int .i64 0,.int .i64 0,.int .u64 0,.int .u64 0,.int .u64 0,.int .u64 0,.int .i64 0,.int .u64 0,.int .i64 0,.int .i64 0,.int .u64 0,.int .i64 0,.int .i64 0,.int .i64 0,.int .i64 0,.int .i64 0,.int .i64 0,.string ⟨#[]⟩] #[.int .i64 6,.int .i64 fr,.int .i64 to_,.int .u64 mi,.int .u64 yo,.int .u64 a,.int .u64 (1 + m / 23 % 3),.int .i64 (1 + j % 4),.int .u64 (j / 4 % 50),.int .i64 0,.int .i64 0,.int .u64 0,.int .i64 0,.int .i64 0,.int .i64 0,.int .i64 0,.int .i64 0,.int .i64 0,.string ⟨#[]⟩] (by (apply jt;(focus repeat(first|(with_reducible first|assumption|apply jd|apply js)|((with_reducible apply jo);first|focus(dsimp only;assumption)|focus(simp;done)|focus(dsimp only;omega))|((with_reducible apply jn);first|with_reducible rfl|focus(simp;done)|focus(simp;omega))|(with_reducible apply ja)|((with_reducible apply jb);with_reducible assumption)));rfl)) rfl rfl rfl rfl (by kernel_rfl) rfl (by kernel_rfl) ?_
    intro w9 k9 o9 B9 s9
    conv => arg 5;simp [Act.put]
    have hw9 : Below w.heap.size w w9:=B9 _ _ (Nat.le_refl _) (by (repeat(first|(with_reducible first|assumption|exact Below.refl _ _|refine je ?_|refine jl ?_)|((with_reducible refine jp ?_ ?_);first|focus(dsimp only;assumption)|focus(simp;done)|focus(dsimp only;omega))|(with_reducible refine bt ?_ (by assumption)))))
    clear o9 B9 s9
    go_wp2
    refine ret_row 2 29 _ k9 rfl rfl Tryd.underlying29 rfl (by kernel_rfl) rfl ⟨⟨6,fr,to_,mi,yo,a,(1 + m / 23 % 3),(1 + j % 4),(j / 4 % 50),0,0,0,0,0,0,0,0,0,⟨#[]⟩⟩,frC_of ?_ ?_ ?_ ?_,?_,rfl,hw9⟩
    · simp
    · unfold rngF;simp only;omega
    · (unfold bcF;simp only;rw [if_neg (by decide),if_pos (by decide)];unfold idC;rw [if_pos (by omega)])
    · unfold clnF;simp
    · constructor <;> simp only <;> omega
  · replace k3 : blk w3 w2.heap.size = some #[.int .i64 7,.int .i64 fr,.int .i64 to_,.int .u64 mi,.int .u64 yo,.int .u64 a,.int .u64 0,.int .i64 0,.int .u64 0,.int .i64 0,.int .i64 0,.int .u64 0,.int .i64 0,.int .i64 0,.int .i64 0,.int .i64 0,.int .i64 0,.int .i64 0,.string ⟨#[]⟩]:=k3
    have n3:=kn k3
    have nz:=kn kz3
    go_upto_region 15 with fail
    refine wp_region_lit ?_
    refine wpList_load_blk 29 (.tmp 4) w2.heap.size #[.int .i64 7,.int .i64 fr,.int .i64 to_,.int .u64 mi,.int .u64 yo,.int .u64 a,.int .u64 0,.int .i64 0,.int .u64 0,.int .i64 0,.int .i64 0,.int .u64 0,.int .i64 0,.int .i64 0,.int .i64 0,.int .i64 0,.int .i64 0,.int .i64 0,.string ⟨#[]⟩] (by (apply jt;(focus repeat(first|(with_reducible first|assumption|apply jd|apply js)|((with_reducible apply jo);first|focus(dsimp only;assumption)|focus(simp;done)|focus(dsimp only;omega))|((with_reducible apply jn);first|with_reducible rfl|focus(simp;done)|focus(simp;omega))|(with_reducible apply ja)|((with_reducible apply jb);with_reducible assumption)));kernel_rfl)) _ rfl rfl rfl Tryd.underlying29 rfl (by kernel_rfl) ?_
    conv => arg 5;simp [Act.put]
    refine wpList_store_blk 29 (.tmp 2) (.tmp 76) w.heap.size #[.int .i64 0,.int .i64 0,.int .i64 0,.int .u64 0,.int .u64 0,.int .u64 0,.int .u64 0,.int .i64 0,.int .u64 0,.int .i64 0,.int .i64 0,.int .u64 0,.int .i64 0,.int .i64 0,.int .i64 0,.int .i64 0,.int .i64 0,.int .i64 0,.string ⟨#[]⟩] #[.int .i64 7,.int .i64 fr,.int .i64 to_,.int .u64 mi,.int .u64 yo,.int .u64 a,.int .u64 0,.int .i64 0,.int .u64 0,.int .i64 0,.int .i64 0,.int .u64 0,.int .i64 0,.int .i64 0,.int .i64 0,.int .i64 0,.int .i64 0,.int .i64 0,.string ⟨#[]⟩] (by (apply jt;(focus repeat(first|(with_reducible first|assumption|apply jd|apply js)|((with_reducible apply jo);first|focus(dsimp only;assumption)|focus(simp;done)|focus(dsimp only;omega))|((with_reducible apply jn);first|with_reducible rfl|focus(simp;done)|focus(simp;omega))|(with_reducible apply ja)|((with_reducible apply jb);with_reducible assumption)));rfl)) rfl rfl rfl rfl (by kernel_rfl) rfl (by kernel_rfl) ?_
    intro w9 k9 o9 B9 s9
    conv => arg 5;simp [Act.put]
    have hw9 : Below w.heap.size w w9:=B9 _ _ (Nat.le_refl _) (by (repeat(first|(with_reducible first|assumption|exact Below.refl _ _|refine je ?_|refine jl ?_)|((with_reducible refine jp ?_ ?_);first|focus(dsimp only;assumption)|focus(simp;done)|focus(dsimp only;omega))|(with_reducible refine bt ?_ (by assumption)))))
    clear o9 B9 s9
    go_wp2
    refine ret_row 2 29 _ k9 rfl rfl Tryd.underlying29 rfl (by kernel_rfl) rfl ⟨⟨7,fr,to_,mi,yo,a,0,0,0,0,0,0,0,0,0,0,0,0,⟨#[]⟩⟩,frC_of ?_ ?_ ?_ ?_,?_,rfl,hw9⟩
    · simp
    · unfold rngF;simp only;omega
    · rfl
    · unfold clnF;simp
    · constructor <;> simp only <;> omega
end Go.Proofs.YtaiofjffoboicaaDoor
