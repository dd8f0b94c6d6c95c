/- Parts of a proof, printed by a program of mine out of my texts: WiRefDeca, WiRefDecb. -/
import Derived.Test.YtaiofjffoboicaaDoorCI
import Derived.Test.YtaiofjffoboicaaDoorCWiDec3
set_option linter.unusedSimpArgs false
set_option linter.unusedVariables false
namespace Go.Proofs.YtaiofjffoboicaaDoor
open Go.RowKit
set_option maxRecDepth 100000 in
set_option maxHeartbeats 3200000 in
theorem rdecA_true (s : ByteArray) (hs : s.size ≤ 1000000) (no sq of de bo li to q er' fa' pr : Int) (cf : ∀ b w,blk w b = some (rdC s 0 0 0) → Calls Tryd.prog 89 #[.pointer (some ⟨b,0,none⟩)] w fun x w' => x = .returned (.tuple #[buv no sq of de pr bo li to ⟨#[]⟩,.bool true]) ∧ (∃ p,blk w' b = some (rdC s p er' fa') ∧ (er' = 0 → p = q)) ∧ Touch b w w') (he : er' ≠ 0) (w : World) :
    Calls Tryd.prog 58 #[.string s] w fun e w' => e = .returned (.tuple #[.agg #[.int .i64 0,.int .u64 0,.int .i64 0,.int .i64 0,.int .i64 0,.int .i64 0,.int .i64 0,.int .i64 0,.string ⟨#[]⟩],.agg #[.int .i64 er',.int .i64 fa']]) ∧ Below w.heap.size w w':=by
  replace cf:=Lib.hid cf
  have e1' : (er' != 0) = true:=by simp [he]
  clear he
  go_enter Tryd.func58,Tryd.ntmps58
  go_wp2_with fail
  (with_reducible refine (cf.out _ _ ?_).mono ?_)
  · exact blk_alloc_new _ _ _ (by simp)
  rintro e w1 ⟨rfl,⟨p,k1_,kp⟩,t1⟩
  have x1_ : blk w1 w.heap.size = some (#[.int .i64 0,.int .u64 0,.int .i64 0,.int .i64 0,.int .i64 0,.int .i64 0,.int .i64 0,.int .i64 0,.string ⟨#[]⟩]):=t1.2.1 _ _ (by omega) (by (apply jt;(focus repeat(first|(with_reducible first|assumption|apply js)|((with_reducible apply jo);first|focus(dsimp only;assumption)|focus(simp;done)|focus(dsimp only;omega))|((with_reducible apply jn);first|with_reducible rfl|focus(simp;done)|focus(simp;omega))|(with_reducible apply ja)|((with_reducible apply jb);with_reducible assumption)));rfl))
  have y1_ : blk w1 (w.heap.size + 1) = some #[.int .i64 0,.int .i64 0]:=t1.2.1 _ _ (by omega) (by (apply jt;(focus repeat(first|(with_reducible first|assumption|apply js)|((with_reducible apply jo);first|focus(dsimp only;assumption)|focus(simp;done)|focus(dsimp only;omega))|((with_reducible apply jn);first|with_reducible rfl|focus(simp;done)|focus(simp;omega))|(with_reducible apply ja)|((with_reducible apply jb);with_reducible assumption)));rfl))
  have B1 : Below w.heap.size w w1:=((((Below.refl w.heap.size w).alloc (Nat.le_refl _) _).alloc (by simp) _).alloc (by simp;omega) _).trans (t1.1.mono (by omega))
  clear t1 kp
  have kn1:=kn k1_;have knx:=kn x1_;have kny:=kn y1_
  go_wp2
  go_region_held3 (fun W => ∀ o,W.cell? ⟨w.heap.size + 1 + 1,o,none⟩ = (rdC s p er' fa')[o]?) (exact fun o => blk_cell (by (apply jt;(focus repeat(first|(with_reducible first|assumption|apply jd|apply js)|((with_reducible apply jo);first|focus(dsimp only;assumption)|focus(simp;done)|focus(dsimp only;omega))|((with_reducible apply jn);first|with_reducible rfl|focus(simp;done)|focus(simp;omega))|(with_reducible apply ja)|((with_reducible apply jb);with_reducible assumption)));rfl)) o) (fail)
  all_goals
    go_wp2
    refine ret_blk2 (b:=w.heap.size) (d:=w.heap.size + 1) (c:=#[.int .i64 0,.int .u64 0,.int .i64 0,.int .i64 0,.int .i64 0,.int .i64 0,.int .i64 0,.int .i64 0,.string ⟨#[]⟩]) (c':=#[.int .i64 er',.int .i64 fa']) (v:=.tuple #[.agg #[.int .i64 0,.int .u64 0,.int .i64 0,.int .i64 0,.int .i64 0,.int .i64 0,.int .i64 0,.int .i64 0,.string ⟨#[]⟩],.agg #[.int .i64 er',.int .i64 fa']]) (by (apply jt;(focus repeat(first|(with_reducible first|assumption|apply jd|apply js)|((with_reducible apply jo);first|focus(dsimp only;assumption)|focus(simp;done)|focus(dsimp only;omega))|((with_reducible apply jn);first|with_reducible rfl|focus(simp;done)|focus(simp;omega))|(with_reducible apply ja)|((with_reducible apply jb);with_reducible assumption)));rfl)) (by (apply jt;(focus repeat(first|(with_reducible first|assumption|apply jd|apply js)|((with_reducible apply jo);first|focus(dsimp only;assumption)|focus(simp;done)|focus(dsimp only;omega))|((with_reducible apply jn);first|with_reducible rfl|focus(simp;done)|focus(simp;omega))|(with_reducible apply ja)|((with_reducible apply jb);with_reducible assumption)));rfl)) (fun W' e1 e2 => by simp [results,Tryd.results58,go_sem,e1,e2]) rfl ⟨rfl,by (repeat(first|(with_reducible first|assumption|exact Below.refl _ _|refine je ?_|refine jl ?_)|((with_reducible refine jp ?_ ?_);first|focus(dsimp only;assumption)|focus(simp;done)|focus(dsimp only;omega))|(with_reducible refine bt ?_ (by assumption))))⟩
set_option maxRecDepth 100000 in
set_option maxHeartbeats 3200000 in
theorem rdecB_true (s : ByteArray) (hs : s.size ≤ 1000000) (no sq of de bo li to q er' fa' pr : Int) (cf : ∀ b w,blk w b = some (rdC s 0 0 0) → Calls Tryd.prog 89 #[.pointer (some ⟨b,0,none⟩)] w fun x w' => x = .returned (.tuple #[buv no sq of de pr bo li to ⟨#[]⟩,.bool true]) ∧ (∃ p,blk w' b = some (rdC s p er' fa') ∧ (er' = 0 → p = q)) ∧ Touch b w w') (hX0 : er' = 0) (d : List UInt8) (nx te : Int) (ht : getTextN s.data.toList q 1000 = (d,nx,te)) (hq1 : 0 ≤ q) (hq2 : q ≤ s.size) (he : te ≠ 0) (w : World) :
    Calls Tryd.prog 58 #[.string s] w fun e w' => e = .returned (.tuple #[.agg #[.int .i64 0,.int .u64 0,.int .i64 0,.int .i64 0,.int .i64 0,.int .i64 0,.int .i64 0,.int .i64 0,.string ⟨#[]⟩],.agg #[.int .i64 te,.int .i64 nx]]) ∧ Below w.heap.size w w':=by
  replace cf:=Lib.hid cf
  subst hX0
  have ct:=fun w => refGetText_any s q 1000 w (by unfold maxLen;omega) (by omega) (by omega) (by omega)
  rw [ht] at ct
  obtain ⟨dd,hdd⟩ : ∃ v : ByteArray,bstr d = .string v:=⟨_,rfl⟩
  have ct : ∀ w,Calls Tryd.prog 57 #[.string s,.int .i64 q,.int .i64 1000] w fun e w' => e = .returned (.tuple #[.string dd,.int .i64 nx,.int .i64 te]) ∧ w = w':=fun w => by rw [← hdd];exact ct w
  have e1' : (te != 0) = true:=by simp [he]
  clear he hdd ht
  replace ct:=Lib.hid ct
  go_enter Tryd.func58,Tryd.ntmps58
  go_wp2_with fail
  (with_reducible refine (cf.out _ _ ?_).mono ?_)
  · exact blk_alloc_new _ _ _ (by simp)
  rintro e w1 ⟨rfl,⟨p,k1_,kp⟩,t1⟩
  obtain rfl:=kp (by trivial)
  have x1_ : blk w1 w.heap.size = some (#[.int .i64 0,.int .u64 0,.int .i64 0,.int .i64 0,.int .i64 0,.int .i64 0,.int .i64 0,.int .i64 0,.string ⟨#[]⟩]):=t1.2.1 _ _ (by omega) (by (apply jt;(focus repeat(first|(with_reducible first|assumption|apply js)|((with_reducible apply jo);first|focus(dsimp only;assumption)|focus(simp;done)|focus(dsimp only;omega))|((with_reducible apply jn);first|with_reducible rfl|focus(simp;done)|focus(simp;omega))|(with_reducible apply ja)|((with_reducible apply jb);with_reducible assumption)));rfl))
  have y1_ : blk w1 (w.heap.size + 1) = some #[.int .i64 0,.int .i64 0]:=t1.2.1 _ _ (by omega) (by (apply jt;(focus repeat(first|(with_reducible first|assumption|apply js)|((with_reducible apply jo);first|focus(dsimp only;assumption)|focus(simp;done)|focus(dsimp only;omega))|((with_reducible apply jn);first|with_reducible rfl|focus(simp;done)|focus(simp;omega))|(with_reducible apply ja)|((with_reducible apply jb);with_reducible assumption)));rfl))
  have B1 : Below w.heap.size w w1:=((((Below.refl w.heap.size w).alloc (Nat.le_refl _) _).alloc (by simp) _).alloc (by simp;omega) _).trans (t1.1.mono (by omega))
  clear t1
  have kn1:=kn k1_;have knx:=kn x1_;have kny:=kn y1_
  go_wp2_with (go_at_call 57;(with_reducible refine (ct.out _).mono ?_);rintro e wx ⟨rfl,rfl⟩)
  refine ret_blk2 (b:=w.heap.size) (d:=w.heap.size + 1) (c:=#[.int .i64 0,.int .u64 0,.int .i64 0,.int .i64 0,.int .i64 0,.int .i64 0,.int .i64 0,.int .i64 0,.string ⟨#[]⟩]) (c':=#[.int .i64 te,.int .i64 nx]) (v:=.tuple #[.agg #[.int .i64 0,.int .u64 0,.int .i64 0,.int .i64 0,.int .i64 0,.int .i64 0,.int .i64 0,.int .i64 0,.string ⟨#[]⟩],.agg #[.int .i64 te,.int .i64 nx]]) (by (apply jt;(focus repeat(first|(with_reducible first|assumption|apply jd|apply js)|((with_reducible apply jo);first|focus(dsimp only;assumption)|focus(simp;done)|focus(dsimp only;omega))|((with_reducible apply jn);first|with_reducible rfl|focus(simp;done)|focus(simp;omega))|(with_reducible apply ja)|((with_reducible apply jb);with_reducible assumption)));rfl)) (by (apply jt;(focus repeat(first|(with_reducible first|assumption|apply jd|apply js)|((with_reducible apply jo);first|focus(dsimp only;assumption)|focus(simp;done)|focus(dsimp only;omega))|((with_reducible apply jn);first|with_reducible rfl|focus(simp;done)|focus(simp;omega))|(with_reducible apply ja)|((with_reducible apply jb);with_reducible assumption)));rfl)) (fun W' e1 e2 => by simp [results,Tryd.results58,go_sem,e1,e2]) rfl ⟨rfl,by (repeat(first|(with_reducible first|assumption|exact Below.refl _ _|refine je ?_|refine jl ?_)|((with_reducible refine jp ?_ ?_);first|focus(dsimp only;assumption)|focus(simp;done)|focus(dsimp only;omega))|(with_reducible refine bt ?_ (by assumption))))⟩
set_option maxRecDepth 100000 in
set_option maxHeartbeats 3200000 in
theorem rdec1_true (s : ByteArray) (hs : s.size ≤ 1000000) (no sq of de bo li to q er' fa' pr : Int) (cf : ∀ b w,blk w b = some (rdC s 0 0 0) → Calls Tryd.prog 89 #[.pointer (some ⟨b,0,none⟩)] w fun x w' => x = .returned (.tuple #[buv no sq of de pr bo li to ⟨#[]⟩,.bool true]) ∧ (∃ p,blk w' b = some (rdC s p er' fa') ∧ (er' = 0 → p = q)) ∧ Touch b w w') (hX0 : er' = 0) (dd : ByteArray) (n : Nat) (ht : getTextN s.data.toList q 1000 = (dd.data.toList,(n : Int),0)) (hq1 : 0 ≤ q) (hq2 : q ≤ s.size) (hn : n ≤ s.size) (hd : dd.size ≤ 1000000) (c1 : (s.size : Int) - (n : Int) < 4) (w : World) :
    Calls Tryd.prog 58 #[.string s] w fun e w' => e = .returned (.tuple #[.agg #[.int .i64 0,.int .u64 0,.int .i64 0,.int .i64 0,.int .i64 0,.int .i64 0,.int .i64 0,.int .i64 0,.string ⟨#[]⟩],.agg #[.int .i64 11,.int .i64 (s.size : Int)]]) ∧ Below w.heap.size w w':=by
  replace cf:=Lib.hid cf
  subst hX0
  have ct:=fun w => refGetText_any s q 1000 w (by unfold maxLen;omega) (by omega) (by omega) (by omega)
  rw [ht] at ct
  have ct : ∀ w,Calls Tryd.prog 57 #[.string s,.int .i64 q,.int .i64 1000] w fun e w' => e = .returned (.tuple #[.string dd,.int .i64 (n : Int),.int .i64 0]) ∧ w = w':=ct
  replace ct:=Lib.hid ct;clear ht
  have k1 : (s.size : Int) < (n : Int) + 4:=by omega
  clear c1
  go_enter Tryd.func58,Tryd.ntmps58
  go_wp2_with fail
  (with_reducible refine (cf.out _ _ ?_).mono ?_)
  · exact blk_alloc_new _ _ _ (by simp)
  rintro e w1 ⟨rfl,⟨p,k1_,kp⟩,t1⟩
  obtain rfl:=kp (by trivial)
  have x1_ : blk w1 w.heap.size = some (#[.int .i64 0,.int .u64 0,.int .i64 0,.int .i64 0,.int .i64 0,.int .i64 0,.int .i64 0,.int .i64 0,.string ⟨#[]⟩]):=t1.2.1 _ _ (by omega) (by (apply jt;(focus repeat(first|(with_reducible first|assumption|apply js)|((with_reducible apply jo);first|focus(dsimp only;assumption)|focus(simp;done)|focus(dsimp only;omega))|((with_reducible apply jn);first|with_reducible rfl|focus(simp;done)|focus(simp;omega))|(with_reducible apply ja)|((with_reducible apply jb);with_reducible assumption)));rfl))
  have y1_ : blk w1 (w.heap.size + 1) = some #[.int .i64 0,.int .i64 0]:=t1.2.1 _ _ (by omega) (by (apply jt;(focus repeat(first|(with_reducible first|assumption|apply js)|((with_reducible apply jo);first|focus(dsimp only;assumption)|focus(simp;done)|focus(dsimp only;omega))|((with_reducible apply jn);first|with_reducible rfl|focus(simp;done)|focus(simp;omega))|(with_reducible apply ja)|((with_reducible apply jb);with_reducible assumption)));rfl))
  have B1 : Below w.heap.size w w1:=((((Below.refl w.heap.size w).alloc (Nat.le_refl _) _).alloc (by simp) _).alloc (by simp;omega) _).trans (t1.1.mono (by omega))
  clear t1
  have kn1:=kn k1_;have knx:=kn x1_;have kny:=kn y1_
  go_wp2_with (go_at_call 57;(with_reducible refine (ct.out _).mono ?_);rintro e wx ⟨rfl,rfl⟩)
  refine ret_blk2 (b:=w.heap.size) (d:=w.heap.size + 1) (c:=#[.int .i64 0,.int .u64 0,.int .i64 0,.int .i64 0,.int .i64 0,.int .i64 0,.int .i64 0,.int .i64 0,.string ⟨#[]⟩]) (c':=#[.int .i64 11,.int .i64 (s.size : Int)]) (v:=.tuple #[.agg #[.int .i64 0,.int .u64 0,.int .i64 0,.int .i64 0,.int .i64 0,.int .i64 0,.int .i64 0,.int .i64 0,.string ⟨#[]⟩],.agg #[.int .i64 11,.int .i64 (s.size : Int)]]) (by (apply jt;(focus repeat(first|(with_reducible first|assumption|apply jd|apply js)|((with_reducible apply jo);first|focus(dsimp only;assumption)|focus(simp;done)|focus(dsimp only;omega))|((with_reducible apply jn);first|with_reducible rfl|focus(simp;done)|focus(simp;omega))|(with_reducible apply ja)|((with_reducible apply jb);with_reducible assumption)));rfl)) (by (apply jt;(focus repeat(first|(with_reducible first|assumption|apply jd|apply js)|((with_reducible apply jo);first|focus(dsimp only;assumption)|focus(simp;done)|focus(dsimp only;omega))|((with_reducible apply jn);first|with_reducible rfl|focus(simp;done)|focus(simp;omega))|(with_reducible apply ja)|((with_reducible apply jb);with_reducible assumption)));rfl)) (fun W' e1 e2 => by simp [results,Tryd.results58,go_sem,e1,e2]) rfl ⟨rfl,by (repeat(first|(with_reducible first|assumption|exact Below.refl _ _|refine je ?_|refine jl ?_)|((with_reducible refine jp ?_ ?_);first|focus(dsimp only;assumption)|focus(simp;done)|focus(dsimp only;omega))|(with_reducible refine bt ?_ (by assumption))))⟩
set_option maxRecDepth 100000 in
set_option maxHeartbeats 3200000 in
theorem rdecA_false (s : ByteArray) (hs : s.size ≤ 1000000) (no sq of de bo li to q er' fa' pr : Int) (cf : ∀ b w,blk w b = some (rdC s 0 0 0) → Calls Tryd.prog 89 #[.pointer (some ⟨b,0,none⟩)] w fun x w' => x = .returned (.tuple #[buv no sq of de pr bo li to ⟨#[]⟩,.bool false]) ∧ (∃ p,blk w' b = some (rdC s p er' fa') ∧ (er' = 0 → p = q)) ∧ Touch b w w') (he : er' ≠ 0) (w : World) :
    Calls Tryd.prog 58 #[.string s] w fun e w' => e = .returned (.tuple #[.agg #[.int .i64 0,.int .u64 0,.int .i64 0,.int .i64 0,.int .i64 0,.int .i64 0,.int .i64 0,.int .i64 0,.string ⟨#[]⟩],.agg #[.int .i64 er',.int .i64 fa']]) ∧ Below w.heap.size w w':=by
  replace cf:=Lib.hid cf
  have e1' : (er' != 0) = true:=by simp [he]
  clear he
  go_enter Tryd.func58,Tryd.ntmps58
  go_wp2_with fail
  (with_reducible refine (cf.out _ _ ?_).mono ?_)
  · exact blk_alloc_new _ _ _ (by simp)
  rintro e w1 ⟨rfl,⟨p,k1_,kp⟩,t1⟩
  have x1_ : blk w1 w.heap.size = some (#[.int .i64 0,.int .u64 0,.int .i64 0,.int .i64 0,.int .i64 0,.int .i64 0,.int .i64 0,.int .i64 0,.string ⟨#[]⟩]):=t1.2.1 _ _ (by omega) (by (apply jt;(focus repeat(first|(with_reducible first|assumption|apply js)|((with_reducible apply jo);first|focus(dsimp only;assumption)|focus(simp;done)|focus(dsimp only;omega))|((with_reducible apply jn);first|with_reducible rfl|focus(simp;done)|focus(simp;omega))|(with_reducible apply ja)|((with_reducible apply jb);with_reducible assumption)));rfl))
  have y1_ : blk w1 (w.heap.size + 1) = some #[.int .i64 0,.int .i64 0]:=t1.2.1 _ _ (by omega) (by (apply jt;(focus repeat(first|(with_reducible first|assumption|apply js)|((with_reducible apply jo);first|focus(dsimp only;assumption)|focus(simp;done)|focus(dsimp only;omega))|((with_reducible apply jn);first|with_reducible rfl|focus(simp;done)|focus(simp;omega))|(with_reducible apply ja)|((with_reducible apply jb);with_reducible assumption)));rfl))
  have B1 : Below w.heap.size w w1:=((((Below.refl w.heap.size w).alloc (Nat.le_refl _) _).alloc (by simp) _).alloc (by simp;omega) _).trans (t1.1.mono (by omega))
  clear t1 kp
  have kn1:=kn k1_;have knx:=kn x1_;have kny:=kn y1_
  go_wp2
  go_region_held3 (fun W => ∀ o,W.cell? ⟨w.heap.size + 1 + 1,o,none⟩ = (rdC s p er' fa')[o]?) (exact fun o => blk_cell (by (apply jt;(focus repeat(first|(with_reducible first|assumption|apply jd|apply js)|((with_reducible apply jo);first|focus(dsimp only;assumption)|focus(simp;done)|focus(dsimp only;omega))|((with_reducible apply jn);first|with_reducible rfl|focus(simp;done)|focus(simp;omega))|(with_reducible apply ja)|((with_reducible apply jb);with_reducible assumption)));rfl)) o) (fail)
  all_goals
    go_wp2
    refine ret_blk2 (b:=w.heap.size) (d:=w.heap.size + 1) (c:=#[.int .i64 0,.int .u64 0,.int .i64 0,.int .i64 0,.int .i64 0,.int .i64 0,.int .i64 0,.int .i64 0,.string ⟨#[]⟩]) (c':=#[.int .i64 er',.int .i64 fa']) (v:=.tuple #[.agg #[.int .i64 0,.int .u64 0,.int .i64 0,.int .i64 0,.int .i64 0,.int .i64 0,.int .i64 0,.int .i64 0,.string ⟨#[]⟩],.agg #[.int .i64 er',.int .i64 fa']]) (by (apply jt;(focus repeat(first|(with_reducible first|assumption|apply jd|apply js)|((with_reducible apply jo);first|focus(dsimp only;assumption)|focus(simp;done)|focus(dsimp only;omega))|((with_reducible apply jn);first|with_reducible rfl|focus(simp;done)|focus(simp;omega))|(with_reducible apply ja)|((with_reducible apply jb);with_reducible assumption)));rfl)) (by (apply jt;(focus repeat(first|(with_reducible first|assumption|apply jd|apply js)|((with_reducible apply jo);first|focus(dsimp only;assumption)|focus(simp;done)|focus(dsimp only;omega))|((with_reducible apply jn);first|with_reducible rfl|focus(simp;done)|focus(simp;omega))|(with_reducible apply ja)|((with_reducible apply jb);with_reducible assumption)));rfl)) (fun W' e1 e2 => by simp [results,Tryd.results58,go_sem,e1,e2]) rfl ⟨rfl,by (repeat(first|(with_reducible first|assumption|exact Below.refl _ _|refine je ?_|refine jl ?_)|((with_reducible refine jp ?_ ?_);first|focus(dsimp only;assumption)|focus(simp;done)|focus(dsimp only;omega))|(with_reducible refine bt ?_ (by assumption))))⟩
set_option maxRecDepth 100000 in
set_option maxHeartbeats 3200000 in
theorem rdecB_false (s : ByteArray) (hs : s.size ≤ 1000000) (no sq of de bo li to q er' fa' pr : Int) (cf : ∀ b w,blk w b = some (rdC s 0 0 0) → Calls Tryd.prog 89 #[.pointer (some ⟨b,0,none⟩)] w fun x w' => x = .returned (.tuple #[buv no sq of de pr bo li to ⟨#[]⟩,.bool false]) ∧ (∃ p,blk w' b = some (rdC s p er' fa') ∧ (er' = 0 → p = q)) ∧ Touch b w w') (hX0 : er' = 0) (d : List UInt8) (nx te : Int) (ht : getTextN s.data.toList q 1000 = (d,nx,te)) (hq1 : 0 ≤ q) (hq2 : q ≤ s.size) (he : te ≠ 0) (w : World) :
    Calls Tryd.prog 58 #[.string s] w fun e w' => e = .returned (.tuple #[.agg #[.int .i64 0,.int .u64 0,.int .i64 0,.int .i64 0,.int .i64 0,.int .i64 0,.int .i64 0,.int .i64 0,.string ⟨#[]⟩],.agg #[.int .i64 te,.int .i64 nx]]) ∧ Below w.heap.size w w':=by
  replace cf:=Lib.hid cf
  subst hX0
  have ct:=fun w => refGetText_any s q 1000 w (by unfold maxLen;omega) (by omega) (by omega) (by omega)
  rw [ht] at ct
  obtain ⟨dd,hdd⟩ : ∃ v : ByteArray,bstr d = .string v:=⟨_,rfl⟩
  have ct : ∀ w,Calls Tryd.prog 57 #[.string s,.int .i64 q,.int .i64 1000] w fun e w' => e = .returned (.tuple #[.string dd,.int .i64 nx,.int .i64 te]) ∧ w = w':=fun w => by rw [← hdd];exact ct w
  have e1' : (te != 0) = true:=by simp [he]
  clear he hdd ht
  replace ct:=Lib.hid ct
  go_enter Tryd.func58,Tryd.ntmps58
  go_wp2_with fail
  (with_reducible refine (cf.out _ _ ?_).mono ?_)
  · exact blk_alloc_new _ _ _ (by simp)
  rintro e w1 ⟨rfl,⟨p,k1_,kp⟩,t1⟩
  obtain rfl:=kp (by trivial)
  have x1_ : blk w1 w.heap.size = some (#[.int .i64 0,.int .u64 0,.int .i64 0,.int .i64 0,.int .i64 0,.int .i64 0,.int .i64 0,.int .i64 0,.string ⟨#[]⟩]):=t1.2.1 _ _ (by omega) (by (apply jt;(focus repeat(first|(with_reducible first|assumption|apply js)|((with_reducible apply jo);first|focus(dsimp only;assumption)|focus(simp;done)|focus(dsimp only;omega))|((with_reducible apply jn);first|with_reducible rfl|focus(simp;done)|focus(simp;omega))|(with_reducible apply ja)|((with_reducible apply jb);with_reducible assumption)));rfl))
  have y1_ : blk w1 (w.heap.size + 1) = some #[.int .i64 0,.int .i64 0]:=t1.2.1 _ _ (by omega) (by (apply jt;(focus repeat(first|(with_reducible first|assumption|apply js)|((with_reducible apply jo);first|focus(dsimp only;assumption)|focus(simp;done)|focus(dsimp only;omega))|((with_reducible apply jn);first|with_reducible rfl|focus(simp;done)|focus(simp;omega))|(with_reducible apply ja)|((with_reducible apply jb);with_reducible assumption)));rfl))
  have B1 : Below w.heap.size w w1:=((((Below.refl w.heap.size w).alloc (Nat.le_refl _) _).alloc (by simp) _).alloc (by simp;omega) _).trans (t1.1.mono (by omega))
  clear t1
  have kn1:=kn k1_;have knx:=kn x1_;have kny:=kn y1_
  go_wp2_with (go_at_call 57;(with_reducible refine (ct.out _).mono ?_);rintro e wx ⟨rfl,rfl⟩)
  refine ret_blk2 (b:=w.heap.size) (d:=w.heap.size + 1) (c:=#[.int .i64 0,.int .u64 0,.int .i64 0,.int .i64 0,.int .i64 0,.int .i64 0,.int .i64 0,.int .i64 0,.string ⟨#[]⟩]) (c':=#[.int .i64 te,.int .i64 nx]) (v:=.tuple #[.agg #[.int .i64 0,.int .u64 0,.int .i64 0,.int .i64 0,.int .i64 0,.int .i64 0,.int .i64 0,.int .i64 0,.string ⟨#[]⟩],.agg #[.int .i64 te,.int .i64 nx]]) (by (apply jt;(focus repeat(first|(with_reducible first|assumption|apply jd|apply js)|((with_reducible apply jo);first|focus(dsimp only;assumption)|focus(simp;done)|focus(dsimp only;omega))|((with_reducible apply jn);first|with_reducible rfl|focus(simp;done)|focus(simp;omega))|(with_reducible apply ja)|((with_reducible apply jb);with_reducible assumption)));rfl)) (by (apply jt;(focus repeat(first|(with_reducible first|assumption|apply jd|apply js)|((with_reducible apply jo);first|focus(dsimp only;assumption)|focus(simp;done)|focus(dsimp only;omega))|((with_reducible apply jn);first|with_reducible rfl|focus(simp;done)|focus(simp;omega))|(with_reducible apply ja)|((with_reducible apply jb);with_reducible assumption)));rfl)) (fun W' e1 e2 => by simp [results,Tryd.results58,go_sem,e1,e2]) rfl ⟨rfl,by (repeat(first|(with_reducible first|assumption|exact Below.refl _ _|refine je ?_|refine jl ?_)|((with_reducible refine jp ?_ ?_);first|focus(dsimp only;assumption)|focus(simp;done)|focus(dsimp only;omega))|(with_reducible refine bt ?_ (by assumption))))⟩
set_option maxRecDepth 100000 in
set_option maxHeartbeats 3200000 in
theorem rdec1_false (s : ByteArray) (hs : s.size ≤ 1000000) (no sq of de bo li to q er' fa' pr : Int) (cf : ∀ b w,blk w b = some (rdC s 0 0 0) → Calls Tryd.prog 89 #[.pointer (some ⟨b,0,none⟩)] w fun x w' => x = .returned (.tuple #[buv no sq of de pr bo li to ⟨#[]⟩,.bool false]) ∧ (∃ p,blk w' b = some (rdC s p er' fa') ∧ (er' = 0 → p = q)) ∧ Touch b w w') (hX0 : er' = 0) (dd : ByteArray) (n : Nat) (ht : getTextN s.data.toList q 1000 = (dd.data.toList,(n : Int),0)) (hq1 : 0 ≤ q) (hq2 : q ≤ s.size) (hn : n ≤ s.size) (hd : dd.size ≤ 1000000) (c1 : (s.size : Int) - (n : Int) < 4) (w : World) :
    Calls Tryd.prog 58 #[.string s] w fun e w' => e = .returned (.tuple #[.agg #[.int .i64 0,.int .u64 0,.int .i64 0,.int .i64 0,.int .i64 0,.int .i64 0,.int .i64 0,.int .i64 0,.string ⟨#[]⟩],.agg #[.int .i64 11,.int .i64 (s.size : Int)]]) ∧ Below w.heap.size w w':=by
  replace cf:=Lib.hid cf
  subst hX0
  have ct:=fun w => refGetText_any s q 1000 w (by unfold maxLen;omega) (by omega) (by omega) (by omega)
  rw [ht] at ct
  have ct : ∀ w,Calls Tryd.prog 57 #[.string s,.int .i64 q,.int .i64 1000] w fun e w' => e = .returned (.tuple #[.string dd,.int .i64 (n : Int),.int .i64 0]) ∧ w = w':=ct
  replace ct:=Lib.hid ct;clear ht
  have k1 : (s.size : Int) < (n : Int) + 4:=by omega
  clear c1
  go_enter Tryd.func58,Tryd.ntmps58
  go_wp2_with fail
  (with_reducible refine (cf.out _ _ ?_).mono ?_)
  · exact blk_alloc_new _ _ _ (by simp)
  rintro e w1 ⟨rfl,⟨p,k1_,kp⟩,t1⟩
  obtain rfl:=kp (by trivial)
  have x1_ : blk w1 w.heap.size = some (#[.int .i64 0,.int .u64 0,.int .i64 0,.int .i64 0,.int .i64 0,.int .i64 0,.int .i64 0,.int .i64 0,.string ⟨#[]⟩]):=t1.2.1 _ _ (by omega) (by (apply jt;(focus repeat(first|(with_reducible first|assumption|apply js)|((with_reducible apply jo);first|focus(dsimp only;assumption)|focus(simp;done)|focus(dsimp only;omega))|((with_reducible apply jn);first|with_reducible rfl|focus(simp;done)|focus(simp;omega))|(with_reducible apply ja)|((with_reducible apply jb);with_reducible assumption)));rfl))
  have y1_ : blk w1 (w.heap.size + 1) = some #[.int .i64 0,.int .i64 0]:=t1.2.1 _ _ (by omega) (by (apply jt;(focus repeat(first|(with_reducible first|assumption|apply js)|((with_reducible apply jo);first|focus(dsimp only;assumption)|focus(simp;done)|focus(dsimp only;omega))|((with_reducible apply jn);first|with_reducible rfl|focus(simp;done)|focus(simp;omega))|(with_reducible apply ja)|((with_reducible apply jb);with_reducible assumption)));rfl))
  have B1 : Below w.heap.size w w1:=((((Below.refl w.heap.size w).alloc (Nat.le_refl _) _).alloc (by simp) _).alloc (by simp;omega) _).trans (t1.1.mono (by omega))
  clear t1
  have kn1:=kn k1_;have knx:=kn x1_;have kny:=kn y1_
  go_wp2_with (go_at_call 57;(with_reducible refine (ct.out _).mono ?_);rintro e wx ⟨rfl,rfl⟩)
  refine ret_blk2 (b:=w.heap.size) (d:=w.heap.size + 1) (c:=#[.int .i64 0,.int .u64 0,.int .i64 0,.int .i64 0,.int .i64 0,.int .i64 0,.int .i64 0,.int .i64 0,.string ⟨#[]⟩]) (c':=#[.int .i64 11,.int .i64 (s.size : Int)]) (v:=.tuple #[.agg #[.int .i64 0,.int .u64 0,.int .i64 0,.int .i64 0,.int .i64 0,.int .i64 0,.int .i64 0,.int .i64 0,.string ⟨#[]⟩],.agg #[.int .i64 11,.int .i64 (s.size : Int)]]) (by (apply jt;(focus repeat(first|(with_reducible first|assumption|apply jd|apply js)|((with_reducible apply jo);first|focus(dsimp only;assumption)|focus(simp;done)|focus(dsimp only;omega))|((with_reducible apply jn);first|with_reducible rfl|focus(simp;done)|focus(simp;omega))|(with_reducible apply ja)|((with_reducible apply jb);with_reducible assumption)));rfl)) (by (apply jt;(focus repeat(first|(with_reducible first|assumption|apply jd|apply js)|((with_reducible apply jo);first|focus(dsimp only;assumption)|focus(simp;done)|focus(dsimp only;omega))|((with_reducible apply jn);first|with_reducible rfl|focus(simp;done)|focus(simp;omega))|(with_reducible apply ja)|((with_reducible apply jb);with_reducible assumption)));rfl)) (fun W' e1 e2 => by simp [results,Tryd.results58,go_sem,e1,e2]) rfl ⟨rfl,by (repeat(first|(with_reducible first|assumption|exact Below.refl _ _|refine je ?_|refine jl ?_)|((with_reducible refine jp ?_ ?_);first|focus(dsimp only;assumption)|focus(simp;done)|focus(dsimp only;omega))|(with_reducible refine bt ?_ (by assumption))))⟩
end Go.Proofs.YtaiofjffoboicaaDoor
namespace Go.Proofs.YtaiofjffoboicaaDoor
open Go.RowKit
set_option maxRecDepth 100000 in
set_option maxHeartbeats 3200000 in
theorem rdec2_true (s : ByteArray) (hs : s.size ≤ 1000000) (no sq of de bo li to q er' fa' pr : Int) (cf : ∀ b w,blk w b = some (rdC s 0 0 0) → Calls Tryd.prog 89 #[.pointer (some ⟨b,0,none⟩)] w fun x w' => x = .returned (.tuple #[buv no sq of de pr bo li to ⟨#[]⟩,.bool true]) ∧ (∃ p,blk w' b = some (rdC s p er' fa') ∧ (er' = 0 → p = q)) ∧ Touch b w w') (hX0 : er' = 0) (dd : ByteArray) (n : Nat) (ht : getTextN s.data.toList q 1000 = (dd.data.toList,(n : Int),0)) (hq1 : 0 ≤ q) (hq2 : q ≤ s.size) (hn : n ≤ s.size) (hd : dd.size ≤ 1000000) (c1 : n + 4 ≤ s.size) (c2 : (s.data.toList.drop n).take 4 ≠ four (crcN (s.data.toList.take n))) (w : World) :
    Calls Tryd.prog 58 #[.string s] w fun e w' => e = .returned (.tuple #[.agg #[.int .i64 0,.int .u64 0,.int .i64 0,.int .i64 0,.int .i64 0,.int .i64 0,.int .i64 0,.int .i64 0,.string ⟨#[]⟩],.agg #[.int .i64 10,.int .i64 (n : Int)]]) ∧ Below w.heap.size w w':=by
  replace cf:=Lib.hid cf
  subst hX0
  have ct:=fun w => refGetText_any s q 1000 w (by unfold maxLen;omega) (by omega) (by omega) (by omega)
  rw [ht] at ct
  have ct : ∀ w,Calls Tryd.prog 57 #[.string s,.int .i64 q,.int .i64 1000] w fun e w' => e = .returned (.tuple #[.string dd,.int .i64 (n : Int),.int .i64 0]) ∧ w = w':=ct
  replace ct:=Lib.hid ct;clear ht
  have k1 : (n : Int) + 4 ≤ (s.size : Int):=by omega
  have x1 : (s.extract 0 n).size = n:=by simp;omega
  have x2 : (s.extract 0 n).data.toList = s.data.toList.take n:=by simp
  have gc:=fun w => refCrc32_any (s.extract 0 n) (by omega) w
  have gf:=fun w => refFour_any (crcN (s.extract 0 n).data.toList) (crcN_lt _) w
  obtain ⟨t2,ht2⟩ : ∃ t,s.extract n (n + 4) = t:=⟨_,rfl⟩
  have h1 : t2.data.toList = (s.data.toList.drop n).take 4:=by rw [← ht2,Lib.extract_data,show n + 4 - n = 4 by omega]
  obtain ⟨t3,ht3⟩ : ∃ t : ByteArray,t.data.toList = four (crcN (s.extract 0 n).data.toList):=⟨⟨(four (crcN (s.extract 0 n).data.toList)).toArray⟩,rfl⟩
  have e3 : bstr (four (crcN (s.extract 0 n).data.toList)) = .string t3:=(vstr ht3).symm
  have hne : t2.data.toList ≠ t3.data.toList:=by rw [ht3,h1,x2];exact c2
  have hne2 : t2.toList ≠ t3.toList:=by rw [ByteArray.toList_eq,ByteArray.toList_eq];exact hne
  have hne0 : t2 ≠ t3:=fun h => hne (by rw [h])
  have m1 : (t2.toList == t3.toList) = false:=by simp [hne2]
  have m2 : (t2.toList != t3.toList) = true:=by simp [hne2]
  clear hne hne2 ht3
  rw [e3] at gf
  obtain ⟨c,hc⟩ : ∃ c,crcN (s.extract 0 n).data.toList = c:=⟨_,rfl⟩
  rw [hc] at gc gf
  replace gc:=Lib.hid gc;replace gf:=Lib.hid gf
  clear hc e3 h1 c2 x2
  have HC1:=Lib.hid c1;clear c1
  go_enter Tryd.func58,Tryd.ntmps58
  go_wp2_with fail
  (with_reducible refine (cf.out _ _ ?_).mono ?_)
  · exact blk_alloc_new _ _ _ (by simp)
  rintro e w1 ⟨rfl,⟨p,k1_,kp⟩,t1⟩
  obtain rfl:=kp (by trivial)
  have x1_ : blk w1 w.heap.size = some (#[.int .i64 0,.int .u64 0,.int .i64 0,.int .i64 0,.int .i64 0,.int .i64 0,.int .i64 0,.int .i64 0,.string ⟨#[]⟩]):=t1.2.1 _ _ (by omega) (by (apply jt;(focus repeat(first|(with_reducible first|assumption|apply js)|((with_reducible apply jo);first|focus(dsimp only;assumption)|focus(simp;done)|focus(dsimp only;omega))|((with_reducible apply jn);first|with_reducible rfl|focus(simp;done)|focus(simp;omega))|(with_reducible apply ja)|((with_reducible apply jb);with_reducible assumption)));rfl))
  have y1_ : blk w1 (w.heap.size + 1) = some #[.int .i64 0,.int .i64 0]:=t1.2.1 _ _ (by omega) (by (apply jt;(focus repeat(first|(with_reducible first|assumption|apply js)|((with_reducible apply jo);first|focus(dsimp only;assumption)|focus(simp;done)|focus(dsimp only;omega))|((with_reducible apply jn);first|with_reducible rfl|focus(simp;done)|focus(simp;omega))|(with_reducible apply ja)|((with_reducible apply jb);with_reducible assumption)));rfl))
  have B1 : Below w.heap.size w w1:=((((Below.refl w.heap.size w).alloc (Nat.le_refl _) _).alloc (by simp) _).alloc (by simp;omega) _).trans (t1.1.mono (by omega))
  clear t1
  have kn1:=kn k1_;have knx:=kn x1_;have kny:=kn y1_
  go_wp2_with (go_at_call 57;(with_reducible refine (ct.out _).mono ?_);rintro e wx ⟨rfl,rfl⟩)
  refine wp_region_in (by kernel_rfl) (by kernel_rfl) ?_
  intro W0_1 hE_1 hN_1
  have bW0_1 : Below w.heap.size w W0_1:=(by rw [hE_1.out];(repeat(first|(with_reducible first|assumption|exact Below.refl _ _|refine je ?_|refine jl ?_)|((with_reducible refine jp ?_ ?_);first|focus(dsimp only;assumption)|focus(simp;done)|focus(dsimp only;omega))|(with_reducible refine bt ?_ (by assumption)))))
  have kk2 : blk W0_1 (w1.heap.size) = some (#[.int .i64 no,.int .u64 sq,.int .i64 of,.int .i64 de,.int .i64 pr,.int .i64 bo,.int .i64 li,.int .i64 (dd.size : Int),.string dd]):=(by rw [hE_1.out];(apply jt;(focus repeat(first|(with_reducible first|assumption|apply jd|apply js)|((with_reducible apply jo);first|focus(dsimp only;assumption)|focus(simp;done)|focus(dsimp only;omega))|((with_reducible apply jn);first|with_reducible rfl|focus(simp;done)|focus(simp;omega))|(with_reducible apply ja)|((with_reducible apply jb);with_reducible assumption)));rfl))
  have kk3 : blk W0_1 (w.heap.size) = some (#[.int .i64 0,.int .u64 0,.int .i64 0,.int .i64 0,.int .i64 0,.int .i64 0,.int .i64 0,.int .i64 0,.string ⟨#[]⟩]):=(by rw [hE_1.out];(apply jt;(focus repeat(first|(with_reducible first|assumption|apply jd|apply js)|((with_reducible apply jo);first|focus(dsimp only;assumption)|focus(simp;done)|focus(dsimp only;omega))|((with_reducible apply jn);first|with_reducible rfl|focus(simp;done)|focus(simp;omega))|(with_reducible apply ja)|((with_reducible apply jb);with_reducible assumption)));rfl))
  have kk4 : blk W0_1 (w.heap.size + 1) = some (#[.int .i64 0,.int .i64 0]):=(by rw [hE_1.out];(apply jt;(focus repeat(first|(with_reducible first|assumption|apply jd|apply js)|((with_reducible apply jo);first|focus(dsimp only;assumption)|focus(simp;done)|focus(dsimp only;omega))|((with_reducible apply jn);first|with_reducible rfl|focus(simp;done)|focus(simp;omega))|(with_reducible apply ja)|((with_reducible apply jb);with_reducible assumption)));rfl))
  have kn2:=calm_kn kk2
  have kn3:=calm_kn kk3
  have kn4:=calm_kn kk4
  clear hE_1
  repeat (go_big_quiet_step ((first|(go_at_call 91;(with_reducible refine Class.same _ (gc.out _)))|(go_at_call 90;(with_reducible refine Class.go _ (gf.out _))))))
  refine wpQuiet_nil ?_
  rintro _ ⟨x_1,rfl⟩
  have hx_1 : Calm W0_1 x_1.wd:=x_1.ok
  have bw2 : Below w.heap.size w x_1.wd:=bt bW0_1 hx_1
  clear kn2;replace kk2:=blk_below hx_1 kk2;have kn2:=kn kk2
  clear kn3;replace kk3:=blk_below hx_1 kk3;have kn3:=kn kk3
  clear kn4;replace kk4:=blk_below hx_1 kk4;have kn4:=kn kk4
  clear hx_1 bW0_1 hN_1
  generalize x_1.wd = w2 at *
  have sw2:=bw2.size
  go_wp2
  refine ret_blk2 (b:=w.heap.size) (d:=w.heap.size + 1) (c:=#[.int .i64 0,.int .u64 0,.int .i64 0,.int .i64 0,.int .i64 0,.int .i64 0,.int .i64 0,.int .i64 0,.string ⟨#[]⟩]) (c':=#[.int .i64 10,.int .i64 (n : Int)]) (v:=.tuple #[.agg #[.int .i64 0,.int .u64 0,.int .i64 0,.int .i64 0,.int .i64 0,.int .i64 0,.int .i64 0,.int .i64 0,.string ⟨#[]⟩],.agg #[.int .i64 10,.int .i64 (n : Int)]]) (by (apply jt;(focus repeat(first|(with_reducible first|assumption|apply jd|apply js)|((with_reducible apply jo);first|focus(dsimp only;assumption)|focus(simp;done)|focus(dsimp only;omega))|((with_reducible apply jn);first|with_reducible rfl|focus(simp;done)|focus(simp;omega))|(with_reducible apply ja)|((with_reducible apply jb);with_reducible assumption)));rfl)) (by (apply jt;(focus repeat(first|(with_reducible first|assumption|apply jd|apply js)|((with_reducible apply jo);first|focus(dsimp only;assumption)|focus(simp;done)|focus(dsimp only;omega))|((with_reducible apply jn);first|with_reducible rfl|focus(simp;done)|focus(simp;omega))|(with_reducible apply ja)|((with_reducible apply jb);with_reducible assumption)));rfl)) (fun W' e1 e2 => by simp [results,Tryd.results58,go_sem,e1,e2]) rfl ⟨rfl,by (repeat(first|(with_reducible first|assumption|exact Below.refl _ _|refine je ?_|refine jl ?_)|((with_reducible refine jp ?_ ?_);first|focus(dsimp only;assumption)|focus(simp;done)|focus(dsimp only;omega))|(with_reducible refine bt ?_ (by assumption))))⟩
set_option maxRecDepth 100000 in
set_option maxHeartbeats 3200000 in
theorem rdec3_true (s : ByteArray) (hs : s.size ≤ 1000000) (no sq of de bo li to q er' fa' pr : Int) (cf : ∀ b w,blk w b = some (rdC s 0 0 0) → Calls Tryd.prog 89 #[.pointer (some ⟨b,0,none⟩)] w fun x w' => x = .returned (.tuple #[buv no sq of de pr bo li to ⟨#[]⟩,.bool true]) ∧ (∃ p,blk w' b = some (rdC s p er' fa') ∧ (er' = 0 → p = q)) ∧ Touch b w w') (hX0 : er' = 0) (dd : ByteArray) (n : Nat) (ht : getTextN s.data.toList q 1000 = (dd.data.toList,(n : Int),0)) (hq1 : 0 ≤ q) (hq2 : q ≤ s.size) (hn : n ≤ s.size) (hd : dd.size ≤ 1000000) (c1 : n + 4 ≤ s.size) (c2 : (s.data.toList.drop n).take 4 = four (crcN (s.data.toList.take n))) (c3 : n + 4 < s.size) (w : World) :
    Calls Tryd.prog 58 #[.string s] w fun e w' => e = .returned (.tuple #[.agg #[.int .i64 0,.int .u64 0,.int .i64 0,.int .i64 0,.int .i64 0,.int .i64 0,.int .i64 0,.int .i64 0,.string ⟨#[]⟩],.agg #[.int .i64 4,.int .i64 ((n : Int) + 4)]]) ∧ Below w.heap.size w w':=by
  replace cf:=Lib.hid cf
  subst hX0
  have ct:=fun w => refGetText_any s q 1000 w (by unfold maxLen;omega) (by omega) (by omega) (by omega)
  rw [ht] at ct
  have ct : ∀ w,Calls Tryd.prog 57 #[.string s,.int .i64 q,.int .i64 1000] w fun e w' => e = .returned (.tuple #[.string dd,.int .i64 (n : Int),.int .i64 0]) ∧ w = w':=ct
  replace ct:=Lib.hid ct;clear ht
  have k1 : (n : Int) + 4 ≤ (s.size : Int):=by omega
  have x1 : (s.extract 0 n).size = n:=by simp;omega
  have x2 : (s.extract 0 n).data.toList = s.data.toList.take n:=by simp
  have gc:=fun w => refCrc32_any (s.extract 0 n) (by omega) w
  have gf:=fun w => refFour_any (crcN (s.extract 0 n).data.toList) (crcN_lt _) w
  obtain ⟨t2,ht2⟩ : ∃ t,s.extract n (n + 4) = t:=⟨_,rfl⟩
  have h1 : t2.data.toList = (s.data.toList.drop n).take 4:=by rw [← ht2,Lib.extract_data,show n + 4 - n = 4 by omega]
  have e3 : bstr (four (crcN (s.extract 0 n).data.toList)) = .string t2:=by rw [x2];exact (vstr (by rw [h1];exact c2)).symm
  rw [e3] at gf
  obtain ⟨c,hc⟩ : ∃ c,crcN (s.extract 0 n).data.toList = c:=⟨_,rfl⟩
  rw [hc] at gc gf
  replace gc:=Lib.hid gc;replace gf:=Lib.hid gf
  clear hc e3 h1 c2 x2
  have k3 : (n : Int) + 4 < (s.size : Int):=by omega
  have HC1:=Lib.hid c1;clear c1
  go_enter Tryd.func58,Tryd.ntmps58
  go_wp2_with fail
  (with_reducible refine (cf.out _ _ ?_).mono ?_)
  · exact blk_alloc_new _ _ _ (by simp)
  rintro e w1 ⟨rfl,⟨p,k1_,kp⟩,t1⟩
  obtain rfl:=kp (by trivial)
  have x1_ : blk w1 w.heap.size = some (#[.int .i64 0,.int .u64 0,.int .i64 0,.int .i64 0,.int .i64 0,.int .i64 0,.int .i64 0,.int .i64 0,.string ⟨#[]⟩]):=t1.2.1 _ _ (by omega) (by (apply jt;(focus repeat(first|(with_reducible first|assumption|apply js)|((with_reducible apply jo);first|focus(dsimp only;assumption)|focus(simp;done)|focus(dsimp only;omega))|((with_reducible apply jn);first|with_reducible rfl|focus(simp;done)|focus(simp;omega))|(with_reducible apply ja)|((with_reducible apply jb);with_reducible assumption)));rfl))
  have y1_ : blk w1 (w.heap.size + 1) = some #[.int .i64 0,.int .i64 0]:=t1.2.1 _ _ (by omega) (by (apply jt;(focus repeat(first|(with_reducible first|assumption|apply js)|((with_reducible apply jo);first|focus(dsimp only;assumption)|focus(simp;done)|focus(dsimp only;omega))|((with_reducible apply jn);first|with_reducible rfl|focus(simp;done)|focus(simp;omega))|(with_reducible apply ja)|((with_reducible apply jb);with_reducible assumption)));rfl))
  have B1 : Below w.heap.size w w1:=((((Below.refl w.heap.size w).alloc (Nat.le_refl _) _).alloc (by simp) _).alloc (by simp;omega) _).trans (t1.1.mono (by omega))
  clear t1
  have kn1:=kn k1_;have knx:=kn x1_;have kny:=kn y1_
  go_wp2_with (go_at_call 57;(with_reducible refine (ct.out _).mono ?_);rintro e wx ⟨rfl,rfl⟩)
  refine wp_region_in (by kernel_rfl) (by kernel_rfl) ?_
  intro W0_5 hE_5 hN_5
  have bW0_5 : Below w.heap.size w W0_5:=(by rw [hE_5.out];(repeat(first|(with_reducible first|assumption|exact Below.refl _ _|refine je ?_|refine jl ?_)|((with_reducible refine jp ?_ ?_);first|focus(dsimp only;assumption)|focus(simp;done)|focus(dsimp only;omega))|(with_reducible refine bt ?_ (by assumption)))))
  have kk6 : blk W0_5 (w1.heap.size) = some (#[.int .i64 no,.int .u64 sq,.int .i64 of,.int .i64 de,.int .i64 pr,.int .i64 bo,.int .i64 li,.int .i64 (dd.size : Int),.string dd]):=(by rw [hE_5.out];(apply jt;(focus repeat(first|(with_reducible first|assumption|apply jd|apply js)|((with_reducible apply jo);first|focus(dsimp only;assumption)|focus(simp;done)|focus(dsimp only;omega))|((with_reducible apply jn);first|with_reducible rfl|focus(simp;done)|focus(simp;omega))|(with_reducible apply ja)|((with_reducible apply jb);with_reducible assumption)));rfl))
  have kk7 : blk W0_5 (w.heap.size) = some (#[.int .i64 0,.int .u64 0,.int .i64 0,.int .i64 0,.int .i64 0,.int .i64 0,.int .i64 0,.int .i64 0,.string ⟨#[]⟩]):=(by rw [hE_5.out];(apply jt;(focus repeat(first|(with_reducible first|assumption|apply jd|apply js)|((with_reducible apply jo);first|focus(dsimp only;assumption)|focus(simp;done)|focus(dsimp only;omega))|((with_reducible apply jn);first|with_reducible rfl|focus(simp;done)|focus(simp;omega))|(with_reducible apply ja)|((with_reducible apply jb);with_reducible assumption)));rfl))
  have kk8 : blk W0_5 (w.heap.size + 1) = some (#[.int .i64 0,.int .i64 0]):=(by rw [hE_5.out];(apply jt;(focus repeat(first|(with_reducible first|assumption|apply jd|apply js)|((with_reducible apply jo);first|focus(dsimp only;assumption)|focus(simp;done)|focus(dsimp only;omega))|((with_reducible apply jn);first|with_reducible rfl|focus(simp;done)|focus(simp;omega))|(with_reducible apply ja)|((with_reducible apply jb);with_reducible assumption)));rfl))
  have kn6:=calm_kn kk6
  have kn7:=calm_kn kk7
  have kn8:=calm_kn kk8
  clear hE_5
  repeat (go_big_quiet_step ((first|(go_at_call 91;(with_reducible refine Class.same _ (gc.out _)))|(go_at_call 90;(with_reducible refine Class.go _ (gf.out _))))))
  refine wpQuiet_nil ?_
  rintro _ ⟨x_5,rfl⟩
  have hx_5 : Calm W0_5 x_5.wd:=x_5.ok
  have bw2 : Below w.heap.size w x_5.wd:=bt bW0_5 hx_5
  clear kn6;replace kk6:=blk_below hx_5 kk6;have kn6:=kn kk6
  clear kn7;replace kk7:=blk_below hx_5 kk7;have kn7:=kn kk7
  clear kn8;replace kk8:=blk_below hx_5 kk8;have kn8:=kn kk8
  clear hx_5 bW0_5 hN_5
  generalize x_5.wd = w2 at *
  have sw2:=bw2.size
  go_wp2
  refine ret_blk2 (b:=w.heap.size) (d:=w.heap.size + 1) (c:=#[.int .i64 0,.int .u64 0,.int .i64 0,.int .i64 0,.int .i64 0,.int .i64 0,.int .i64 0,.int .i64 0,.string ⟨#[]⟩]) (c':=#[.int .i64 4,.int .i64 ((n : Int) + 4)]) (v:=.tuple #[.agg #[.int .i64 0,.int .u64 0,.int .i64 0,.int .i64 0,.int .i64 0,.int .i64 0,.int .i64 0,.int .i64 0,.string ⟨#[]⟩],.agg #[.int .i64 4,.int .i64 ((n : Int) + 4)]]) (by (apply jt;(focus repeat(first|(with_reducible first|assumption|apply jd|apply js)|((with_reducible apply jo);first|focus(dsimp only;assumption)|focus(simp;done)|focus(dsimp only;omega))|((with_reducible apply jn);first|with_reducible rfl|focus(simp;done)|focus(simp;omega))|(with_reducible apply ja)|((with_reducible apply jb);with_reducible assumption)));rfl)) (by (apply jt;(focus repeat(first|(with_reducible first|assumption|apply jd|apply js)|((with_reducible apply jo);first|focus(dsimp only;assumption)|focus(simp;done)|focus(dsimp only;omega))|((with_reducible apply jn);first|with_reducible rfl|focus(simp;done)|focus(simp;omega))|(with_reducible apply ja)|((with_reducible apply jb);with_reducible assumption)));rfl)) (fun W' e1 e2 => by simp [results,Tryd.results58,go_sem,e1,e2]) rfl ⟨rfl,by (repeat(first|(with_reducible first|assumption|exact Below.refl _ _|refine je ?_|refine jl ?_)|((with_reducible refine jp ?_ ?_);first|focus(dsimp only;assumption)|focus(simp;done)|focus(dsimp only;omega))|(with_reducible refine bt ?_ (by assumption))))⟩
set_option maxRecDepth 100000 in
set_option maxHeartbeats 3200000 in
theorem rdec2_false (s : ByteArray) (hs : s.size ≤ 1000000) (no sq of de bo li to q er' fa' pr : Int) (cf : ∀ b w,blk w b = some (rdC s 0 0 0) → Calls Tryd.prog 89 #[.pointer (some ⟨b,0,none⟩)] w fun x w' => x = .returned (.tuple #[buv no sq of de pr bo li to ⟨#[]⟩,.bool false]) ∧ (∃ p,blk w' b = some (rdC s p er' fa') ∧ (er' = 0 → p = q)) ∧ Touch b w w') (hX0 : er' = 0) (dd : ByteArray) (n : Nat) (ht : getTextN s.data.toList q 1000 = (dd.data.toList,(n : Int),0)) (hq1 : 0 ≤ q) (hq2 : q ≤ s.size) (hn : n ≤ s.size) (hd : dd.size ≤ 1000000) (c1 : n + 4 ≤ s.size) (c2 : (s.data.toList.drop n).take 4 ≠ four (crcN (s.data.toList.take n))) (w : World) :
    Calls Tryd.prog 58 #[.string s] w fun e w' => e = .returned (.tuple #[.agg #[.int .i64 0,.int .u64 0,.int .i64 0,.int .i64 0,.int .i64 0,.int .i64 0,.int .i64 0,.int .i64 0,.string ⟨#[]⟩],.agg #[.int .i64 10,.int .i64 (n : Int)]]) ∧ Below w.heap.size w w':=by
  replace cf:=Lib.hid cf
  subst hX0
  have ct:=fun w => refGetText_any s q 1000 w (by unfold maxLen;omega) (by omega) (by omega) (by omega)
  rw [ht] at ct
  have ct : ∀ w,Calls Tryd.prog 57 #[.string s,.int .i64 q,.int .i64 1000] w fun e w' => e = .returned (.tuple #[.string dd,.int .i64 (n : Int),.int .i64 0]) ∧ w = w':=ct
  replace ct:=Lib.hid ct;clear ht
  have k1 : (n : Int) + 4 ≤ (s.size : Int):=by omega
  have x1 : (s.extract 0 n).size = n:=by simp;omega
  have x2 : (s.extract 0 n).data.toList = s.data.toList.take n:=by simp
  have gc:=fun w => refCrc32_any (s.extract 0 n) (by omega) w
  have gf:=fun w => refFour_any (crcN (s.extract 0 n).data.toList) (crcN_lt _) w
  obtain ⟨t2,ht2⟩ : ∃ t,s.extract n (n + 4) = t:=⟨_,rfl⟩
  have h1 : t2.data.toList = (s.data.toList.drop n).take 4:=by rw [← ht2,Lib.extract_data,show n + 4 - n = 4 by omega]
  obtain ⟨t3,ht3⟩ : ∃ t : ByteArray,t.data.toList = four (crcN (s.extract 0 n).data.toList):=⟨⟨(four (crcN (s.extract 0 n).data.toList)).toArray⟩,rfl⟩
  have e3 : bstr (four (crcN (s.extract 0 n).data.toList)) = .string t3:=(vstr ht3).symm
  have hne : t2.data.toList ≠ t3.data.toList:=by rw [ht3,h1,x2];exact c2
  have hne2 : t2.toList ≠ t3.toList:=by rw [ByteArray.toList_eq,ByteArray.toList_eq];exact hne
  have hne0 : t2 ≠ t3:=fun h => hne (by rw [h])
  have m1 : (t2.toList == t3.toList) = false:=by simp [hne2]
  have m2 : (t2.toList != t3.toList) = true:=by simp [hne2]
  clear hne hne2 ht3
  rw [e3] at gf
  obtain ⟨c,hc⟩ : ∃ c,crcN (s.extract 0 n).data.toList = c:=⟨_,rfl⟩
  rw [hc] at gc gf
  replace gc:=Lib.hid gc;replace gf:=Lib.hid gf
  clear hc e3 h1 c2 x2
  have HC1:=Lib.hid c1;clear c1
  go_enter Tryd.func58,Tryd.ntmps58
  go_wp2_with fail
  (with_reducible refine (cf.out _ _ ?_).mono ?_)
  · exact blk_alloc_new _ _ _ (by simp)
  rintro e w1 ⟨rfl,⟨p,k1_,kp⟩,t1⟩
  obtain rfl:=kp (by trivial)
  have x1_ : blk w1 w.heap.size = some (#[.int .i64 0,.int .u64 0,.int .i64 0,.int .i64 0,.int .i64 0,.int .i64 0,.int .i64 0,.int .i64 0,.string ⟨#[]⟩]):=t1.2.1 _ _ (by omega) (by (apply jt;(focus repeat(first|(with_reducible first|assumption|apply js)|((with_reducible apply jo);first|focus(dsimp only;assumption)|focus(simp;done)|focus(dsimp only;omega))|((with_reducible apply jn);first|with_reducible rfl|focus(simp;done)|focus(simp;omega))|(with_reducible apply ja)|((with_reducible apply jb);with_reducible assumption)));rfl))
  have y1_ : blk w1 (w.heap.size + 1) = some #[.int .i64 0,.int .i64 0]:=t1.2.1 _ _ (by omega) (by (apply jt;(focus repeat(first|(with_reducible first|assumption|apply js)|((with_reducible apply jo);first|focus(dsimp only;assumption)|focus(simp;done)|focus(dsimp only;omega))|((with_reducible apply jn);first|with_reducible rfl|focus(simp;done)|focus(simp;omega))|(with_reducible apply ja)|((with_reducible apply jb);with_reducible assumption)));rfl))
  have B1 : Below w.heap.size w w1:=((((Below.refl w.heap.size w).alloc (Nat.le_refl _) _).alloc (by simp) _).alloc (by simp;omega) _).trans (t1.1.mono (by omega))
  clear t1
  have kn1:=kn k1_;have knx:=kn x1_;have kny:=kn y1_
  go_wp2_with (go_at_call 57;(with_reducible refine (ct.out _).mono ?_);rintro e wx ⟨rfl,rfl⟩)
  refine wp_region_in (by kernel_rfl) (by kernel_rfl) ?_
  intro W0_9 hE_9 hN_9
  have bW0_9 : Below w.heap.size w W0_9:=(by rw [hE_9.out];(repeat(first|(with_reducible first|assumption|exact Below.refl _ _|refine je ?_|refine jl ?_)|((with_reducible refine jp ?_ ?_);first|focus(dsimp only;assumption)|focus(simp;done)|focus(dsimp only;omega))|(with_reducible refine bt ?_ (by assumption)))))
  have kk10 : blk W0_9 (w1.heap.size) = some (#[.int .i64 no,.int .u64 sq,.int .i64 of,.int .i64 de,.int .i64 pr,.int .i64 bo,.int .i64 li,.int .i64 to,.string dd]):=(by rw [hE_9.out];(apply jt;(focus repeat(first|(with_reducible first|assumption|apply jd|apply js)|((with_reducible apply jo);first|focus(dsimp only;assumption)|focus(simp;done)|focus(dsimp only;omega))|((with_reducible apply jn);first|with_reducible rfl|focus(simp;done)|focus(simp;omega))|(with_reducible apply ja)|((with_reducible apply jb);with_reducible assumption)));rfl))
  have kk11 : blk W0_9 (w.heap.size) = some (#[.int .i64 0,.int .u64 0,.int .i64 0,.int .i64 0,.int .i64 0,.int .i64 0,.int .i64 0,.int .i64 0,.string ⟨#[]⟩]):=(by rw [hE_9.out];(apply jt;(focus repeat(first|(with_reducible first|assumption|apply jd|apply js)|((with_reducible apply jo);first|focus(dsimp only;assumption)|focus(simp;done)|focus(dsimp only;omega))|((with_reducible apply jn);first|with_reducible rfl|focus(simp;done)|focus(simp;omega))|(with_reducible apply ja)|((with_reducible apply jb);with_reducible assumption)));rfl))
  have kk12 : blk W0_9 (w.heap.size + 1) = some (#[.int .i64 0,.int .i64 0]):=(by rw [hE_9.out];(apply jt;(focus repeat(first|(with_reducible first|assumption|apply jd|apply js)|((with_reducible apply jo);first|focus(dsimp only;assumption)|focus(simp;done)|focus(dsimp only;omega))|((with_reducible apply jn);first|with_reducible rfl|focus(simp;done)|focus(simp;omega))|(with_reducible apply ja)|((with_reducible apply jb);with_reducible assumption)));rfl))
  have kn10:=calm_kn kk10
  have kn11:=calm_kn kk11
  have kn12:=calm_kn kk12
  clear hE_9
  repeat (go_big_quiet_step ((first|(go_at_call 91;(with_reducible refine Class.same _ (gc.out _)))|(go_at_call 90;(with_reducible refine Class.go _ (gf.out _))))))
  refine wpQuiet_nil ?_
  rintro _ ⟨x_9,rfl⟩
  have hx_9 : Calm W0_9 x_9.wd:=x_9.ok
  have bw2 : Below w.heap.size w x_9.wd:=bt bW0_9 hx_9
  clear kn10;replace kk10:=blk_below hx_9 kk10;have kn10:=kn kk10
  clear kn11;replace kk11:=blk_below hx_9 kk11;have kn11:=kn kk11
  clear kn12;replace kk12:=blk_below hx_9 kk12;have kn12:=kn kk12
  clear hx_9 bW0_9 hN_9
  generalize x_9.wd = w2 at *
  have sw2:=bw2.size
  go_wp2
  refine ret_blk2 (b:=w.heap.size) (d:=w.heap.size + 1) (c:=#[.int .i64 0,.int .u64 0,.int .i64 0,.int .i64 0,.int .i64 0,.int .i64 0,.int .i64 0,.int .i64 0,.string ⟨#[]⟩]) (c':=#[.int .i64 10,.int .i64 (n : Int)]) (v:=.tuple #[.agg #[.int .i64 0,.int .u64 0,.int .i64 0,.int .i64 0,.int .i64 0,.int .i64 0,.int .i64 0,.int .i64 0,.string ⟨#[]⟩],.agg #[.int .i64 10,.int .i64 (n : Int)]]) (by (apply jt;(focus repeat(first|(with_reducible first|assumption|apply jd|apply js)|((with_reducible apply jo);first|focus(dsimp only;assumption)|focus(simp;done)|focus(dsimp only;omega))|((with_reducible apply jn);first|with_reducible rfl|focus(simp;done)|focus(simp;omega))|(with_reducible apply ja)|((with_reducible apply jb);with_reducible assumption)));rfl)) (by (apply jt;(focus repeat(first|(with_reducible first|assumption|apply jd|apply js)|((with_reducible apply jo);first|focus(dsimp only;assumption)|focus(simp;done)|focus(dsimp only;omega))|((with_reducible apply jn);first|with_reducible rfl|focus(simp;done)|focus(simp;omega))|(with_reducible apply ja)|((with_reducible apply jb);with_reducible assumption)));rfl)) (fun W' e1 e2 => by simp [results,Tryd.results58,go_sem,e1,e2]) rfl ⟨rfl,by (repeat(first|(with_reducible first|assumption|exact Below.refl _ _|refine je ?_|refine jl ?_)|((with_reducible refine jp ?_ ?_);first|focus(dsimp only;assumption)|focus(simp;done)|focus(dsimp only;omega))|(with_reducible refine bt ?_ (by assumption))))⟩
set_option maxRecDepth 100000 in
set_option maxHeartbeats 3200000 in
theorem rdec3_false (s : ByteArray) (hs : s.size ≤ 1000000) (no sq of de bo li to q er' fa' pr : Int) (cf : ∀ b w,blk w b = some (rdC s 0 0 0) → Calls Tryd.prog 89 #[.pointer (some ⟨b,0,none⟩)] w fun x w' => x = .returned (.tuple #[buv no sq of de pr bo li to ⟨#[]⟩,.bool false]) ∧ (∃ p,blk w' b = some (rdC s p er' fa') ∧ (er' = 0 → p = q)) ∧ Touch b w w') (hX0 : er' = 0) (dd : ByteArray) (n : Nat) (ht : getTextN s.data.toList q 1000 = (dd.data.toList,(n : Int),0)) (hq1 : 0 ≤ q) (hq2 : q ≤ s.size) (hn : n ≤ s.size) (hd : dd.size ≤ 1000000) (c1 : n + 4 ≤ s.size) (c2 : (s.data.toList.drop n).take 4 = four (crcN (s.data.toList.take n))) (c3 : n + 4 < s.size) (w : World) :
    Calls Tryd.prog 58 #[.string s] w fun e w' => e = .returned (.tuple #[.agg #[.int .i64 0,.int .u64 0,.int .i64 0,.int .i64 0,.int .i64 0,.int .i64 0,.int .i64 0,.int .i64 0,.string ⟨#[]⟩],.agg #[.int .i64 4,.int .i64 ((n : Int) + 4)]]) ∧ Below w.heap.size w w':=by
  replace cf:=Lib.hid cf
  subst hX0
  have ct:=fun w => refGetText_any s q 1000 w (by unfold maxLen;omega) (by omega) (by omega) (by omega)
  rw [ht] at ct
  have ct : ∀ w,Calls Tryd.prog 57 #[.string s,.int .i64 q,.int .i64 1000] w fun e w' => e = .returned (.tuple #[.string dd,.int .i64 (n : Int),.int .i64 0]) ∧ w = w':=ct
  replace ct:=Lib.hid ct;clear ht
  have k1 : (n : Int) + 4 ≤ (s.size : Int):=by omega
  have x1 : (s.extract 0 n).size = n:=by simp;omega
  have x2 : (s.extract 0 n).data.toList = s.data.toList.take n:=by simp
  have gc:=fun w => refCrc32_any (s.extract 0 n) (by omega) w
  have gf:=fun w => refFour_any (crcN (s.extract 0 n).data.toList) (crcN_lt _) w
  obtain ⟨t2,ht2⟩ : ∃ t,s.extract n (n + 4) = t:=⟨_,rfl⟩
  have h1 : t2.data.toList = (s.data.toList.drop n).take 4:=by rw [← ht2,Lib.extract_data,show n + 4 - n = 4 by omega]
  have e3 : bstr (four (crcN (s.extract 0 n).data.toList)) = .string t2:=by rw [x2];exact (vstr (by rw [h1];exact c2)).symm
  rw [e3] at gf
  obtain ⟨c,hc⟩ : ∃ c,crcN (s.extract 0 n).data.toList = c:=⟨_,rfl⟩
  rw [hc] at gc gf
  replace gc:=Lib.hid gc;replace gf:=Lib.hid gf
  clear hc e3 h1 c2 x2
  have k3 : (n : Int) + 4 < (s.size : Int):=by omega
  have HC1:=Lib.hid c1;clear c1
  go_enter Tryd.func58,Tryd.ntmps58
  go_wp2_with fail
  (with_reducible refine (cf.out _ _ ?_).mono ?_)
  · exact blk_alloc_new _ _ _ (by simp)
  rintro e w1 ⟨rfl,⟨p,k1_,kp⟩,t1⟩
  obtain rfl:=kp (by trivial)
  have x1_ : blk w1 w.heap.size = some (#[.int .i64 0,.int .u64 0,.int .i64 0,.int .i64 0,.int .i64 0,.int .i64 0,.int .i64 0,.int .i64 0,.string ⟨#[]⟩]):=t1.2.1 _ _ (by omega) (by (apply jt;(focus repeat(first|(with_reducible first|assumption|apply js)|((with_reducible apply jo);first|focus(dsimp only;assumption)|focus(simp;done)|focus(dsimp only;omega))|((with_reducible apply jn);first|with_reducible rfl|focus(simp;done)|focus(simp;omega))|(with_reducible apply ja)|((with_reducible apply jb);with_reducible assumption)));rfl))
  have y1_ : blk w1 (w.heap.size + 1) = some #[.int .i64 0,.int .i64 0]:=t1.2.1 _ _ (by omega) (by (apply jt;(focus repeat(first|(with_reducible first|assumption|apply js)|((with_reducible apply jo);first|focus(dsimp only;assumption)|focus(simp;done)|focus(dsimp only;omega))|((with_reducible apply jn);first|with_reducible rfl|focus(simp;done)|focus(simp;omega))|(with_reducible apply ja)|((with_reducible apply jb);with_reducible assumption)));rfl))
  have B1 : Below w.heap.size w w1:=((((Below.refl w.heap.size w).alloc (Nat.le_refl _) _).alloc (by simp) _).alloc (by simp;omega) _).trans (t1.1.mono (by omega))
  clear t1
  have kn1:=kn k1_;have knx:=kn x1_;have kny:=kn y1_
  go_wp2_with (go_at_call 57;(with_reducible refine (ct.out _).mono ?_);rintro e wx ⟨rfl,rfl⟩)
  refine wp_region_in (by kernel_rfl) (by kernel_rfl) ?_
  intro W0_13 hE_13 hN_13
  have bW0_13 : Below w.heap.size w W0_13:=(by rw [hE_13.out];(repeat(first|(with_reducible first|assumption|exact Below.refl _ _|refine je ?_|refine jl ?_)|((with_reducible refine jp ?_ ?_);first|focus(dsimp only;assumption)|focus(simp;done)|focus(dsimp only;omega))|(with_reducible refine bt ?_ (by assumption)))))
  have kk14 : blk W0_13 (w1.heap.size) = some (#[.int .i64 no,.int .u64 sq,.int .i64 of,.int .i64 de,.int .i64 pr,.int .i64 bo,.int .i64 li,.int .i64 to,.string dd]):=(by rw [hE_13.out];(apply jt;(focus repeat(first|(with_reducible first|assumption|apply jd|apply js)|((with_reducible apply jo);first|focus(dsimp only;assumption)|focus(simp;done)|focus(dsimp only;omega))|((with_reducible apply jn);first|with_reducible rfl|focus(simp;done)|focus(simp;omega))|(with_reducible apply ja)|((with_reducible apply jb);with_reducible assumption)));rfl))
  have kk15 : blk W0_13 (w.heap.size) = some (#[.int .i64 0,.int .u64 0,.int .i64 0,.int .i64 0,.int .i64 0,.int .i64 0,.int .i64 0,.int .i64 0,.string ⟨#[]⟩]):=(by rw [hE_13.out];(apply jt;(focus repeat(first|(with_reducible first|assumption|apply jd|apply js)|((with_reducible apply jo);first|focus(dsimp only;assumption)|focus(simp;done)|focus(dsimp only;omega))|((with_reducible apply jn);first|with_reducible rfl|focus(simp;done)|focus(simp;omega))|(with_reducible apply ja)|((with_reducible apply jb);with_reducible assumption)));rfl))
  have kk16 : blk W0_13 (w.heap.size + 1) = some (#[.int .i64 0,.int .i64 0]):=(by rw [hE_13.out];(apply jt;(focus repeat(first|(with_reducible first|assumption|apply jd|apply js)|((with_reducible apply jo);first|focus(dsimp only;assumption)|focus(simp;done)|focus(dsimp only;omega))|((with_reducible apply jn);first|with_reducible rfl|focus(simp;done)|focus(simp;omega))|(with_reducible apply ja)|((with_reducible apply jb);with_reducible assumption)));rfl))
  have kn14:=calm_kn kk14
  have kn15:=calm_kn kk15
  have kn16:=calm_kn kk16
  clear hE_13
  repeat (go_big_quiet_step ((first|(go_at_call 91;(with_reducible refine Class.same _ (gc.out _)))|(go_at_call 90;(with_reducible refine Class.go _ (gf.out _))))))
  refine wpQuiet_nil ?_
  rintro _ ⟨x_13,rfl⟩
  have hx_13 : Calm W0_13 x_13.wd:=x_13.ok
  have bw2 : Below w.heap.size w x_13.wd:=bt bW0_13 hx_13
  clear kn14;replace kk14:=blk_below hx_13 kk14;have kn14:=kn kk14
  clear kn15;replace kk15:=blk_below hx_13 kk15;have kn15:=kn kk15
  clear kn16;replace kk16:=blk_below hx_13 kk16;have kn16:=kn kk16
  clear hx_13 bW0_13 hN_13
  generalize x_13.wd = w2 at *
  have sw2:=bw2.size
  go_wp2
  refine ret_blk2 (b:=w.heap.size) (d:=w.heap.size + 1) (c:=#[.int .i64 0,.int .u64 0,.int .i64 0,.int .i64 0,.int .i64 0,.int .i64 0,.int .i64 0,.int .i64 0,.string ⟨#[]⟩]) (c':=#[.int .i64 4,.int .i64 ((n : Int) + 4)]) (v:=.tuple #[.agg #[.int .i64 0,.int .u64 0,.int .i64 0,.int .i64 0,.int .i64 0,.int .i64 0,.int .i64 0,.int .i64 0,.string ⟨#[]⟩],.agg #[.int .i64 4,.int .i64 ((n : Int) + 4)]]) (by (apply jt;(focus repeat(first|(with_reducible first|assumption|apply jd|apply js)|((with_reducible apply jo);first|focus(dsimp only;assumption)|focus(simp;done)|focus(dsimp only;omega))|((with_reducible apply jn);first|with_reducible rfl|focus(simp;done)|focus(simp;omega))|(with_reducible apply ja)|((with_reducible apply jb);with_reducible assumption)));rfl)) (by (apply jt;(focus repeat(first|(with_reducible first|assumption|apply jd|apply js)|((with_reducible apply jo);first|focus(dsimp only;assumption)|focus(simp;done)|focus(dsimp only;omega))|((with_reducible apply jn);first|with_reducible rfl|focus(simp;done)|focus(simp;omega))|(with_reducible apply ja)|((with_reducible apply jb);with_reducible assumption)));rfl)) (fun W' e1 e2 => by simp [results,Tryd.results58,go_sem,e1,e2]) rfl ⟨rfl,by (repeat(first|(with_reducible first|assumption|exact Below.refl _ _|refine je ?_|refine jl ?_)|((with_reducible refine jp ?_ ?_);first|focus(dsimp only;assumption)|focus(simp;done)|focus(dsimp only;omega))|(with_reducible refine bt ?_ (by assumption))))⟩
end Go.Proofs.YtaiofjffoboicaaDoor
