/- Parts of a proof, printed by a program of mine out of my texts: FwApart. -/
import Derived.Great.Walk
import Derived.OpenShut
import Derived.Deep.Cut
import Derived.Test.YtaiofjffoboicaaDoorCFrAwake
import Derived.Test.YtaiofjffoboicaaDoorCFwKit
import Derived.Test.YtaiofjffoboicaaDoorCFx
import Derived.Test.YtaiofjffoboicaaDoorCFxText
import Derived.Test.YtaiofjffoboicaaDoorCMad
import Derived.Test.YtaiofjffoboicaaDoorCWk
import Derived.Test.YtaiofjffoboicaaDoorCX9
set_option linter.unusedSimpArgs false
set_option linter.unusedVariables false
namespace Go.Proofs.YtaiofjffoboicaaDoor
open Go.RowKit
set_option maxRecDepth 100000 in
set_option maxHeartbeats 3200000 in
theorem frameApart_at (m n off : Int) (w : World) (hH : HTab w) (hT : STab w) (hP : Tab w) (hB : STabA w) :
    Calls Tryd.prog 8 #[.int .i64 m,.int .i64 n,.int .i64 off] w fun e w' => e = .returned (.bool true) ∧ Below w.heap.size w w':=by
  have HH:=Lib.hid hH;have HT:=Lib.hid hT;have HP:=Lib.hid hP;have HB:=Lib.hid hB;clear hH hT hP hB
  have ga:=Lib.hid awake_any
  go_enter Tryd.func8,Tryd.ntmps8
  go_upto_region 1 with fail
  refine wp_region_lit ?_
  refine Go.Great.wpList_readTo rfl (some 19) rfl (.int .i64 m) rfl ?_
  conv => arg 5;simp [Act.put]
  refine wpList_callR rfl (some 20) rfl 14 #[.int .i64 m] (by kernel_rfl) (fun v w' => ∃ F,frC F = 0 ∧ NN F ∧ v = frv F ∧ Below w.heap.size w w') ((made_any m w).mono ?_) ?_
  · rintro e w' ⟨F,h1,h2,rfl,h3⟩
    exact ⟨_,rfl,F,h1,h2,rfl,h3⟩
  rintro v w1 ⟨F,okF,nF,rfl,b1⟩
  conv => arg 5;simp [Act.put]
  refine Go.Great.wpList_readTo rfl (some 21) rfl (.int .i64 n) rfl ?_
  conv => arg 5;simp [Act.put]
  refine wpList_callR rfl (some 22) rfl 14 #[.int .i64 n] (by kernel_rfl) (fun v w' => ∃ F,frC F = 0 ∧ NN F ∧ v = frv F ∧ Below w1.heap.size w1 w') ((made_any n w1).mono ?_) ?_
  · rintro e w' ⟨F,h1,h2,rfl,h3⟩
    exact ⟨_,rfl,F,h1,h2,rfl,h3⟩
  rintro v w2 ⟨G,okG,nG,rfl,b2'⟩
  conv => arg 5;simp [Act.put]
  have b2 : Below w.heap.size w w2:=bt b1 b2'
  clear b1 b2'
  obtain ⟨S,hS⟩ : ∃ S,joinB (partsF F) = S:=⟨_,rfl⟩
  obtain ⟨T,hT'⟩ : ∃ T,joinB (partsF G) = T:=⟨_,rfl⟩
  have gF : ∀ W,Tab W → STabA W → Calls Tryd.prog 20 #[.agg #[.int .i64 F.k,.int .i64 F.fr,.int .i64 F.to_,.int .u64 F.mi,.int .u64 F.yo,.int .u64 F.a,.int .u64 F.b,.int .i64 F.ino,.int .u64 F.isq,.int .i64 F.iof,.int .i64 F.bno,.int .u64 F.bsq,.int .i64 F.bof,.int .i64 F.bde,.int .i64 F.bpr,.int .i64 F.bbo,.int .i64 F.bli,.int .i64 F.bto,.string F.da]] W fun e w' => e = .returned (.tuple #[.string S,.int .i64 0]) ∧ Below W.heap.size W w':=fun W h1 h2 => by
    have:=text_ok F okF nF W h1 h2
    rw [hS] at this
    exact this
  have gG : ∀ W,Tab W → STabA W → Calls Tryd.prog 20 #[.agg #[.int .i64 G.k,.int .i64 G.fr,.int .i64 G.to_,.int .u64 G.mi,.int .u64 G.yo,.int .u64 G.a,.int .u64 G.b,.int .i64 G.ino,.int .u64 G.isq,.int .i64 G.iof,.int .i64 G.bno,.int .u64 G.bsq,.int .i64 G.bof,.int .i64 G.bde,.int .i64 G.bpr,.int .i64 G.bbo,.int .i64 G.bli,.int .i64 G.bto,.string G.da]] W fun e w' => e = .returned (.tuple #[.string T,.int .i64 0]) ∧ Below W.heap.size W w':=fun W h1 h2 => by
    have:=text_ok G okG nG W h1 h2
    rw [hT'] at this
    exact this
  have hlaw : F ≠ G → S = T → F.k = 3 ∧ G.k = 3 ∧ F.bno = G.bno ∧ F.bsq = G.bsq ∧ F.bof = G.bof ∧ ¬ (F.bde = G.bde ∧ F.bpr = G.bpr ∧ F.bbo = G.bbo ∧ F.bli = G.bli ∧ F.bto = G.bto ∧ F.da = G.da):=fun h1 h2 => text_apart okF okG nF nG h1 (by rw [hS,hT',h2])
  have E : ∀ w,Sem.run Tryd.prog (binOp BinOp.neq 29 (.agg #[.int .i64 F.k,.int .i64 F.fr,.int .i64 F.to_,.int .u64 F.mi,.int .u64 F.yo,.int .u64 F.a,.int .u64 F.b,.int .i64 F.ino,.int .u64 F.isq,.int .i64 F.iof,.int .i64 F.bno,.int .u64 F.bsq,.int .i64 F.bof,.int .i64 F.bde,.int .i64 F.bpr,.int .i64 F.bbo,.int .i64 F.bli,.int .i64 F.bto,.string F.da]) (.agg #[.int .i64 G.k,.int .i64 G.fr,.int .i64 G.to_,.int .u64 G.mi,.int .u64 G.yo,.int .u64 G.a,.int .u64 G.b,.int .i64 G.ino,.int .u64 G.isq,.int .i64 G.iof,.int .i64 G.bno,.int .u64 G.bsq,.int .i64 G.bof,.int .i64 G.bde,.int .i64 G.bpr,.int .i64 G.bbo,.int .i64 G.bli,.int .i64 G.bto,.string G.da])) w = .ok (.bool (!frEq F G)) w:=fun w => run_frNe F G w
  replace gF:=Lib.hid gF;replace gG:=Lib.hid gG
  replace hlaw:=Lib.hid hlaw
  clear hS hT' okF okG nF nG
  refine Go.Great.wpList_allocTo rfl (some 7) rfl (.pointer (some ⟨w2.heap.size,0,none⟩)) (.cells #[.int .i64 0,.int .i64 0,.int .i64 0,.int .u64 0,.int .u64 0,.int .u64 0,.int .u64 0,.int .i64 0,.int .u64 0,.int .i64 0,.int .i64 0,.int .u64 0,.int .i64 0,.int .i64 0,.int .i64 0,.int .i64 0,.int .i64 0,.int .i64 0,.string ⟨#[]⟩] 29) (by kernel_rfl) ?_
  conv => arg 5;simp [Act.put]
  obtain ⟨w3,hw3⟩ : ∃ y,y = w2.alloc (.cells #[.int .i64 0,.int .i64 0,.int .i64 0,.int .u64 0,.int .u64 0,.int .u64 0,.int .u64 0,.int .i64 0,.int .u64 0,.int .i64 0,.int .i64 0,.int .u64 0,.int .i64 0,.int .i64 0,.int .i64 0,.int .i64 0,.int .i64 0,.int .i64 0,.string ⟨#[]⟩] 29):=⟨_,rfl⟩
  have k3 : blk w3 w2.heap.size = some #[.int .i64 0,.int .i64 0,.int .i64 0,.int .u64 0,.int .u64 0,.int .u64 0,.int .u64 0,.int .i64 0,.int .u64 0,.int .i64 0,.int .i64 0,.int .u64 0,.int .i64 0,.int .i64 0,.int .i64 0,.int .i64 0,.int .i64 0,.int .i64 0,.string ⟨#[]⟩]:=(by rw [hw3];exact blk_alloc_new _ _ _ rfl)
  have b3 : Below w.heap.size w w3:=(by rw [hw3];exact b2.alloc b2.size _)
  have sz2:=b2.size
  rw [← hw3]
  clear hw3 b2
  have l3:=blk_lt k3
  refine Go.Great.wpList_allocTo rfl (some 8) rfl (.pointer (some ⟨w3.heap.size,0,none⟩)) (.cells #[.int .i64 0,.int .i64 0,.int .i64 0,.int .u64 0,.int .u64 0,.int .u64 0,.int .u64 0,.int .i64 0,.int .u64 0,.int .i64 0,.int .i64 0,.int .u64 0,.int .i64 0,.int .i64 0,.int .i64 0,.int .i64 0,.int .i64 0,.int .i64 0,.string ⟨#[]⟩] 29) (by kernel_rfl) ?_
  conv => arg 5;simp [Act.put]
  refine wpList_store_blk 29 (.tmp 7) (.tmp 20) w2.heap.size #[.int .i64 0,.int .i64 0,.int .i64 0,.int .u64 0,.int .u64 0,.int .u64 0,.int .u64 0,.int .i64 0,.int .u64 0,.int .i64 0,.int .i64 0,.int .u64 0,.int .i64 0,.int .i64 0,.int .i64 0,.int .i64 0,.int .i64 0,.int .i64 0,.string ⟨#[]⟩] #[.int .i64 F.k,.int .i64 F.fr,.int .i64 F.to_,.int .u64 F.mi,.int .u64 F.yo,.int .u64 F.a,.int .u64 F.b,.int .i64 F.ino,.int .u64 F.isq,.int .i64 F.iof,.int .i64 F.bno,.int .u64 F.bsq,.int .i64 F.bof,.int .i64 F.bde,.int .i64 F.bpr,.int .i64 F.bbo,.int .i64 F.bli,.int .i64 F.bto,.string F.da] (blk_alloc k3 _) rfl rfl rfl rfl (by kernel_rfl) rfl (by kernel_rfl) ?_
  intro w4 kF o4 B4 s4
  conv => arg 5;simp [Act.put]
  have kG0:=o4 w3.heap.size #[.int .i64 0,.int .i64 0,.int .i64 0,.int .u64 0,.int .u64 0,.int .u64 0,.int .u64 0,.int .i64 0,.int .u64 0,.int .i64 0,.int .i64 0,.int .u64 0,.int .i64 0,.int .i64 0,.int .i64 0,.int .i64 0,.int .i64 0,.int .i64 0,.string ⟨#[]⟩] (by omega) (blk_alloc_new _ _ _ rfl)
  have b4 : Below w.heap.size w w4:=B4 _ _ sz2 (b3.alloc b3.size _)
  clear o4 B4 s4 b3 k3
  refine wpList_store_blk 29 (.tmp 8) (.tmp 22) w3.heap.size #[.int .i64 0,.int .i64 0,.int .i64 0,.int .u64 0,.int .u64 0,.int .u64 0,.int .u64 0,.int .i64 0,.int .u64 0,.int .i64 0,.int .i64 0,.int .u64 0,.int .i64 0,.int .i64 0,.int .i64 0,.int .i64 0,.int .i64 0,.int .i64 0,.string ⟨#[]⟩] #[.int .i64 G.k,.int .i64 G.fr,.int .i64 G.to_,.int .u64 G.mi,.int .u64 G.yo,.int .u64 G.a,.int .u64 G.b,.int .i64 G.ino,.int .u64 G.isq,.int .i64 G.iof,.int .i64 G.bno,.int .u64 G.bsq,.int .i64 G.bof,.int .i64 G.bde,.int .i64 G.bpr,.int .i64 G.bbo,.int .i64 G.bli,.int .i64 G.bto,.string G.da] kG0 rfl rfl rfl rfl (by kernel_rfl) rfl (by kernel_rfl) ?_
  intro w5 kG o5 B5 s5
  conv => arg 5;simp [Act.put]
  replace kF:=o5 w2.heap.size #[.int .i64 F.k,.int .i64 F.fr,.int .i64 F.to_,.int .u64 F.mi,.int .u64 F.yo,.int .u64 F.a,.int .u64 F.b,.int .i64 F.ino,.int .u64 F.isq,.int .i64 F.iof,.int .i64 F.bno,.int .u64 F.bsq,.int .i64 F.bof,.int .i64 F.bde,.int .i64 F.bpr,.int .i64 F.bbo,.int .i64 F.bli,.int .i64 F.bto,.string F.da] (by omega) kF
  have b5 : Below w.heap.size w w5:=B5 _ _ (by omega) b4
  clear o5 B5 s5 b4 kG0
  go_upto_region 2 with fail
  refine wp_region_lit ?_
  refine wpList_load_blk 29 (.tmp 7) w2.heap.size #[.int .i64 F.k,.int .i64 F.fr,.int .i64 F.to_,.int .u64 F.mi,.int .u64 F.yo,.int .u64 F.a,.int .u64 F.b,.int .i64 F.ino,.int .u64 F.isq,.int .i64 F.iof,.int .i64 F.bno,.int .u64 F.bsq,.int .i64 F.bof,.int .i64 F.bde,.int .i64 F.bpr,.int .i64 F.bbo,.int .i64 F.bli,.int .i64 F.bto,.string F.da] kF _ rfl rfl rfl Tryd.underlying29 rfl (by kernel_rfl) ?_
  conv => arg 5;simp [Act.put]
  go_wp2_with fail
  (with_reducible refine (gF.out _ (HP.out.on b5) (HB.out.on b5)).mono ?_)
  rintro e w6 ⟨rfl,h6⟩
  replace kF:=blk_below h6 kF
  replace kG:=blk_below h6 kG
  have b6 : Below w.heap.size w w6:=bt b5 h6
  clear h6 b5 gF
  go_upto_region 3 with fail
  refine wp_region_lit ?_
  refine wpList_load_blk 29 (.tmp 8) w3.heap.size #[.int .i64 G.k,.int .i64 G.fr,.int .i64 G.to_,.int .u64 G.mi,.int .u64 G.yo,.int .u64 G.a,.int .u64 G.b,.int .i64 G.ino,.int .u64 G.isq,.int .i64 G.iof,.int .i64 G.bno,.int .u64 G.bsq,.int .i64 G.bof,.int .i64 G.bde,.int .i64 G.bpr,.int .i64 G.bbo,.int .i64 G.bli,.int .i64 G.bto,.string G.da] kG _ rfl rfl rfl Tryd.underlying29 rfl (by kernel_rfl) ?_
  conv => arg 5;simp [Act.put]
  go_wp2_with fail
  (with_reducible refine (gG.out _ (HP.out.on b6) (HB.out.on b6)).mono ?_)
  rintro e w7 ⟨rfl,h7⟩
  replace kF:=blk_below h7 kF
  replace kG:=blk_below h7 kG
  have b7 : Below w.heap.size w w7:=bt b6 h7
  clear h7 b6 gG
  have nF:=kn kF
  have nG:=kn kG
  go_upto_region 6 with fail
  go_cut [72] from 13 (fun s72 wq => s72 = .bool false ∧ wq = w7)
  case first =>
    refine wp_region_lit ?_
    refine wpList_load_blk 29 (.tmp 7) w2.heap.size #[.int .i64 F.k,.int .i64 F.fr,.int .i64 F.to_,.int .u64 F.mi,.int .u64 F.yo,.int .u64 F.a,.int .u64 F.b,.int .i64 F.ino,.int .u64 F.isq,.int .i64 F.iof,.int .i64 F.bno,.int .u64 F.bsq,.int .i64 F.bof,.int .i64 F.bde,.int .i64 F.bpr,.int .i64 F.bbo,.int .i64 F.bli,.int .i64 F.bto,.string F.da] kF _ rfl rfl rfl Tryd.underlying29 rfl (by kernel_rfl) ?_
    conv => arg 5;simp [Act.put]
    refine wpList_load_blk 29 (.tmp 8) w3.heap.size #[.int .i64 G.k,.int .i64 G.fr,.int .i64 G.to_,.int .u64 G.mi,.int .u64 G.yo,.int .u64 G.a,.int .u64 G.b,.int .i64 G.ino,.int .u64 G.isq,.int .i64 G.iof,.int .i64 G.bno,.int .u64 G.bsq,.int .i64 G.bof,.int .i64 G.bde,.int .i64 G.bpr,.int .i64 G.bbo,.int .i64 G.bli,.int .i64 G.bto,.string G.da] kG _ rfl rfl rfl Tryd.underlying29 rfl (by kernel_rfl) ?_
    conv => arg 5;simp [Act.put]
    clear kF kG
    obtain ⟨fe,hfe⟩ : ∃ b,frEq F G = b:=⟨_,rfl⟩
    rw [hfe] at E
    cases fe
    · by_cases hst : S = T
      · obtain ⟨q1,q2,q3,q4,q5,q6⟩:=hlaw.out (fun e => by rw [(frEq_iff F G).2 e] at hfe;exact absurd hfe (by decide)) hst
        have t1 : (F.k != 3) = false:=(by simp [q1])
        have t2 : (G.k != 3) = false:=(by simp [q2])
        subst hst
        replace q3:=Lib.hid q3;replace q4:=Lib.hid q4;replace q5:=Lib.hid q5;replace q6:=Lib.hid q6
        clear q1 q2
        go_wp2
        all_goals (go_meet;case rel => first|exact ⟨rfl,rfl⟩|(exact absurd q3.out (by assumption))|(exact absurd q4.out (by assumption))|(exact absurd q5.out (by assumption))|(exact absurd ⟨by assumption,by assumption,by assumption,by assumption,by assumption,by first|assumption|exact (toList_iff _ _).1 (by assumption)⟩ q6.out))
      · have e1 : (S.toList == T.toList) = false:=(by simp only [beq_eq_false_iff_ne,ne_eq,toList_iff];exact hst)
        go_wp2
        go_meet
        case rel => exact ⟨rfl,rfl⟩
    · go_wp2
      go_meet
      case rel => exact ⟨rfl,rfl⟩
  case rest =>
  obtain ⟨rfl,rfl⟩:=hcut
  clear nF nG kF kG E hlaw
  have gm3 : ∀ w,Calls Tryd.prog 15 #[.int .i64 off,.int .i64 3] w fun e w' => e = .returned (.int .i64 (off % 3)) ∧ w = w':=fun w => mod_any off 3 w (by decide) (by decide)
  have gm5 : ∀ w,Calls Tryd.prog 15 #[.int .i64 off,.int .i64 5] w fun e w' => e = .returned (.int .i64 (off % 5)) ∧ w = w':=fun w => mod_any off 5 w (by decide) (by decide)
  have p0:=Int.emod_nonneg off (show (3 : Int) ≠ 0 by decide)
  have p1:=Int.emod_lt_of_pos off (show (0 : Int) < 3 by decide)
  have q0:=Int.emod_nonneg off (show (5 : Int) ≠ 0 by decide)
  have q1:=Int.emod_lt_of_pos off (show (0 : Int) < 5 by decide)
  obtain ⟨p,hp⟩ : ∃ p,off % 3 = p:=⟨_,rfl⟩
  obtain ⟨q,hq⟩ : ∃ p,off % 5 = p:=⟨_,rfl⟩
  rw [hp] at gm3 p0 p1
  rw [hq] at gm5 q0 q1
  clear hp hq
  have g1 : ∀ w,Calls Tryd.prog 18 #[.agg #[.int .i64 3,.int .i64 1,.int .i64 2,.int .u64 3,.int .u64 4,.int .u64 (5 + p),.int .u64 5,.int .i64 0,.int .u64 0,.int .i64 0,.int .i64 1,.int .u64 7,.int .i64 0,.int .i64 3,.int .i64 0,.int .i64 5,.int .i64 9,.int .i64 2,.string ⟨#[97,98]⟩],.agg #[.int .i64 5,.int .i64 2,.int .i64 1,.int .u64 4,.int .u64 3,.int .u64 5,.int .u64 0,.int .i64 1,.int .u64 7,.int .i64 0,.int .i64 0,.int .u64 0,.int .i64 0,.int .i64 0,.int .i64 0,.int .i64 0,.int .i64 0,.int .i64 0,.string ⟨#[]⟩]] w fun e w' => e = .returned (.tuple #[.bool (decide ((5 : Int) = 5 + p)),.int .i64 0]) ∧ Below w.heap.size w w':=fun w => by
    have:=fans_any (dataA (5 + p)) (ackF 5) (by show (2 : Nat) ≤ maxLen;decide) (by decide) (by show (0 : Int) ≤ 5;decide) (by decide) w
    unfold ansW at this
    rw [ans_data (5 + p) 5 (by omega) (by omega) (by decide) (by decide)] at this
    exact this
  have g2 : ∀ w,Calls Tryd.prog 18 #[.agg #[.int .i64 3,.int .i64 1,.int .i64 2,.int .u64 3,.int .u64 4,.int .u64 (5 + q),.int .u64 5,.int .i64 0,.int .u64 0,.int .i64 0,.int .i64 1,.int .u64 7,.int .i64 0,.int .i64 3,.int .i64 0,.int .i64 5,.int .i64 9,.int .i64 2,.string ⟨#[97,98]⟩],.agg #[.int .i64 5,.int .i64 2,.int .i64 1,.int .u64 4,.int .u64 3,.int .u64 5,.int .u64 0,.int .i64 1,.int .u64 7,.int .i64 0,.int .i64 0,.int .u64 0,.int .i64 0,.int .i64 0,.int .i64 0,.int .i64 0,.int .i64 0,.int .i64 0,.string ⟨#[]⟩]] w fun e w' => e = .returned (.tuple #[.bool (decide ((5 : Int) = 5 + q)),.int .i64 0]) ∧ Below w.heap.size w w':=fun w => by
    have:=fans_any (dataA (5 + q)) (ackF 5) (by show (2 : Nat) ≤ maxLen;decide) (by decide) (by show (0 : Int) ≤ 5;decide) (by decide) w
    unfold ansW at this
    rw [ans_data (5 + q) 5 (by omega) (by omega) (by decide) (by decide)] at this
    exact this
  obtain ⟨A1,hA1⟩ : ∃ b,decide ((5 : Int) = 5 + p) = b:=⟨_,rfl⟩
  obtain ⟨A2,hA2⟩ : ∃ b,decide ((5 : Int) = 5 + q) = b:=⟨_,rfl⟩
  rw [hA1] at g1
  rw [hA2] at g2
  have c1 : ((5 + p : Int) == 5) = A1:=by rw [← hA1,Bool.eq_iff_iff];simp only [beq_iff_eq,decide_eq_true_eq];omega
  have c3 : A1 = true → A2 = true → ((5 + p : Int) == 5 + q) = true:=fun h1 h2 => by rw [h1] at hA1;rw [h2] at hA2;simp only [decide_eq_true_eq] at hA1 hA2;simp only [beq_iff_eq];omega
  obtain ⟨P,hP⟩ : ∃ P : Int,5 + p = P:=⟨_,rfl⟩
  obtain ⟨Q,hQ⟩ : ∃ P : Int,5 + q = P:=⟨_,rfl⟩
  rw [hP] at c1 c3 g1
  rw [hQ] at c3 g2
  have r1 : IntKind.i64.wrap P = P:=IntWalk.i64_in _ (by omega)
  have r2 : IntKind.u64.wrap P = P:=IntWalk.u64_in _ (by omega)
  have r3 : IntKind.i64.wrap Q = Q:=IntWalk.i64_in _ (by omega)
  have r4 : IntKind.u64.wrap Q = Q:=IntWalk.u64_in _ (by omega)
  clear hA1 hA2 p0 p1 q0 q1
  replace c3:=Lib.hid c3;replace g1:=Lib.hid g1;replace g2:=Lib.hid g2;replace gm3:=Lib.hid gm3;replace gm5:=Lib.hid gm5
  have gdat:=Lib.hid data_any
  have gack:=Lib.hid (fun w => ack_any 5 w)
  go_upto_region 8 with fail
  refine wp_region_tail0 2 ?_
  intro W8 hE hN
  have bW8 : Below w.heap.size w W8:=(by rw [hE.out];exact b7)
  clear hE b7
  simp only [List.take_succ_cons,List.take_zero,List.drop_succ_cons,List.drop_zero]
  repeat (go_big_quiet_step ((go_at_call 21;(with_reducible refine Class.go _ (gdat.out _)))))
  refine wpQuiet_nil ?_
  rintro _ ⟨x,rfl⟩
  have b8:=bt bW8 x.ok
  clear hN bW8
  obtain ⟨w8,hw8⟩ : ∃ u,u = x.wd:=⟨_,rfl⟩
  rw [← hw8] at b8 ⊢
  clear hw8 x
  refine Go.Great.wpList_allocTo rfl (some 13) rfl (.pointer (some ⟨w8.heap.size,0,none⟩)) (.cells #[.int .i64 0,.int .i64 0,.int .i64 0,.int .u64 0,.int .u64 0,.int .u64 0,.int .u64 0,.int .i64 0,.int .u64 0,.int .i64 0,.int .i64 0,.int .u64 0,.int .i64 0,.int .i64 0,.int .i64 0,.int .i64 0,.int .i64 0,.int .i64 0,.string ⟨#[]⟩] 29) (by kernel_rfl) ?_
  conv => arg 5;simp [Act.put]
  obtain ⟨w9,hw9⟩ : ∃ y,y = w8.alloc (.cells #[.int .i64 0,.int .i64 0,.int .i64 0,.int .u64 0,.int .u64 0,.int .u64 0,.int .u64 0,.int .i64 0,.int .u64 0,.int .i64 0,.int .i64 0,.int .u64 0,.int .i64 0,.int .i64 0,.int .i64 0,.int .i64 0,.int .i64 0,.int .i64 0,.string ⟨#[]⟩] 29):=⟨_,rfl⟩
  have k9 : blk w9 w8.heap.size = some #[.int .i64 0,.int .i64 0,.int .i64 0,.int .u64 0,.int .u64 0,.int .u64 0,.int .u64 0,.int .i64 0,.int .u64 0,.int .i64 0,.int .i64 0,.int .u64 0,.int .i64 0,.int .i64 0,.int .i64 0,.int .i64 0,.int .i64 0,.int .i64 0,.string ⟨#[]⟩]:=(by rw [hw9];exact blk_alloc_new _ _ _ rfl)
  have b9 : Below w.heap.size w w9:=(by rw [hw9];exact b8.alloc b8.size _)
  have sz8:=b8.size
  rw [← hw9]
  clear hw9 b8
  have l9:=blk_lt k9
  refine Go.Great.wpList_allocTo rfl (some 14) rfl (.pointer (some ⟨w9.heap.size,0,none⟩)) (.cells #[.int .i64 0,.int .i64 0,.int .i64 0,.int .u64 0,.int .u64 0,.int .u64 0,.int .u64 0,.int .i64 0,.int .u64 0,.int .i64 0,.int .i64 0,.int .u64 0,.int .i64 0,.int .i64 0,.int .i64 0,.int .i64 0,.int .i64 0,.int .i64 0,.string ⟨#[]⟩] 29) (by kernel_rfl) ?_
  conv => arg 5;simp [Act.put]
  refine wpList_store_blk 29 (.tmp 13) (.tmp 73) w8.heap.size #[.int .i64 0,.int .i64 0,.int .i64 0,.int .u64 0,.int .u64 0,.int .u64 0,.int .u64 0,.int .i64 0,.int .u64 0,.int .i64 0,.int .i64 0,.int .u64 0,.int .i64 0,.int .i64 0,.int .i64 0,.int .i64 0,.int .i64 0,.int .i64 0,.string ⟨#[]⟩] #[.int .i64 3,.int .i64 1,.int .i64 2,.int .u64 3,.int .u64 4,.int .u64 5,.int .u64 5,.int .i64 0,.int .u64 0,.int .i64 0,.int .i64 1,.int .u64 7,.int .i64 0,.int .i64 3,.int .i64 0,.int .i64 5,.int .i64 9,.int .i64 2,.string ⟨#[97,98]⟩] (blk_alloc k9 _) rfl rfl rfl rfl (by kernel_rfl) rfl (by kernel_rfl) ?_
  intro w10 kX o10 B10 s10
  conv => arg 5;simp [Act.put]
  have kY0:=o10 w9.heap.size #[.int .i64 0,.int .i64 0,.int .i64 0,.int .u64 0,.int .u64 0,.int .u64 0,.int .u64 0,.int .i64 0,.int .u64 0,.int .i64 0,.int .i64 0,.int .u64 0,.int .i64 0,.int .i64 0,.int .i64 0,.int .i64 0,.int .i64 0,.int .i64 0,.string ⟨#[]⟩] (by omega) (blk_alloc_new _ _ _ rfl)
  have b10 : Below w.heap.size w w10:=B10 _ _ sz8 (b9.alloc b9.size _)
  clear o10 B10 s10 b9 k9
  refine wpList_store_blk 29 (.tmp 14) (.tmp 74) w9.heap.size #[.int .i64 0,.int .i64 0,.int .i64 0,.int .u64 0,.int .u64 0,.int .u64 0,.int .u64 0,.int .i64 0,.int .u64 0,.int .i64 0,.int .i64 0,.int .u64 0,.int .i64 0,.int .i64 0,.int .i64 0,.int .i64 0,.int .i64 0,.int .i64 0,.string ⟨#[]⟩] #[.int .i64 3,.int .i64 1,.int .i64 2,.int .u64 3,.int .u64 4,.int .u64 5,.int .u64 5,.int .i64 0,.int .u64 0,.int .i64 0,.int .i64 1,.int .u64 7,.int .i64 0,.int .i64 3,.int .i64 0,.int .i64 5,.int .i64 9,.int .i64 2,.string ⟨#[97,98]⟩] kY0 rfl rfl rfl rfl (by kernel_rfl) rfl (by kernel_rfl) ?_
  intro w11 kY o11 B11 s11
  conv => arg 5;simp [Act.put]
  replace kX:=o11 w8.heap.size #[.int .i64 3,.int .i64 1,.int .i64 2,.int .u64 3,.int .u64 4,.int .u64 5,.int .u64 5,.int .i64 0,.int .u64 0,.int .i64 0,.int .i64 1,.int .u64 7,.int .i64 0,.int .i64 3,.int .i64 0,.int .i64 5,.int .i64 9,.int .i64 2,.string ⟨#[97,98]⟩] (by omega) kX
  have b11 : Below w.heap.size w w11:=B11 _ _ (by omega) b10
  clear o11 B11 s11 b10 kY0
  have nX:=kn kX
  have nY:=kn kY
  have ne : w8.heap.size ≠ w9.heap.size:=by omega
  have ne' : w9.heap.size ≠ w8.heap.size:=by omega
  go_upto_region 10 with (first|(go_at_call 15;(with_reducible refine (gm3.out _).mono ?_);rintro e wx ⟨rfl,rfl⟩)|(go_at_call 15;(with_reducible refine (gm5.out _).mono ?_);rintro e wx ⟨rfl,rfl⟩))
  have sz11:=b11.size
  refine wp_fresh w8.heap.size w9.heap.size #[.int .i64 3,.int .i64 1,.int .i64 2,.int .u64 3,.int .u64 4,.int .u64 P,.int .u64 5,.int .i64 0,.int .u64 0,.int .i64 0,.int .i64 1,.int .u64 7,.int .i64 0,.int .i64 3,.int .i64 0,.int .i64 5,.int .i64 9,.int .i64 2,.string ⟨#[97,98]⟩] #[.int .i64 3,.int .i64 1,.int .i64 2,.int .u64 3,.int .u64 4,.int .u64 Q,.int .u64 5,.int .i64 0,.int .u64 0,.int .i64 0,.int .i64 1,.int .u64 7,.int .i64 0,.int .i64 3,.int .i64 0,.int .i64 5,.int .i64 9,.int .i64 2,.string ⟨#[97,98]⟩] (by (apply jt;(focus repeat(first|(with_reducible first|assumption|apply jd|apply js)|((with_reducible apply jo);first|focus(dsimp only;assumption)|focus(simp;done)|focus(dsimp only;omega))|((with_reducible apply jn);first|with_reducible rfl|focus(simp;done)|focus(simp;omega))|(with_reducible apply ja)|((with_reducible apply jb);with_reducible assumption)));kernel_rfl)) (by (apply jt;(focus repeat(first|(with_reducible first|assumption|apply jd|apply js)|((with_reducible apply jo);first|focus(dsimp only;assumption)|focus(simp;done)|focus(dsimp only;omega))|((with_reducible apply jn);first|with_reducible rfl|focus(simp;done)|focus(simp;omega))|(with_reducible apply ja)|((with_reducible apply jb);with_reducible assumption)));kernel_rfl)) (by (repeat(first|(with_reducible first|assumption|exact Below.refl _ _|refine je ?_|refine jl ?_)|((with_reducible refine jp ?_ ?_);first|focus(dsimp only;assumption)|focus(simp;done)|focus(dsimp only;omega))|(with_reducible refine bt ?_ (by assumption)))) : Below w.heap.size w _) ?_
  intro w12 kP kQ b12
  clear nX nY kX kY b11
  refine wp_region_in (by kernel_rfl) (by kernel_rfl) ?_
  intro Wa hE hN
  have kPa : blk Wa w8.heap.size = some #[.int .i64 3,.int .i64 1,.int .i64 2,.int .u64 3,.int .u64 4,.int .u64 P,.int .u64 5,.int .i64 0,.int .u64 0,.int .i64 0,.int .i64 1,.int .u64 7,.int .i64 0,.int .i64 3,.int .i64 0,.int .i64 5,.int .i64 9,.int .i64 2,.string ⟨#[97,98]⟩]:=(by rw [hE.out];exact kP)
  have kQa : blk Wa w9.heap.size = some #[.int .i64 3,.int .i64 1,.int .i64 2,.int .u64 3,.int .u64 4,.int .u64 Q,.int .u64 5,.int .i64 0,.int .u64 0,.int .i64 0,.int .i64 1,.int .u64 7,.int .i64 0,.int .i64 3,.int .i64 0,.int .i64 5,.int .i64 9,.int .i64 2,.string ⟨#[97,98]⟩]:=(by rw [hE.out];exact kQ)
  have bWa : Below w.heap.size w Wa:=(by rw [hE.out];exact b12)
  clear hE kP kQ b12
  refine wpQuiet_load_blk 29 (.tmp 13) w8.heap.size #[.int .i64 3,.int .i64 1,.int .i64 2,.int .u64 3,.int .u64 4,.int .u64 P,.int .u64 5,.int .i64 0,.int .u64 0,.int .i64 0,.int .i64 1,.int .u64 7,.int .i64 0,.int .i64 3,.int .i64 0,.int .i64 5,.int .i64 9,.int .i64 2,.string ⟨#[97,98]⟩] (fun W hW => by obtain ⟨x,rfl⟩:=hW;exact blk_below x.ok kPa) _ rfl rfl rfl Tryd.underlying29 rfl (by kernel_rfl) ?_
  conv => arg 6;simp [Act.put]
  repeat (go_big_quiet_step (first|(go_at_call 22;(with_reducible refine Class.go _ (gack.out _)))|(go_at_call 18;(with_reducible refine Class.go _ (g1.out _)))))
  refine wpQuiet_nil ?_
  rintro _ ⟨x,rfl⟩
  have kP:=blk_below x.ok kPa
  have kQ:=blk_below x.ok kQa
  have b13:=bt bWa x.ok
  clear hN kPa kQa bWa
  obtain ⟨w13,hw13⟩ : ∃ u,u = x.wd:=⟨_,rfl⟩
  rw [← hw13] at b13 kP kQ ⊢
  clear hw13 x
  go_upto_region 11 with fail
  refine wp_region_in (by kernel_rfl) (by kernel_rfl) ?_
  intro Wa hE hN
  have kPa : blk Wa w8.heap.size = some #[.int .i64 3,.int .i64 1,.int .i64 2,.int .u64 3,.int .u64 4,.int .u64 P,.int .u64 5,.int .i64 0,.int .u64 0,.int .i64 0,.int .i64 1,.int .u64 7,.int .i64 0,.int .i64 3,.int .i64 0,.int .i64 5,.int .i64 9,.int .i64 2,.string ⟨#[97,98]⟩]:=(by rw [hE.out];exact kP)
  have kQa : blk Wa w9.heap.size = some #[.int .i64 3,.int .i64 1,.int .i64 2,.int .u64 3,.int .u64 4,.int .u64 Q,.int .u64 5,.int .i64 0,.int .u64 0,.int .i64 0,.int .i64 1,.int .u64 7,.int .i64 0,.int .i64 3,.int .i64 0,.int .i64 5,.int .i64 9,.int .i64 2,.string ⟨#[97,98]⟩]:=(by rw [hE.out];exact kQ)
  have bWa : Below w.heap.size w Wa:=(by rw [hE.out];exact b13)
  clear hE kP kQ b13
  refine wpQuiet_load_blk 29 (.tmp 14) w9.heap.size #[.int .i64 3,.int .i64 1,.int .i64 2,.int .u64 3,.int .u64 4,.int .u64 Q,.int .u64 5,.int .i64 0,.int .u64 0,.int .i64 0,.int .i64 1,.int .u64 7,.int .i64 0,.int .i64 3,.int .i64 0,.int .i64 5,.int .i64 9,.int .i64 2,.string ⟨#[97,98]⟩] (fun W hW => by obtain ⟨x,rfl⟩:=hW;exact blk_below x.ok kQa) _ rfl rfl rfl Tryd.underlying29 rfl (by kernel_rfl) ?_
  conv => arg 6;simp [Act.put]
  repeat (go_big_quiet_step (first|(go_at_call 22;(with_reducible refine Class.go _ (gack.out _)))|(go_at_call 18;(with_reducible refine Class.go _ (g2.out _)))))
  refine wpQuiet_nil ?_
  rintro _ ⟨x,rfl⟩
  have kP:=blk_below x.ok kPa
  have kQ:=blk_below x.ok kQa
  have b14:=bt bWa x.ok
  clear hN kPa kQa bWa
  obtain ⟨w14,hw14⟩ : ∃ u,u = x.wd:=⟨_,rfl⟩
  rw [← hw14] at b14 kP kQ ⊢
  clear hw14 x
  have nP:=kn kP
  have nQ:=kn kQ
  clear g1 g2 gm3 gm5 gdat gack kP kQ
  cases A1 <;> cases A2
  · go_wp2_with (go_at_call 10;(with_reducible refine (ga.out _ (HH.out.on b14) (HT.out.on b14)).mono ?_);rintro e wa ⟨rfl,ha⟩)
    go_ret
    exact ⟨rfl,bt b14 ha⟩
  · go_wp2_with (go_at_call 10;(with_reducible refine (ga.out _ (HH.out.on b14) (HT.out.on b14)).mono ?_);rintro e wa ⟨rfl,ha⟩)
    go_ret
    exact ⟨rfl,bt b14 ha⟩
  · go_wp2_with (go_at_call 10;(with_reducible refine (ga.out _ (HH.out.on b14) (HT.out.on b14)).mono ?_);rintro e wa ⟨rfl,ha⟩)
    go_ret
    exact ⟨rfl,bt b14 ha⟩
  · have c4:=c3.out rfl rfl
    go_wp2_with (go_at_call 10;(with_reducible refine (ga.out _ (HH.out.on b14) (HT.out.on b14)).mono ?_);rintro e wa ⟨rfl,ha⟩)
    go_ret
    exact ⟨rfl,bt b14 ha⟩
theorem frameApart_walk (m n off : Int) (w : World) (T0 : Lib.TabIs Tryd.prog w sumNm .u32 sumTab) (T1 : Lib.TabIs Tryd.prog w headsNm .u8 headsTab) (T2 : Lib.TabIs Tryd.prog w tabNm .u64 Lib.pow10Tab) (T3 : Lib.TabIs Tryd.prog w blanksNm .u8 Lib.asciiSpaceTab) :
    Calls Tryd.prog 8 #[.int .i64 m,.int .i64 n,.int .i64 off] w fun e w' => e = .returned (.bool true) ∧ Below w.heap.size w w' :=
  frameApart_at m n off w (htab_of T1) (stab_of T0) (tab_of T2) (stabA_of T3)
end Go.Proofs.YtaiofjffoboicaaDoor
