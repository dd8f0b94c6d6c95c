/- Parts of a proof, printed by a program of mine out of my texts: FrAns. -/
import Derived.Deep.Cut
import Derived.Test.YtaiofjffoboicaaDoorCEq
import Derived.Test.YtaiofjffoboicaaDoorCFrChkAll
import Derived.Test.YtaiofjffoboicaaDoorCLaw
import Derived.Test.YtaiofjffoboicaaDoorCX9
set_option linter.unusedSimpArgs false
set_option linter.unusedVariables false
namespace Go.Proofs.YtaiofjffoboicaaDoor
open Go.RowKit
def ansB (f g : Fr) : Bool:=decide (g.k = 5 ∨ g.k = 6) && decide (g.fr = f.to_) && decide (g.to_ = f.fr) && decide (g.a = f.a) && decide (g.ino = f.bno ∧ g.isq = f.bsq ∧ g.iof = f.bof)
def ansV (f g : Fr) : Bool × Int:=if frC f ≠ 0 then (false,frC f) else if frC g ≠ 0 then (false,frC g) else if f.k ≠ 3 then (false,7) else (ansB f g,0)
abbrev ansW (f g : Fr) : Value:=.tuple #[.bool (ansV f g).1,.int .i64 (ansV f g).2]
set_option maxRecDepth 100000 in
set_option maxHeartbeats 3200000 in
theorem fans_any (f g : Fr) (hdf : f.da.size ≤ maxLen) (hdg : g.da.size ≤ maxLen) (h0f : 0 ≤ f.b) (h0g : 0 ≤ g.b) (w : World) : Calls Tryd.prog 18 #[frv f,frv g] w fun e w' => e = .returned (ansW f g) ∧ Below w.heap.size w w':=by
  have gf:=Lib.hid (fun w => fcheck_any f hdf h0f w)
  have gg:=Lib.hid (fun w => fcheck_any g hdg h0g w)
  clear hdf hdg h0f h0g
  have hun : undef = Value.tuple #[]:=rfl
  by_cases hf : frC f = 0
  · rw [hf] at gf
    by_cases hg : frC g = 0
    · rw [hg] at gg
      by_cases hk : f.k = 3
      · have hV : ansW f g = .tuple #[.bool (ansB f g),.int .i64 0]:=by unfold ansW ansV;rw [if_neg (by simpa using hf),if_neg (by simpa using hg),if_neg (by simpa using hk)]
        rw [hV]
        have t0 : (f.k == 3) = true:=by simpa using hk
        have t0' : (f.k != 3) = false:=by simpa using hk
        clear hV hf hg hk
        (go_enter Tryd.func18,Tryd.ntmps18;go_upto_region 1 with fail;refine wp_region_lit ?_;refine wpList_load_blk 29 (.tmp 2) w.heap.size #[.int .i64 f.k,.int .i64 f.fr,.int .i64 f.to_,.int .u64 f.mi,.int .u64 f.yo,.int .u64 f.a,.int .u64 f.b,.int .i64 f.ino,.int .u64 f.isq,.int .i64 f.iof,.int .i64 f.bno,.int .u64 f.bsq,.int .i64 f.bof,.int .i64 f.bde,.int .i64 f.bpr,.int .i64 f.bbo,.int .i64 f.bli,.int .i64 f.bto,.string f.da] (by (apply jt;(focus repeat(first|(with_reducible first|assumption|apply jd|apply js)|((with_reducible apply jo);first|focus(dsimp only;assumption)|focus(simp;done)|focus(dsimp only;omega))|((with_reducible apply jn);first|with_reducible rfl|focus(simp;done)|focus(simp;omega))|(with_reducible apply ja)|((with_reducible apply jb);with_reducible assumption)));rfl)) _ rfl rfl rfl Tryd.underlying29 rfl (by kernel_rfl) ?_;conv => arg 5;simp [Act.put])
        go_wp2_with fail
        (with_reducible refine (gf.out _).mono ?_)
        rintro e w1 ⟨rfl,h1⟩
        have kf : blk w1 w.heap.size = some #[.int .i64 f.k,.int .i64 f.fr,.int .i64 f.to_,.int .u64 f.mi,.int .u64 f.yo,.int .u64 f.a,.int .u64 f.b,.int .i64 f.ino,.int .u64 f.isq,.int .i64 f.iof,.int .i64 f.bno,.int .u64 f.bsq,.int .i64 f.bof,.int .i64 f.bde,.int .i64 f.bpr,.int .i64 f.bbo,.int .i64 f.bli,.int .i64 f.bto,.string f.da]:=(by (apply jt;(focus repeat(first|(with_reducible first|assumption|apply jd|apply js)|((with_reducible apply jo);first|focus(dsimp only;assumption)|focus(simp;done)|focus(dsimp only;omega))|((with_reducible apply jn);first|with_reducible rfl|focus(simp;done)|focus(simp;omega))|(with_reducible apply ja)|((with_reducible apply jb);with_reducible assumption)));rfl))
        have kg : blk w1 (w.heap.size + 1) = some #[.int .i64 g.k,.int .i64 g.fr,.int .i64 g.to_,.int .u64 g.mi,.int .u64 g.yo,.int .u64 g.a,.int .u64 g.b,.int .i64 g.ino,.int .u64 g.isq,.int .i64 g.iof,.int .i64 g.bno,.int .u64 g.bsq,.int .i64 g.bof,.int .i64 g.bde,.int .i64 g.bpr,.int .i64 g.bbo,.int .i64 g.bli,.int .i64 g.bto,.string g.da]:=(by (apply jt;(focus repeat(first|(with_reducible first|assumption|apply jd|apply js)|((with_reducible apply jo);first|focus(dsimp only;assumption)|focus(simp;done)|focus(dsimp only;omega))|((with_reducible apply jn);first|with_reducible rfl|focus(simp;done)|focus(simp;omega))|(with_reducible apply ja)|((with_reducible apply jb);with_reducible assumption)));rfl))
        have hw : Below w.heap.size w w1:=by (repeat(first|(with_reducible first|assumption|exact Below.refl _ _|refine je ?_|refine jl ?_)|((with_reducible refine jp ?_ ?_);first|focus(dsimp only;assumption)|focus(simp;done)|focus(dsimp only;omega))|(with_reducible refine bt ?_ (by assumption))))
        clear h1 gf
        (go_upto_region 4 with fail;refine wp_region_lit ?_;refine wpList_load_blk 29 (.tmp 3) (w.heap.size + 1) #[.int .i64 g.k,.int .i64 g.fr,.int .i64 g.to_,.int .u64 g.mi,.int .u64 g.yo,.int .u64 g.a,.int .u64 g.b,.int .i64 g.ino,.int .u64 g.isq,.int .i64 g.iof,.int .i64 g.bno,.int .u64 g.bsq,.int .i64 g.bof,.int .i64 g.bde,.int .i64 g.bpr,.int .i64 g.bbo,.int .i64 g.bli,.int .i64 g.bto,.string g.da] kg _ rfl rfl rfl Tryd.underlying29 rfl (by kernel_rfl) ?_;conv => arg 5;simp [Act.put])
        go_wp2_with fail
        (with_reducible refine (gg.out _).mono ?_)
        rintro e w2 ⟨rfl,h2⟩
        have kf2:=blk_below h2 kf
        have kg2:=blk_below h2 kg
        have hw2:=hw.trans (h2.mono hw.size)
        have nf:=kn kf2;have ng:=kn kg2
        clear kf kg h2 gg hw
        cases q1 : (g.k == 5) <;> cases q2 : (g.k == 6) <;> cases q3 : (g.fr == f.to_) <;> cases q4 : (g.to_ == f.fr) <;> cases q5 : (g.a == f.a)
        all_goals
          go_wp2
          all_goals
            go_ret2
            refine ⟨?_,hw2⟩
            clear nf ng kf2 kg2 hw2 hun
            simp only [beq_iff_eq,beq_eq_false_iff_ne,ne_eq] at q1 q2 q3 q4 q5
            simp [ansB, *]
      · have hV : ansW f g = .tuple #[.bool false,.int .i64 7]:=by unfold ansW ansV;rw [if_neg (by simpa using hf),if_neg (by simpa using hg),if_pos hk]
        rw [hV]
        have t0' : (f.k != 3) = true:=by simpa using hk
        clear hV hf hg hk
        (go_enter Tryd.func18,Tryd.ntmps18;go_upto_region 1 with fail;refine wp_region_lit ?_;refine wpList_load_blk 29 (.tmp 2) w.heap.size #[.int .i64 f.k,.int .i64 f.fr,.int .i64 f.to_,.int .u64 f.mi,.int .u64 f.yo,.int .u64 f.a,.int .u64 f.b,.int .i64 f.ino,.int .u64 f.isq,.int .i64 f.iof,.int .i64 f.bno,.int .u64 f.bsq,.int .i64 f.bof,.int .i64 f.bde,.int .i64 f.bpr,.int .i64 f.bbo,.int .i64 f.bli,.int .i64 f.bto,.string f.da] (by (apply jt;(focus repeat(first|(with_reducible first|assumption|apply jd|apply js)|((with_reducible apply jo);first|focus(dsimp only;assumption)|focus(simp;done)|focus(dsimp only;omega))|((with_reducible apply jn);first|with_reducible rfl|focus(simp;done)|focus(simp;omega))|(with_reducible apply ja)|((with_reducible apply jb);with_reducible assumption)));rfl)) _ rfl rfl rfl Tryd.underlying29 rfl (by kernel_rfl) ?_;conv => arg 5;simp [Act.put])
        go_wp2_with fail
        (with_reducible refine (gf.out _).mono ?_)
        rintro e w1 ⟨rfl,h1⟩
        have kf : blk w1 w.heap.size = some #[.int .i64 f.k,.int .i64 f.fr,.int .i64 f.to_,.int .u64 f.mi,.int .u64 f.yo,.int .u64 f.a,.int .u64 f.b,.int .i64 f.ino,.int .u64 f.isq,.int .i64 f.iof,.int .i64 f.bno,.int .u64 f.bsq,.int .i64 f.bof,.int .i64 f.bde,.int .i64 f.bpr,.int .i64 f.bbo,.int .i64 f.bli,.int .i64 f.bto,.string f.da]:=(by (apply jt;(focus repeat(first|(with_reducible first|assumption|apply jd|apply js)|((with_reducible apply jo);first|focus(dsimp only;assumption)|focus(simp;done)|focus(dsimp only;omega))|((with_reducible apply jn);first|with_reducible rfl|focus(simp;done)|focus(simp;omega))|(with_reducible apply ja)|((with_reducible apply jb);with_reducible assumption)));rfl))
        have kg : blk w1 (w.heap.size + 1) = some #[.int .i64 g.k,.int .i64 g.fr,.int .i64 g.to_,.int .u64 g.mi,.int .u64 g.yo,.int .u64 g.a,.int .u64 g.b,.int .i64 g.ino,.int .u64 g.isq,.int .i64 g.iof,.int .i64 g.bno,.int .u64 g.bsq,.int .i64 g.bof,.int .i64 g.bde,.int .i64 g.bpr,.int .i64 g.bbo,.int .i64 g.bli,.int .i64 g.bto,.string g.da]:=(by (apply jt;(focus repeat(first|(with_reducible first|assumption|apply jd|apply js)|((with_reducible apply jo);first|focus(dsimp only;assumption)|focus(simp;done)|focus(dsimp only;omega))|((with_reducible apply jn);first|with_reducible rfl|focus(simp;done)|focus(simp;omega))|(with_reducible apply ja)|((with_reducible apply jb);with_reducible assumption)));rfl))
        have hw : Below w.heap.size w w1:=by (repeat(first|(with_reducible first|assumption|exact Below.refl _ _|refine je ?_|refine jl ?_)|((with_reducible refine jp ?_ ?_);first|focus(dsimp only;assumption)|focus(simp;done)|focus(dsimp only;omega))|(with_reducible refine bt ?_ (by assumption))))
        clear h1 gf
        (go_upto_region 4 with fail;refine wp_region_lit ?_;refine wpList_load_blk 29 (.tmp 3) (w.heap.size + 1) #[.int .i64 g.k,.int .i64 g.fr,.int .i64 g.to_,.int .u64 g.mi,.int .u64 g.yo,.int .u64 g.a,.int .u64 g.b,.int .i64 g.ino,.int .u64 g.isq,.int .i64 g.iof,.int .i64 g.bno,.int .u64 g.bsq,.int .i64 g.bof,.int .i64 g.bde,.int .i64 g.bpr,.int .i64 g.bbo,.int .i64 g.bli,.int .i64 g.bto,.string g.da] kg _ rfl rfl rfl Tryd.underlying29 rfl (by kernel_rfl) ?_;conv => arg 5;simp [Act.put])
        go_wp2_with fail
        (with_reducible refine (gg.out _).mono ?_)
        rintro e w2 ⟨rfl,h2⟩
        have kf2:=blk_below h2 kf
        have hw2:=hw.trans (h2.mono hw.size)
        have nf:=kn kf2
        clear kf kg h2 gg hw
        go_wp2
        go_ret2
        exact ⟨rfl,hw2⟩
    · obtain ⟨c,hc⟩ : ∃ c,frC g = c:=⟨_,rfl⟩
      have hV : ansW f g = .tuple #[.bool false,.int .i64 c]:=by unfold ansW ansV;rw [if_neg (by simpa using hf),if_pos hg,hc]
      rw [hV]
      rw [hc] at gg hg
      have hne : (c != 0) = true:=by simpa using hg
      clear hV hc hf hg
      (go_enter Tryd.func18,Tryd.ntmps18;go_upto_region 1 with fail;refine wp_region_lit ?_;refine wpList_load_blk 29 (.tmp 2) w.heap.size #[.int .i64 f.k,.int .i64 f.fr,.int .i64 f.to_,.int .u64 f.mi,.int .u64 f.yo,.int .u64 f.a,.int .u64 f.b,.int .i64 f.ino,.int .u64 f.isq,.int .i64 f.iof,.int .i64 f.bno,.int .u64 f.bsq,.int .i64 f.bof,.int .i64 f.bde,.int .i64 f.bpr,.int .i64 f.bbo,.int .i64 f.bli,.int .i64 f.bto,.string f.da] (by (apply jt;(focus repeat(first|(with_reducible first|assumption|apply jd|apply js)|((with_reducible apply jo);first|focus(dsimp only;assumption)|focus(simp;done)|focus(dsimp only;omega))|((with_reducible apply jn);first|with_reducible rfl|focus(simp;done)|focus(simp;omega))|(with_reducible apply ja)|((with_reducible apply jb);with_reducible assumption)));rfl)) _ rfl rfl rfl Tryd.underlying29 rfl (by kernel_rfl) ?_;conv => arg 5;simp [Act.put])
      go_wp2_with fail
      (with_reducible refine (gf.out _).mono ?_)
      rintro e w1 ⟨rfl,h1⟩
      have kg : blk w1 (w.heap.size + 1) = some #[.int .i64 g.k,.int .i64 g.fr,.int .i64 g.to_,.int .u64 g.mi,.int .u64 g.yo,.int .u64 g.a,.int .u64 g.b,.int .i64 g.ino,.int .u64 g.isq,.int .i64 g.iof,.int .i64 g.bno,.int .u64 g.bsq,.int .i64 g.bof,.int .i64 g.bde,.int .i64 g.bpr,.int .i64 g.bbo,.int .i64 g.bli,.int .i64 g.bto,.string g.da]:=(by (apply jt;(focus repeat(first|(with_reducible first|assumption|apply jd|apply js)|((with_reducible apply jo);first|focus(dsimp only;assumption)|focus(simp;done)|focus(dsimp only;omega))|((with_reducible apply jn);first|with_reducible rfl|focus(simp;done)|focus(simp;omega))|(with_reducible apply ja)|((with_reducible apply jb);with_reducible assumption)));rfl))
      have hw : Below w.heap.size w w1:=by (repeat(first|(with_reducible first|assumption|exact Below.refl _ _|refine je ?_|refine jl ?_)|((with_reducible refine jp ?_ ?_);first|focus(dsimp only;assumption)|focus(simp;done)|focus(dsimp only;omega))|(with_reducible refine bt ?_ (by assumption))))
      clear h1 gf
      (go_upto_region 4 with fail;refine wp_region_lit ?_;refine wpList_load_blk 29 (.tmp 3) (w.heap.size + 1) #[.int .i64 g.k,.int .i64 g.fr,.int .i64 g.to_,.int .u64 g.mi,.int .u64 g.yo,.int .u64 g.a,.int .u64 g.b,.int .i64 g.ino,.int .u64 g.isq,.int .i64 g.iof,.int .i64 g.bno,.int .u64 g.bsq,.int .i64 g.bof,.int .i64 g.bde,.int .i64 g.bpr,.int .i64 g.bbo,.int .i64 g.bli,.int .i64 g.bto,.string g.da] kg _ rfl rfl rfl Tryd.underlying29 rfl (by kernel_rfl) ?_;conv => arg 5;simp [Act.put])
      go_wp2_with fail
      (with_reducible refine (gg.out _).mono ?_)
      rintro e w2 ⟨rfl,h2⟩
      have hw2:=hw.trans (h2.mono hw.size)
      clear kg h2 gg hw
      go_wp2
      go_ret2
      exact ⟨rfl,hw2⟩
  · obtain ⟨c,hc⟩ : ∃ c,frC f = c:=⟨_,rfl⟩
    have hV : ansW f g = .tuple #[.bool false,.int .i64 c]:=by unfold ansW ansV;rw [if_pos hf,hc]
    rw [hV]
    rw [hc] at gf hf
    have hne : (c != 0) = true:=by simpa using hf
    clear hV hc hf
    (go_enter Tryd.func18,Tryd.ntmps18;go_upto_region 1 with fail;refine wp_region_lit ?_;refine wpList_load_blk 29 (.tmp 2) w.heap.size #[.int .i64 f.k,.int .i64 f.fr,.int .i64 f.to_,.int .u64 f.mi,.int .u64 f.yo,.int .u64 f.a,.int .u64 f.b,.int .i64 f.ino,.int .u64 f.isq,.int .i64 f.iof,.int .i64 f.bno,.int .u64 f.bsq,.int .i64 f.bof,.int .i64 f.bde,.int .i64 f.bpr,.int .i64 f.bbo,.int .i64 f.bli,.int .i64 f.bto,.string f.da] (by (apply jt;(focus repeat(first|(with_reducible first|assumption|apply jd|apply js)|((with_reducible apply jo);first|focus(dsimp only;assumption)|focus(simp;done)|focus(dsimp only;omega))|((with_reducible apply jn);first|with_reducible rfl|focus(simp;done)|focus(simp;omega))|(with_reducible apply ja)|((with_reducible apply jb);with_reducible assumption)));rfl)) _ rfl rfl rfl Tryd.underlying29 rfl (by kernel_rfl) ?_;conv => arg 5;simp [Act.put])
    go_wp2_with fail
    (with_reducible refine (gf.out _).mono ?_)
    rintro e w1 ⟨rfl,h1⟩
    have hw : Below w.heap.size w w1:=by (repeat(first|(with_reducible first|assumption|exact Below.refl _ _|refine je ?_|refine jl ?_)|((with_reducible refine jp ?_ ?_);first|focus(dsimp only;assumption)|focus(simp;done)|focus(dsimp only;omega))|(with_reducible refine bt ?_ (by assumption))))
    clear h1 gf gg
    go_wp2
    go_ret2
    exact ⟨rfl,hw⟩
end Go.Proofs.YtaiofjffoboicaaDoor
