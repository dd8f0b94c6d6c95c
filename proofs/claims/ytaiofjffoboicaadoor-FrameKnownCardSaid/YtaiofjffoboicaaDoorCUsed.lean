/- Parts of a proof, printed by a program of mine out of my texts: FrUsed, FrGreat, FrAck. -/
import Derived.Deep.Cut
import Derived.Test.YtaiofjffoboicaaDoorCFrRefChk
set_option linter.unusedSimpArgs false
set_option linter.unusedVariables false
namespace Go.Proofs.YtaiofjffoboicaaDoor
open Go.RowKit
theorem ret_row {P : Program} {fn : Func} {R : Ending → World → Prop} {a : Act} {W : World} {b : Nat} {c : Array Value} (p : Tmp) (ty : TypeId) (d : TypeDesc) (hb : blk W b = some c) (hr : fn.results = #[.cell p ty])
    (hp : a.tmps.getD p undef = .pointer (some ⟨b,0,none⟩)) (hu : P.underlying ty = some d) (hd : (match d with|.struct _|.array _ _ => true|_ => false) = true) (hi : (P.info? ty).map (·.size) = some c.size)
    (hdf : a.defers = []) (hR : R (.returned (.agg c)) W) : bodyPost P fn R .ret a W :=
  let ⟨t,hg⟩:=blk_row hb
  bodyPost_ret (v:=.agg c) (results_cell_row hr a.tmps W b t c (0,0) d hp hg hu hd hi) hdf hR
end Go.Proofs.YtaiofjffoboicaaDoor
namespace Go.Proofs.YtaiofjffoboicaaDoor
open Go.RowKit
section
variable {P : Program} {ops : Array Oper} {rest : List Oper} {o : Oper} {a : Act} {w : World}
theorem wpQuiet_load_blkG {C : World → Prop} {Q : Act → Prop} (ty : TypeId) (x : Operand) (b : Nat) (cs : Array Value) (hb : ∀ w,C w → blk w b = some cs) (d : TypeDesc) (hw : Region.wanted o (yielded ops a.tmps) = true) (ho : o.op = .load ty x) (hx : a.eval x = .pointer (some ⟨b,0,none⟩))
    (hu : P.underlying ty = some d) (hd : (match d with|.struct _|.array _ _ => true|_ => false) = true) (hi : (P.info? ty).map (·.size) = some cs.size)
    (h : wpQuiet P ops C Q rest (a.put o.dst (.agg cs))) : wpQuiet P ops C Q (o :: rest) a:=by
  refine wpQuiet_step fun K hK => ?_
  rw [if_pos hw]
  refine ⟨.agg cs,fun w hw => ?_,hK _ h⟩
  obtain ⟨t,hg⟩:=blk_row (hb w hw)
  unfold Oper.quietAt execOp
  simp only [ho,hx,Instr.loadAt,Instr.sureAddr,Sem.run_bind,Sem.run_pure,Result.andThen_ok,run_loadVar_row w b t ty cs (0,0) d hg hu hd hi]
  exact ⟨rfl,rfl⟩
theorem wpQuiet_app {C : World → Prop} {Q : Act → Prop} (l2 : List Oper) : ∀ (l1 : List Oper) (a : Act),wpQuiet P ops C (fun a' => wpQuiet P ops C Q l2 a') l1 a → wpQuiet P ops C Q (l1 ++ l2) a
  | [],a,h => h
  | o :: rest,a,h => by
    unfold wpQuiet at h
    rw [List.cons_append]
    unfold wpQuiet
    split
    · rename_i hw
      rw [if_pos hw] at h
      exact Oper.quiet_mono (fun a' h' => wpQuiet_app l2 rest a' h') h
    · rename_i hw
      rw [if_neg hw] at h
      exact wpQuiet_app l2 rest _ h
theorem wpQuiet_split {C : World → Prop} {Q : Act → Prop} {l : List Oper} (n : Nat) (h : wpQuiet P ops C (fun a' => wpQuiet P ops C Q (l.drop n) a') (l.take n) a) : wpQuiet P ops C Q l a:=by
  have:=wpQuiet_app (P:=P) (ops:=ops) (C:=C) (Q:=Q) (l.drop n) (l.take n) a h
  rwa [List.take_append_drop] at this
end
end Go.Proofs.YtaiofjffoboicaaDoor
namespace Go.Proofs.YtaiofjffoboicaaDoor
open Go.RowKit
def grantF : Fr:=⟨2,1,2,3,4,300,0,0,0,0,0,0,0,0,0,0,0,0,⟨#[]⟩⟩
set_option maxRecDepth 100000 in
set_option maxHeartbeats 800000 in
theorem grant_any (w : World) : Calls Tryd.prog 23 #[] w fun e w' => e = .returned (.agg #[.int .i64 2,.int .i64 1,.int .i64 2,.int .u64 3,.int .u64 4,.int .u64 300,.int .u64 0,.int .i64 0,.int .u64 0,.int .i64 0,.int .i64 0,.int .u64 0,.int .i64 0,.int .i64 0,.int .i64 0,.int .i64 0,.int .i64 0,.int .i64 0,.string ⟨#[]⟩]) ∧ Below w.heap.size w w':=by
  go_enter Tryd.func23,Tryd.ntmps23
  go_upto_region 1 with fail
  refine wp_region_lit ?_
  refine wpList_build_is 29 _ #[.int .i64 2,.int .i64 1,.int .i64 2,.int .u64 3,.int .u64 4,.int .u64 300,.int .u64 0,.int .i64 0,.int .u64 0,.int .i64 0,.int .i64 0,.int .u64 0,.int .i64 0,.int .i64 0,.int .i64 0,.int .i64 0,.int .i64 0,.int .i64 0,.string ⟨#[]⟩] rfl rfl (by kernel_rfl) ?_
  conv => arg 5;simp [Act.put]
  refine wpList_store_blk 29 (.tmp 0) (.tmp 1) w.heap.size #[.int .i64 0,.int .i64 0,.int .i64 0,.int .u64 0,.int .u64 0,.int .u64 0,.int .u64 0,.int .i64 0,.int .u64 0,.int .i64 0,.int .i64 0,.int .u64 0,.int .i64 0,.int .i64 0,.int .i64 0,.int .i64 0,.int .i64 0,.int .i64 0,.string ⟨#[]⟩] #[.int .i64 2,.int .i64 1,.int .i64 2,.int .u64 3,.int .u64 4,.int .u64 300,.int .u64 0,.int .i64 0,.int .u64 0,.int .i64 0,.int .i64 0,.int .u64 0,.int .i64 0,.int .i64 0,.int .i64 0,.int .i64 0,.int .i64 0,.int .i64 0,.string ⟨#[]⟩] (by (apply jt;(focus repeat(first|(with_reducible first|assumption|apply jd|apply js)|((with_reducible apply jo);first|focus(dsimp only;assumption)|focus(simp;done)|focus(dsimp only;omega))|((with_reducible apply jn);first|with_reducible rfl|focus(simp;done)|focus(simp;omega))|(with_reducible apply ja)|((with_reducible apply jb);with_reducible assumption)));rfl)) rfl rfl rfl rfl (by kernel_rfl) rfl (by kernel_rfl) ?_
  intro w5 kb5 o5 B5 s5
  conv => arg 5;simp [Act.put]
  go_wp2
  exact ret_row 0 29 _ kb5 rfl rfl Tryd.underlying29 rfl (by kernel_rfl) rfl ⟨rfl,B5 _ _ (Nat.le_refl _) (by (repeat(first|(with_reducible first|assumption|exact Below.refl _ _|refine je ?_|refine jl ?_)|((with_reducible refine jp ?_ ?_);first|focus(dsimp only;assumption)|focus(simp;done)|focus(dsimp only;omega))|(with_reducible refine bt ?_ (by assumption)))))⟩
end Go.Proofs.YtaiofjffoboicaaDoor
