/- Parts of a proof, printed by a program of mine out of my texts: FrEq, FrHeld. -/
import Derived.Laws.Rows
import Derived.Laws.Tables
import Derived.Great.Walk
import Derived.Laws.CopyRow
import Derived.Test.YtaiofjffoboicaaDoorCA
import Derived.Test.YtaiofjffoboicaaDoorCSum
set_option linter.unusedSimpArgs false
set_option linter.unusedVariables false
namespace Go.Proofs.YtaiofjffoboicaaDoor
open Go.RowKit
def frEq (f g : Fr) : Bool:=decide (f.k = g.k ∧ f.fr = g.fr ∧ f.to_ = g.to_ ∧ f.mi = g.mi ∧ f.yo = g.yo ∧ f.a = g.a ∧ f.b = g.b ∧ f.ino = g.ino ∧ f.isq = g.isq ∧ f.iof = g.iof ∧ f.bno = g.bno ∧ f.bsq = g.bsq ∧ f.bof = g.bof ∧ f.bde = g.bde ∧ f.bpr = g.bpr ∧ f.bbo = g.bbo ∧ f.bli = g.bli ∧ f.bto = g.bto ∧ f.da.toList = g.da.toList)
theorem toList_iff (a b : ByteArray) : a.toList = b.toList ↔ a = b:=by
  rw [ByteArray.toList_eq,ByteArray.toList_eq]
  constructor
  · intro h
    obtain ⟨⟨a⟩⟩:=a
    obtain ⟨⟨b⟩⟩:=b
    have : a = b:=h
    rw [this]
  · rintro rfl;rfl
theorem nil_iff (a : ByteArray) : a.toList = [] ↔ a = ⟨#[]⟩:=by
  rw [← toList_iff,ByteArray.toList_eq ⟨#[]⟩]
set_option maxHeartbeats 1600000 in
theorem run_frEq (f g : Fr) (w : World) : Sem.run Tryd.prog (binOp BinOp.eql 29 (frv f) (frv g)) w = .ok (.bool (frEq f g)) w:=by
  obtain ⟨a1,a2,a3,a4,a5,a6,a7,a8,a9,a10,a11,a12,a13,a14,a15,a16,a17,a18,a19⟩:=f
  obtain ⟨b1,b2,b3,b4,b5,b6,b7,b8,b9,b10,b11,b12,b13,b14,b15,b16,b17,b18,b19⟩:=g
  simp only [frEq]
  go_simp
  refine (Decidable.em (a1 = b1)).elim (fun h1 => ?_) (fun h1 => by simp [h1])
  subst h1
  refine (Decidable.em (a2 = b2)).elim (fun h2 => ?_) (fun h2 => by simp [h2])
  subst h2
  refine (Decidable.em (a3 = b3)).elim (fun h3 => ?_) (fun h3 => by simp [h3])
  subst h3
  refine (Decidable.em (a4 = b4)).elim (fun h4 => ?_) (fun h4 => by simp [h4])
  subst h4
  refine (Decidable.em (a5 = b5)).elim (fun h5 => ?_) (fun h5 => by simp [h5])
  subst h5
  refine (Decidable.em (a6 = b6)).elim (fun h6 => ?_) (fun h6 => by simp [h6])
  subst h6
  refine (Decidable.em (a7 = b7)).elim (fun h7 => ?_) (fun h7 => by simp [h7])
  subst h7
  refine (Decidable.em (a8 = b8)).elim (fun h8 => ?_) (fun h8 => by simp [h8])
  subst h8
  refine (Decidable.em (a9 = b9)).elim (fun h9 => ?_) (fun h9 => by simp [h9])
  subst h9
  refine (Decidable.em (a10 = b10)).elim (fun h10 => ?_) (fun h10 => by simp [h10])
  subst h10
  refine (Decidable.em (a11 = b11)).elim (fun h11 => ?_) (fun h11 => by simp [h11])
  subst h11
  refine (Decidable.em (a12 = b12)).elim (fun h12 => ?_) (fun h12 => by simp [h12])
  subst h12
  refine (Decidable.em (a13 = b13)).elim (fun h13 => ?_) (fun h13 => by simp [h13])
  subst h13
  refine (Decidable.em (a14 = b14)).elim (fun h14 => ?_) (fun h14 => by simp [h14])
  subst h14
  refine (Decidable.em (a15 = b15)).elim (fun h15 => ?_) (fun h15 => by simp [h15])
  subst h15
  refine (Decidable.em (a16 = b16)).elim (fun h16 => ?_) (fun h16 => by simp [h16])
  subst h16
  refine (Decidable.em (a17 = b17)).elim (fun h17 => ?_) (fun h17 => by simp [h17])
  subst h17
  refine (Decidable.em (a18 = b18)).elim (fun h18 => ?_) (fun h18 => by simp [h18])
  subst h18
  by_cases h19 : a19.toList = b19.toList
  · simp [h19]
  · simp [h19]
set_option maxHeartbeats 1600000 in
theorem run_frNe (f g : Fr) (w : World) : Sem.run Tryd.prog (binOp BinOp.neq 29 (frv f) (frv g)) w = .ok (.bool (!frEq f g)) w:=by
  obtain ⟨a1,a2,a3,a4,a5,a6,a7,a8,a9,a10,a11,a12,a13,a14,a15,a16,a17,a18,a19⟩:=f
  obtain ⟨b1,b2,b3,b4,b5,b6,b7,b8,b9,b10,b11,b12,b13,b14,b15,b16,b17,b18,b19⟩:=g
  simp only [frEq]
  go_simp
  refine (Decidable.em (a1 = b1)).elim (fun h1 => ?_) (fun h1 => by simp [h1])
  subst h1
  refine (Decidable.em (a2 = b2)).elim (fun h2 => ?_) (fun h2 => by simp [h2])
  subst h2
  refine (Decidable.em (a3 = b3)).elim (fun h3 => ?_) (fun h3 => by simp [h3])
  subst h3
  refine (Decidable.em (a4 = b4)).elim (fun h4 => ?_) (fun h4 => by simp [h4])
  subst h4
  refine (Decidable.em (a5 = b5)).elim (fun h5 => ?_) (fun h5 => by simp [h5])
  subst h5
  refine (Decidable.em (a6 = b6)).elim (fun h6 => ?_) (fun h6 => by simp [h6])
  subst h6
  refine (Decidable.em (a7 = b7)).elim (fun h7 => ?_) (fun h7 => by simp [h7])
  subst h7
  refine (Decidable.em (a8 = b8)).elim (fun h8 => ?_) (fun h8 => by simp [h8])
  subst h8
  refine (Decidable.em (a9 = b9)).elim (fun h9 => ?_) (fun h9 => by simp [h9])
  subst h9
  refine (Decidable.em (a10 = b10)).elim (fun h10 => ?_) (fun h10 => by simp [h10])
  subst h10
  refine (Decidable.em (a11 = b11)).elim (fun h11 => ?_) (fun h11 => by simp [h11])
  subst h11
  refine (Decidable.em (a12 = b12)).elim (fun h12 => ?_) (fun h12 => by simp [h12])
  subst h12
  refine (Decidable.em (a13 = b13)).elim (fun h13 => ?_) (fun h13 => by simp [h13])
  subst h13
  refine (Decidable.em (a14 = b14)).elim (fun h14 => ?_) (fun h14 => by simp [h14])
  subst h14
  refine (Decidable.em (a15 = b15)).elim (fun h15 => ?_) (fun h15 => by simp [h15])
  subst h15
  refine (Decidable.em (a16 = b16)).elim (fun h16 => ?_) (fun h16 => by simp [h16])
  subst h16
  refine (Decidable.em (a17 = b17)).elim (fun h17 => ?_) (fun h17 => by simp [h17])
  subst h17
  refine (Decidable.em (a18 = b18)).elim (fun h18 => ?_) (fun h18 => by simp [h18])
  subst h18
  by_cases h19 : a19.toList = b19.toList
  · simp [h19]
  · simp [h19]
theorem frEq_self (f : Fr) : frEq f f = true:=by simp [frEq]
def bareF (f : Fr) : Fr:=⟨f.k,f.fr,f.to_,f.mi,f.yo,if hasA f.k then f.a else 0,if hasB f.k then f.b else 0,if hasI f.k then f.ino else 0,if hasI f.k then f.isq else 0,if hasI f.k then f.iof else 0,
  if hasD f.k then f.bno else 0,if hasD f.k then f.bsq else 0,if hasD f.k then f.bof else 0,if hasD f.k then f.bde else 0,if hasD f.k then f.bpr else 0,if hasD f.k then f.bbo else 0,if hasD f.k then f.bli else 0,if hasD f.k then f.bto else 0,if hasD f.k then f.da else ⟨#[]⟩⟩
theorem bare_eq (f : Fr) (hk : 1 ≤ f.k ∧ f.k ≤ 7) : frEq (bareF f) f = decide (clnF f):=by
  obtain ⟨k,a2,a3,a4,a5,a6,a7,a8,a9,a10,a11,a12,a13,a14,a15,a16,a17,a18,a19⟩:=f
  have h' : k = 1 ∨ k = 2 ∨ k = 3 ∨ k = 4 ∨ k = 5 ∨ k = 6 ∨ k = 7:=by simp only at hk;omega
  rcases h' with rfl|rfl|rfl|rfl|rfl|rfl|rfl <;> simp [frEq,bareF,hasA,hasB,hasD,hasI,clnF,toList_iff,nil_iff] <;> grind
theorem wp_fresh {P : Program} {cd : Code} {Q : Exit → Act → World → Prop} {a : Act} {W w0 : World} {B : Nat} (b1 b2 : Nat) (c1 c2 : Array Value) (h1 : blk W b1 = some c1) (h2 : blk W b2 = some c2) (hB : Below B w0 W)
    (h : ∀ w',blk w' b1 = some c1 → blk w' b2 = some c2 → Below B w0 w' → cd.wp P Q a w') : cd.wp P Q a W:=h W h1 h2 hB
theorem wpList_of_quiet {P : Program} {ops : Array Oper} {C : World → Prop} {K : Act → Prop} {Q : Exit → Act → World → Prop} (hK : ∀ a w,C w → K a → Q .normal a w) :
    ∀ (l : List Oper) (a : Act) (w : World),C w → wpQuiet P ops C K l a → wpList P ops Q l a w
  | [],a,w,hC,h => hK a w hC h
  | o :: rest,a,w,hC,h => by
    unfold wpQuiet at h
    unfold wpList
    split
    · rename_i hw
      rw [if_pos hw] at h
      exact .inl (Oper.wp_of_quiet hC (fun a' w' hC' h' => wpList_of_quiet hK rest a' w' hC' h') h)
    · rename_i hw
      rw [if_neg hw] at h
      exact wpList_of_quiet hK rest _ w hC h
theorem wp_region_in0 {P : Program} {id : Nat} {Q : Exit → Act → World → Prop} {a : Act} {w : World} {l : List Oper}
    (h : ∀ W0,Hid (W0 = w) → Nonempty (Class (Calm W0)) → wpQuiet P l.toArray (fun w' => ∃ x : Class (Calm W0),w' = x.wd) (fun a' => ∀ w',(∃ x : Class (Calm W0),w' = x.wd) → Q .normal a' w') l a) : (Code.region id l.toArray false).wp P Q a w :=
  wp_region_lit (wpList_of_quiet (C:=fun w' => ∃ x : Class (Calm w),w' = x.wd) (fun a' w' hC hQ => hQ w' hC) l a w ⟨⟨w,Below.refl _ _⟩,rfl⟩ (h w (Lib.hid rfl) ⟨⟨_,Below.refl _ _⟩⟩))
theorem blk_row {w : World} {b : Nat} {c : Array Value} (h : blk w b = some c) : ∃ t,w.heap[b]? = some (.cells c t (0,0)):=by
  unfold blk at h
  split at h
  · rename_i c' t hc;cases h;exact ⟨t,hc⟩
  · cases h
section
variable {P : Program} {ops : Array Oper} {rest : List Oper} {o : Oper} {a : Act} {w : World}
theorem wpList_load_blk {Q : Exit → Act → World → Prop} (ty : TypeId) (x : Operand) (b : Nat) (cs : Array Value) (hb : blk w b = some cs) (d : TypeDesc) (hgd : o.guard = none) (ho : o.op = .load ty x) (hx : a.eval x = .pointer (some ⟨b,0,none⟩))
    (hu : P.underlying ty = some d) (hd : (match d with|.struct _|.array _ _ => true|_ => false) = true) (hi : (P.info? ty).map (·.size) = some cs.size)
    (h : wpList P ops Q rest (a.put o.dst (.agg cs)) w) : wpList P ops Q (o :: rest) a w :=
  let ⟨t,hg⟩:=blk_row hb
  wpList_load_row hgd ty x ho b hx t cs (0,0) d hg hu hd hi h
theorem wpQuiet_load_blk {C : World → Prop} {Q : Act → Prop} (ty : TypeId) (x : Operand) (b : Nat) (cs : Array Value) (hb : ∀ w,C w → blk w b = some cs) (d : TypeDesc) (hgd : o.guard = none) (ho : o.op = .load ty x) (hx : a.eval x = .pointer (some ⟨b,0,none⟩))
    (hu : P.underlying ty = some d) (hd : (match d with|.struct _|.array _ _ => true|_ => false) = true) (hi : (P.info? ty).map (·.size) = some cs.size)
    (h : wpQuiet P ops C Q rest (a.put o.dst (.agg cs))) : wpQuiet P ops C Q (o :: rest) a:=by
  refine wpQuiet_step fun K hK => ?_
  rw [if_pos (by simp [Region.wanted,hgd])]
  refine ⟨.agg cs,fun w hw => ?_,hK _ h⟩
  obtain ⟨t,hg⟩:=blk_row (hb w hw)
  unfold Oper.quietAt execOp
  simp only [ho,hx,Instr.loadAt,Instr.sureAddr,Sem.run_bind,Sem.run_pure,Result.andThen_ok,run_loadVar_row w b t ty cs (0,0) d hg hu hd hi]
  exact ⟨rfl,rfl⟩
end
theorem blk_setRow {w : World} {g : Nat} {old cs : Array Value} (h : blk w g = some old) : blk (w.setRow g cs) g = some cs:=by
  obtain ⟨t,hg⟩:=blk_row h
  exact blk_of (setRow_heap w g old cs t (0,0) hg)
theorem setRow_size (w : World) (g : Nat) (cs : Array Value) : (w.setRow g cs).heap.size = w.heap.size:=by
  show (w.heap.modify g _).size = _
  simp
section
variable {P : Program} {ops : Array Oper} {rest : List Oper} {o : Oper} {a : Act} {w : World}
theorem wpList_build_is {Q : Exit → Act → World → Prop} (t : TypeId) (parts : Array (Nat × Operand)) (cells : Array Value) (hg : o.guard = none) (ho : o.op = .build t parts)
    (hc : P.built t (parts.map fun (i,x) => (i,a.eval x)).toList = some cells)
    (h : wpList P ops Q rest (a.put o.dst (.agg cells)) w) : wpList P ops Q (o :: rest) a w :=
  wpList_build hg t parts ho (by rw [hc];rfl) (by rw [hc];exact h)
theorem wpList_store_blk {Q : Exit → Act → World → Prop} (ty : TypeId) (x y : Operand) (g : Nat) (old cells : Array Value) (hb : blk w g = some old) (hgd : o.guard = none) (ho : o.op = .store ty x y)
    (hx : a.eval x = .pointer (some ⟨g,0,none⟩)) (hy : a.eval y = .agg cells) (hi : (P.info? ty).map (·.size) = some cells.size) (hold : old.size = cells.size) (h1 : cells.all (·.oneCell') = true)
    (h : ∀ w',blk w' g = some cells → (∀ d c,d ≠ g → blk w d = some c → blk w' d = some c) → (∀ B w0,B ≤ g → Below B w0 w → Below B w0 w') → w'.heap.size = w.heap.size → wpList P ops Q rest (a.put o.dst undef) w') : wpList P ops Q (o :: rest) a w:=by
  obtain ⟨t,hg⟩:=blk_row hb
  refine wpList_store_row hgd ty x y ho g cells hx hy t old hg hi hold h1 (h _ (blk_setRow hb) (fun d c hd hc => (blk_kept (setRow_other w g d cells hd)).trans hc) (fun B w0 hB k => ?_) (setRow_size w g cells))
  exact ⟨k.os,k.tape,k.output,by rw [setRow_size];exact k.size,fun i hi => by rw [setRow_other w g i cells (by omega)];exact k.block i hi⟩
end
section
variable {P : Program} {ops : Array Oper} {rest : List Oper} {o : Oper} {a : Act}
theorem wpQuiet_build_is {C : World → Prop} {Q : Act → Prop} (t : TypeId) (parts : Array (Nat × Operand)) (cells : Array Value) (hgd : o.guard = none) (ho : o.op = .build t parts)
    (hc : P.built t (parts.map fun (i,x) => (i,a.eval x)).toList = some cells)
    (h : wpQuiet P ops C Q rest (a.put o.dst (.agg cells))) : wpQuiet P ops C Q (o :: rest) a:=by
  refine wpQuiet_step fun K hK => ?_
  rw [if_pos (by simp [Region.wanted,hgd])]
  refine ⟨.agg cells,fun w hw => ?_,hK _ h⟩
  unfold Oper.quietAt execOp
  simp only [ho,Sem.run_bind,run_build w t _ cells hc,Result.andThen_ok]
  exact ⟨rfl,rfl⟩
theorem wpList_of_quiet_then {C : World → Prop} {K : Act → Prop} {Q : Exit → Act → World → Prop} (l2 : List Oper) (hK : ∀ a w,C w → K a → wpList P ops Q l2 a w) :
    ∀ (l : List Oper) (a : Act) (w : World),C w → wpQuiet P ops C K l a → wpList P ops Q (l ++ l2) a w
  | [],a,w,hC,h => hK a w hC h
  | o :: rest,a,w,hC,h => by
    unfold wpQuiet at h
    rw [List.cons_append]
    unfold wpList
    split
    · rename_i hw
      rw [if_pos hw] at h
      exact .inl (Oper.wp_of_quiet hC (fun a' w' hC' h' => wpList_of_quiet_then l2 hK rest a' w' hC' h') h)
    · rename_i hw
      rw [if_neg hw] at h
      exact wpList_of_quiet_then l2 hK rest _ w hC h
theorem wp_region_tail0 {id : Nat} {Q : Exit → Act → World → Prop} {w : World} {l : List Oper} (n : Nat)
    (h : ∀ W0,Hid (W0 = w) → Nonempty (Class (Calm W0)) → wpQuiet P l.toArray (fun w' => ∃ x : Class (Calm W0),w' = x.wd) (fun a' => ∀ w',(∃ x : Class (Calm W0),w' = x.wd) → wpList P l.toArray Q (l.drop n) a' w') (l.take n) a) : (Code.region id l.toArray false).wp P Q a w:=by
  refine wp_region_lit ?_
  have:=wpList_of_quiet_then (P:=P) (ops:=l.toArray) (Q:=Q) (C:=fun w' => ∃ x : Class (Calm w),w' = x.wd) (l.drop n) (fun a' w' hC hQ => hQ w' hC) (l.take n) a w ⟨⟨w,Below.refl _ _⟩,rfl⟩ (h w (Lib.hid rfl) ⟨⟨_,Below.refl _ _⟩⟩)
  rwa [List.take_append_drop] at this
end
end Go.Proofs.YtaiofjffoboicaaDoor
namespace Go.Proofs.YtaiofjffoboicaaDoor
open Go.RowKit
section
variable {P : Program} {ops : Array Oper} {rest : List Oper} {o : Oper} {a : Act}
theorem wpQuiet_store_same {C : World → Prop} {Q : Act → Prop} (ty : TypeId) (x y : Operand) (g : Nat) (cells : Array Value) (hb : ∀ w,C w → blk w g = some cells) (hgd : o.guard = none) (ho : o.op = .store ty x y)
    (hx : a.eval x = .pointer (some ⟨g,0,none⟩)) (hy : a.eval y = .agg cells) (hi : (P.info? ty).map (·.size) = some cells.size) (h1 : cells.all (·.oneCell') = true)
    (h : wpQuiet P ops C Q rest (a.put o.dst undef)) : wpQuiet P ops C Q (o :: rest) a:=by
  refine wpQuiet_step fun K hK => ?_
  rw [if_pos (by simp [Region.wanted,hgd])]
  refine ⟨undef,fun w hw => ?_,hK _ h⟩
  obtain ⟨t,hg⟩:=blk_row (hb w hw)
  unfold Oper.quietAt execOp
  simp only [ho,hx,hy,Instr.storeAt,Instr.sureAddr,Sem.run_bind,Sem.run_pure,Result.andThen_ok,run_storeVar_row w g t ty cells cells hg hi rfl h1,setRow_self w g cells t (0,0) hg]
  exact ⟨rfl,rfl⟩
end
end Go.Proofs.YtaiofjffoboicaaDoor
