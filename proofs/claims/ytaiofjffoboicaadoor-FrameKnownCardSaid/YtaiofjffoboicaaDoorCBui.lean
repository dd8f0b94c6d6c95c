/- Parts of a proof, printed by a program of mine out of my texts: FrBuild, FrPut, FrEncf. -/
import Derived.Lib.FrozenHead2
import Derived.Lib.OthersKept
import Derived.Test.YtaiofjffoboicaaDoorCA
import Derived.Test.YtaiofjffoboicaaDoorCC
import Derived.Test.YtaiofjffoboicaaDoorCD
import Derived.Test.YtaiofjffoboicaaDoorCEq
import Derived.Test.YtaiofjffoboicaaDoorCLaw
import Derived.Test.YtaiofjffoboicaaDoorCShelf
import Derived.Test.YtaiofjffoboicaaDoorCSum
set_option linter.unusedSimpArgs false
set_option linter.unusedVariables false
namespace Go.Proofs.YtaiofjffoboicaaDoor
open Go.RowKit
set_option maxRecDepth 100000 in
set_option maxHeartbeats 800000 in
theorem ccheck_fresh (b : Nat) (w : World) (h0 : w.cell? ⟨b,0,none⟩ = some (.pointer none)) (hsh : w.shape? b = some (105,2)) (hf : w.frozen? ⟨b,0,none⟩ = false) :
    Calls Tryd.prog 93 #[.pointer (some ⟨b,0,none⟩)] w fun e w' => e = .returned (.tuple #[]) ∧ w.setCell ⟨b,0,none⟩ (.pointer (some ⟨b,0,none⟩)) = w':=by
  obtain ⟨j,hj,hjs⟩:=Option.map_eq_some_iff.1 (show (Tryd.prog.info? 105).map (·.size) = some 2 by kernel_rfl)
  have hl : liesAt Tryd.prog Tryd.prog.depth 105 (2 / Tryd.prog.cellsOf 105) 0 105 1 = true:=by kernel_rfl
  go_enter Tryd.func93,Tryd.ntmps93
  go_wp2
  rw [Lib.run_to_unsafe w ⟨b,0,none⟩ Tryd.underlying103 Tryd.underlying167 hj (by rw [hjs];decide) hsh (Nat.zero_lt_succ 1)]
  simp only [Result.andThen]
  rw [Oper.upon_value]
  go_wp2
  rw [run_callFunc_extern Tryd.func110 (by kernel_rfl) (by kernel_rfl) (by kernel_rfl) (e:=Extern.AbiNoEscape.same) (by kernel_rfl)]
  rw [Lib.run_noEscape]
  simp only [Result.andThen]
  rw [Oper.upon_value]
  go_wp2
  rw [Lib.run_from_unsafe w ⟨b,0,none⟩ Tryd.underlying167 Tryd.underlying103 hj hsh hl]
  simp only [Result.andThen]
  rw [Oper.upon_value]
  go_wp2
  go_end0
  exact ⟨rfl,rfl⟩
set_option maxRecDepth 100000 in
set_option maxHeartbeats 800000 in
theorem ccheck_used (b : Nat) (w : World) (h0 : w.cell? ⟨b,0,none⟩ = some (.pointer (some ⟨b,0,none⟩))) :
    Calls Tryd.prog 93 #[.pointer (some ⟨b,0,none⟩)] w fun e w' => e = .returned (.tuple #[]) ∧ w = w':=by
  obtain ⟨j,hj,_⟩:=Option.map_eq_some_iff.1 (show (Tryd.prog.info? 105).map (·.size) = some 2 by kernel_rfl)
  go_enter Tryd.func93,Tryd.ntmps93
  go_wp2
  rw [Lib.run_neq_ptr_same w _ Tryd.underlying103 hj]
  go_wp2
  go_end0
  exact ⟨rfl,rfl⟩
abbrev IsB (B b : Nat) (bs : List Value) (w : World) : Prop:=Lib.IsBuilderF 105 5 B b bs w
theorem ccheck_any (B b : Nat) (bs : List Value) (w : World) (h : IsB B b bs w) :
    Calls Tryd.prog 93 #[.pointer (some ⟨b,0,none⟩)] w fun e w' => e = .returned (.tuple #[]) ∧ (Lib.BuilderAtF 105 5 B b (.pointer (some ⟨b,0,none⟩)) bs w' ∧ Below B w w' ∧ Lib.OthersKept 5 (some b) w w'):=by
  rcases h with h|h
  · refine (ccheck_fresh b w h.cell0 h.shape h.frozen0).mono ?_
    rintro e w' ⟨rfl,rfl⟩
    exact ⟨rfl,h.used _,(Below.refl B w).setCell (p:=⟨b,0,none⟩) h.1 _,(Lib.OthersKept.refl _ _ w).setCell ⟨b,0,none⟩ rfl _⟩
  · refine (ccheck_used b w h.cell0).mono ?_
    rintro e w' ⟨rfl,rfl⟩
    exact ⟨rfl,h,Below.refl B _,Lib.OthersKept.refl _ _ _⟩
set_option maxHeartbeats 2000000 in
set_option maxRecDepth 100000 in
theorem wstring_any (B b : Nat) (bs : List Value) (s : ByteArray) (w : World) (h : IsB B b bs w) (hlen : bs.length + s.size ≤ 140737488355328) (hBw : B ≤ w.heap.size) :
    Calls Tryd.prog 65 #[.pointer (some ⟨b,0,none⟩),.string s] w fun e w' => e = .returned (.tuple #[.int .i64 s.size,.nilIface]) ∧ (IsB B b (bs ++ Lib.strCells s) w' ∧ Below B w w' ∧ Lib.OthersKept 5 (some b) w w'):=by
  obtain ⟨i0,hi,hz0,hz1,hz2⟩:=info_parts Tryd.infoU8
  have g1:=Lib.hid (ccheck_any B b bs w h)
  have Hi:=Lib.hid hi;clear hi h
  go_enter Tryd.func65,Tryd.ntmps65
  go_wp2_with fail
  (with_reducible refine g1.out.mono ?_)
  rintro e w1 ⟨rfl,h1,hb1,hk1⟩
  obtain ⟨hB,v,hbk,hown,hne⟩:=h1
  have c0 : w1.cell? ⟨b,0,none⟩ = some (.pointer (some ⟨b,0,none⟩)):=by rw [Lib.cell_of_heap hbk];rfl
  have c1 : w1.cell? ⟨b,1,none⟩ = some v:=by rw [Lib.cell_of_heap hbk];rfl
  go_wp2_with (at_builtin;refine Lib.wpList_append_own_stringF _ rfl _ _ 41 9 rfl B 5 i0 Tryd.underlying41 Tryd.underlying9 Hi.out hz0 hz1 hz2 _ _ _ rfl hown s rfl ?c3 ?c4 ?c5 ?_)
  case c3 => unfold maxLen;omega
  case c4 => omega
  case c5 => have:=hb1.size;omega
  intro v' w2 hown' hgrow _
  have hlt : b < w1.heap.size:=by
    rcases Nat.lt_or_ge b w1.heap.size with h'|h'
    · exact h'
    · simp [Array.getElem?_eq_none h'] at hbk
  have hb2 : w2.heap[b]? = some (.cells #[.pointer (some ⟨b,0,none⟩),v] 105 (0,0)):=by
    rw [hgrow.block b hlt (fun e => hne e.symm)]
    exact hbk
  have d0 : w2.cell? ⟨b,0,none⟩ = some (.pointer (some ⟨b,0,none⟩)):=by rw [Lib.cell_of_heap hb2];rfl
  have d1 : w2.cell? ⟨b,1,none⟩ = some v:=by rw [Lib.cell_of_heap hb2];rfl
  have f1 : w2.frozen? ⟨b,1,none⟩ = false:=Lib.frozen_of_heap hb2 1
  obtain ⟨ao,n',cap,rfl⟩ : ∃ ao n' cap,v' = .slice ao n' cap:=by
    rcases hown'.2 with ⟨hv,_⟩|⟨g,cap,cur,fz,hv,_⟩
    · exact ⟨_,_,_,hv⟩
    · exact ⟨_,_,_,hv⟩
  go_wp2
  go_ret2
  refine ⟨rfl,.inr ?_,?_,(hk1.grown hgrow (Lib.ownsRowF_kind hown)).setCell ⟨b,1,none⟩ rfl _⟩
  · exact Lib.BuilderAtF.put (T:=105) (e:=5) hB hb2 (bs':=bs ++ Lib.strCells s) (by simpa [Lib.strCells_length] using hown') (by decide)
  · exact (hb1.grown hgrow (by have:=hb1.size;omega) (fun k hk => (hown.lt k hk).1)).setCell (p:=⟨b,1,none⟩) hB _
set_option maxHeartbeats 2000000 in
set_option maxRecDepth 100000 in
theorem wbyte_any (B b : Nat) (bs : List Value) (c : Int) (w : World) (h : IsB B b bs w) (hlen : bs.length + 1 ≤ 140737488355328) (hBw : B ≤ w.heap.size) :
    Calls Tryd.prog 63 #[.pointer (some ⟨b,0,none⟩),.int .u8 c] w fun e w' => e = .returned .nilIface ∧ (IsB B b (bs ++ [.int .u8 c]) w' ∧ Below B w w' ∧ Lib.OthersKept 5 (some b) w w'):=by
  obtain ⟨i0,hi,hz0,hz1,hz2⟩:=info_parts Tryd.infoU8
  have g1:=Lib.hid (ccheck_any B b bs w h)
  clear h
  go_enter Tryd.func63,Tryd.ntmps63
  go_wp2_with fail
  (with_reducible refine g1.out.mono ?_)
  rintro e w1 ⟨rfl,h1,hb1,hk1⟩
  obtain ⟨hB,v,hbk,hown,hne⟩:=h1
  have c0 : w1.cell? ⟨b,0,none⟩ = some (.pointer (some ⟨b,0,none⟩)):=by rw [Lib.cell_of_heap hbk];rfl
  have c1 : w1.cell? ⟨b,1,none⟩ = some v:=by rw [Lib.cell_of_heap hbk];rfl
  go_wp2_with (at_builtin;refine wpList_append_ownF _ rfl _ _ 41 rfl B 5 i0 (.int .u8 0) 1 1 Tryd.underlying41 hi hz0 hz1 hz2 rfl (by decide) _ _ _ rfl (hown.alloc _) ⟨w1.heap.size,0,none⟩ 1 1 [.int .u8 c] rfl rfl ?c1 ?c2 ?c3 ?c4 ?c5 ?_)
  case c1 =>
    intro j u hj
    match j,hj with
    | 0,hj => simp at hj;subst hj;simp [Addr.add]
  case c2 => intro u hu;simp at hu;subst hu;rfl
  case c3 => unfold maxLen;omega
  case c4 => omega
  case c5 => have:=hb1.size;simp;omega
  intro v' w2 hown' hgrow _
  have hlt : b < w1.heap.size:=by
    rcases Nat.lt_or_ge b w1.heap.size with h'|h'
    · exact h'
    · simp [Array.getElem?_eq_none h'] at hbk
  have hb2 : w2.heap[b]? = some (.cells #[.pointer (some ⟨b,0,none⟩),v] 105 (0,0)):=by
    rw [hgrow.block b (by simp;omega) (fun e => hne e.symm),Lib.alloc_old w1 _ b hlt]
    exact hbk
  have d0 : w2.cell? ⟨b,0,none⟩ = some (.pointer (some ⟨b,0,none⟩)):=by rw [Lib.cell_of_heap hb2];rfl
  have d1 : w2.cell? ⟨b,1,none⟩ = some v:=by rw [Lib.cell_of_heap hb2];rfl
  have f1 : w2.frozen? ⟨b,1,none⟩ = false:=Lib.frozen_of_heap hb2 1
  obtain ⟨g,cap,rfl⟩ : ∃ g cap,v' = .slice (some ⟨g,0,none⟩) (bs.length + 1) cap:=by
    rcases hown'.2 with ⟨_,h0⟩|⟨g,cap,cur,fz,hv,_⟩
    · omega
    · exact ⟨g,cap,hv⟩
  go_wp2
  go_ret
  refine ⟨rfl,.inr ?_,?_,((hk1.alloc _).grown hgrow (Lib.ownsRowF_kind (hown.alloc _))).setCell ⟨b,1,none⟩ rfl _⟩
  · exact Lib.BuilderAtF.put (T:=105) (e:=5) hB hb2 (bs':=bs ++ [.int .u8 c]) (by simpa using hown') (by decide)
  · exact ((hb1.alloc (by have:=hb1.size;omega) _).grown hgrow (by have:=hb1.size;simp;omega) (fun k hk => (hown.lt k hk).1)).setCell (p:=⟨b,1,none⟩) hB _
end Go.Proofs.YtaiofjffoboicaaDoor
namespace Go.Proofs.YtaiofjffoboicaaDoor
open Go.RowKit
theorem ownF_below {B : Nat} {e : TypeId} {v : Value} {n : Nat} {xs : List Value} {w w' : World} (h : w.ownsRowF B e 1 v n xs) (hb : Below w.heap.size w w') : w'.ownsRowF B e 1 v n xs:=by
  obtain ⟨h1,h2⟩:=h
  refine ⟨h1,?_⟩
  rcases h2 with h2|⟨g,cap,cur,fz,hv,hB,hg,rest⟩
  · exact .inl h2
  · refine .inr ⟨g,cap,cur,fz,hv,hB,?_,rest⟩
    rw [hb.block g (Array.getElem?_eq_some_iff.1 hg).1]
    exact hg
theorem IsB.below {B b : Nat} {bs : List Value} {w w' : World} (h : IsB B b bs w) (hb : Below w.heap.size w w') : IsB B b bs w':=by
  have hlt : b < w.heap.size:=h.elim (fun x => x.lt) (fun x => x.lt)
  have he:=hb.block b hlt
  rcases h with h|h
  · obtain ⟨hB,v,hbk,hown,hne⟩:=h
    exact .inl ⟨hB,v,he.trans hbk,ownF_below hown hb,hne⟩
  · obtain ⟨hB,v,hbk,hown,hne⟩:=h
    exact .inr ⟨hB,v,he.trans hbk,ownF_below hown hb,hne⟩
theorem IsB.le {B b : Nat} {bs : List Value} {w : World} (h : IsB B b bs w) : B ≤ w.heap.size:=by
  rcases h with h|h
  · have:=h.lt;have:=h.1;omega
  · have:=h.lt;have:=h.1;omega
def putsN (xs : List Nat) : List UInt8:=(xs.map putN).flatten
theorem putsN_take (xs : List Nat) (k : Nat) (h : k < xs.length) : putsN (xs.take (k + 1)) = putsN (xs.take k) ++ putN xs[k]:=by
  unfold putsN
  rw [← List.take_append_getElem h,List.map_append,List.flatten_append]
  simp
theorem putsN_len (xs : List Nat) (hx : ∀ x ∈ xs,x ≤ 18446744073709551615) : (putsN xs).length ≤ 10 * xs.length:=by
  induction xs with
  | nil => simp [putsN]
  | cons x l ih =>
    have h1:=ih (fun y hy => hx y (by simp [hy]))
    have h2:=putN_length10 x (by have:=hx x (by simp);omega)
    simp [putsN] at h1 ⊢
    omega
set_option maxRecDepth 100000 in
set_option maxHeartbeats 1600000 in
theorem put_any (B b r cap : Nat) (bs : List Value) (xs : List Nat) (cs : Array Value) (fz : Nat × Nat) (w : World) (h : IsB B b bs w) (hlen : bs.length ≤ 100000) (hx : ∀ x ∈ xs,x ≤ 18446744073709551615) (hl : xs.length ≤ 4)
    (hr : w.heap[r]? = some (.cells cs 23 fz)) (hrb : r ≠ b) (hc : ∀ k (h : k < xs.length),cs[k]? = some (.int .u64 (xs[k] : Nat))) :
    Calls Tryd.prog 64 #[.slice (some ⟨r,0,none⟩) xs.length cap,.pointer (some ⟨b,0,none⟩)] w fun e w' => e = .returned (.tuple #[]) ∧ (IsB B b (bs ++ Lib.byteCells (putsN xs)) w' ∧ Below B w w'):=by
  have Hc:=Lib.hid hc;clear hc
  have Hx:=Lib.hid hx;clear hx
  go_enter Tryd.func64,Tryd.ntmps64
  go_wp2
  go_loopw [7] (fun i wr => ∃ k : Nat,i = .int .i64 k ∧ k ≤ xs.length ∧ IsB B b (bs ++ Lib.byteCells (putsN (xs.take k))) wr ∧ wr.heap[r]? = some (.cells cs 23 fz) ∧ Below B w wr) (fun i _ => xs.length - (intOf i).toNat)
  case atStart => exact ⟨0,rfl,by omega,by simpa [putsN,Lib.byteCells] using h,hr,Below.refl _ _⟩
  case round =>
    obtain ⟨k,rfl,hk,hB,hR,hbw⟩:=hrel
    by_cases hlt : k < xs.length
    · have y0:=Hc.out k hlt
      have yb:=Hx.out xs[k] (List.getElem_mem hlt)
      have z0 : wr.cell? ⟨r,k,none⟩ = some (.int .u64 (xs[k] : Nat)):=by rw [Lib.cell_of_heap hR];exact y0
      have hpt:=putsN_take xs k hlt
      have hpl:=putsN_len (xs.take k) (fun y hy => Hx.out y (List.mem_of_mem_take hy))
      obtain ⟨V,hV⟩ : ∃ V,xs[k] = V:=⟨_,rfl⟩
      rw [hV] at z0 yb hpt
      clear y0 hV
      have hVl:=putN_length10 V (by omega)
      rw [List.length_take] at hpl
      have Hpt:=Lib.hid hpt;clear hpt
      have g:=Lib.hid (numPut_any V (by omega) wr)
      have HB:=Lib.hid hB;clear hB
      have HH:=Lib.hid h;clear h
      go_wp2_with fail
      (with_reducible refine g.out.mono ?_)
      rintro e w1 ⟨rfl,hb1⟩
      have hR1 : w1.heap[r]? = some (.cells cs 23 fz):=(hb1.block r (Array.getElem?_eq_some_iff.1 hR).1).trans hR
      have hle:=HB.out.le
      have g2:=Lib.hid (wstring_any B b _ ⟨(putN V).toArray⟩ w1 (HB.out.below hb1) (by rw [List.length_append,Lib.byteCells_length];simp [ByteArray.size];omega) (by have:=hb1.size;omega))
      clear hpl hVl
      unfold bstr
      go_wp2_with fail
      (with_reducible refine g2.out.mono ?_)
      rintro e w2 ⟨rfl,hB2,hbb,hk2⟩
      have hR2 : w2.heap[r]? = some (.cells cs 23 fz):=hk2 r _ hR1 (by simpa using hrb) (fun c f h => by simp at h)
      have HB2:=Lib.hid hB2;clear hB2
      go_wp2
      go_roundw
      case rel =>
        refine ⟨k + 1,by go_num,by omega,?_,hR2,(hbw.trans (hb1.mono hle)).trans hbb⟩
        have:=HB2.out
        rw [Hpt.out,Lib.byteCells_append,← List.append_assoc]
        exact this
      case measure => simp [intOf];omega
    · obtain rfl : k = xs.length:=by omega
      rw [List.take_of_length_le (by simp)] at hB
      have HB:=Lib.hid hB;clear hB
      have HH:=Lib.hid h;clear h
      go_wp2
      go_end0
      exact ⟨rfl,HB.out,hbw⟩
theorem blk_belowB {B b : Nat} {c : Array Value} {w w' : World} (hb : Below B w w') (hlt : b < B) (h : blk w b = some c) : blk w' b = some c:=(blk_kept (hb.block b hlt)).trans h
def putsI (xs : List Int) : List UInt8:=putsN (xs.map Int.toNat)
theorem puti_any (B b r cap : Nat) (bs : List Value) (xs : List Int) (cs : Array Value) (fz : Nat × Nat) (w : World) (h : IsB B b bs w) (hlen : bs.length ≤ 100000) (hx : ∀ x ∈ xs,0 ≤ x ∧ x ≤ 18446744073709551615) (hl : xs.length ≤ 4)
    (hr : w.heap[r]? = some (.cells cs 23 fz)) (hrb : r ≠ b) (hc : cs = (xs.map (Value.int .u64 ·)).toArray) :
    Calls Tryd.prog 64 #[.slice (some ⟨r,0,none⟩) xs.length cap,.pointer (some ⟨b,0,none⟩)] w fun e w' => e = .returned (.tuple #[]) ∧ (IsB B b (bs ++ Lib.byteCells (putsI xs)) w' ∧ Below B w w'):=by
  subst hc
  have:=put_any B b r cap bs (xs.map Int.toNat) _ fz w h hlen (fun x hm => by
    obtain ⟨y,hy,rfl⟩:=List.mem_map.1 hm
    have:=hx y hy
    omega) (by simpa using hl) hr hrb (fun k hk => by
    have hk' : k < xs.length:=by simpa using hk
    have h0:=(hx xs[k] (List.getElem_mem hk')).1
    simp [hk',Int.toNat_of_nonneg h0])
  simpa [putsI] using this
theorem puti1 (B b r : Nat) (bs : List Value) (x0 : Int) (fz : Nat × Nat) (w : World) (h : IsB B b bs w) (hlen : bs.length ≤ 100000) (h0 : 0 ≤ x0 ∧ x0 ≤ 18446744073709551615) (hrb : r ≠ b)
    (hr : w.heap[r]? = some (.cells #[.int .u64 x0] 23 fz)) :
    Calls Tryd.prog 64 #[.slice (some ⟨r,0,none⟩) 1 1,.pointer (some ⟨b,0,none⟩)] w fun e w' => e = .returned (.tuple #[]) ∧ (IsB B b (bs ++ Lib.byteCells (putsI [x0])) w' ∧ Below B w w') :=
  puti_any B b r 1 bs [x0] _ fz w h hlen (by simpa using h0) (by simp) hr hrb rfl
theorem puti3 (B b r : Nat) (bs : List Value) (x0 x1 x2 : Int) (fz : Nat × Nat) (w : World) (h : IsB B b bs w) (hlen : bs.length ≤ 100000) (h0 : 0 ≤ x0 ∧ x0 ≤ 18446744073709551615) (h1 : 0 ≤ x1 ∧ x1 ≤ 18446744073709551615) (h2 : 0 ≤ x2 ∧ x2 ≤ 18446744073709551615) (hrb : r ≠ b)
    (hr : w.heap[r]? = some (.cells #[.int .u64 x0,.int .u64 x1,.int .u64 x2] 23 fz)) :
    Calls Tryd.prog 64 #[.slice (some ⟨r,0,none⟩) 3 3,.pointer (some ⟨b,0,none⟩)] w fun e w' => e = .returned (.tuple #[]) ∧ (IsB B b (bs ++ Lib.byteCells (putsI [x0,x1,x2])) w' ∧ Below B w w') :=
  puti_any B b r 3 bs [x0,x1,x2] _ fz w h hlen (by simp;omega) (by simp) hr hrb rfl
theorem puti4 (B b r : Nat) (bs : List Value) (x0 x1 x2 x3 : Int) (fz : Nat × Nat) (w : World) (h : IsB B b bs w) (hlen : bs.length ≤ 100000) (h0 : 0 ≤ x0 ∧ x0 ≤ 18446744073709551615) (h1 : 0 ≤ x1 ∧ x1 ≤ 18446744073709551615) (h2 : 0 ≤ x2 ∧ x2 ≤ 18446744073709551615) (h3 : 0 ≤ x3 ∧ x3 ≤ 18446744073709551615) (hrb : r ≠ b)
    (hr : w.heap[r]? = some (.cells #[.int .u64 x0,.int .u64 x1,.int .u64 x2,.int .u64 x3] 23 fz)) :
    Calls Tryd.prog 64 #[.slice (some ⟨r,0,none⟩) 4 4,.pointer (some ⟨b,0,none⟩)] w fun e w' => e = .returned (.tuple #[]) ∧ (IsB B b (bs ++ Lib.byteCells (putsI [x0,x1,x2,x3])) w' ∧ Below B w w') :=
  puti_any B b r 4 bs [x0,x1,x2,x3] _ fz w h hlen (by simp;omega) (by simp) hr hrb rfl
theorem kcell (k : Int) (h : 1 ≤ k ∧ k ≤ 7) : [Value.int .u8 k] = Lib.byteCells [UInt8.ofNat k.toNat]:=by
  have h' : k = 1 ∨ k = 2 ∨ k = 3 ∨ k = 4 ∨ k = 5 ∨ k = 6 ∨ k = 7:=by omega
  rcases h' with rfl|rfl|rfl|rfl|rfl|rfl|rfl <;> rfl
end Go.Proofs.YtaiofjffoboicaaDoor
namespace Go.Proofs.YtaiofjffoboicaaDoor
open Go.RowKit
theorem putsI_le (xs : List Int) : (putsI xs).length ≤ 11 * xs.length:=by
  induction xs with
  | nil => simp [putsI,putsN]
  | cons x l ih =>
    have h2:=(putN_length x.toNat).2
    simp [putsI,putsN] at ih ⊢
    omega
theorem id_rng {no sq of : Int} (h : okI no sq of) : 0 ≤ no ∧ no ≤ 16 ∧ sq ≤ 18446744073709551615 ∧ 0 ≤ of ∧ of ≤ 19999:=by
  unfold okI at h
  omega
theorem bnL_le (f : Fr) (hk : f.k = 3) (hC : frC f = 0) : (bnL f).length ≤ 1180 ∧ (putTextN (bnL f)).length ≤ 1180:=by
  have h:=(bodyF_len f hC).2
  unfold bodyF at h
  rw [if_pos hk] at h
  simp only [List.length_cons,List.length_append] at h
  have h2 : (bnL f).length ≤ (putTextN (bnL f)).length:=by simp [putTextN]
  omega
theorem encode_fr (f : Fr) (hk : f.k = 3) (hC : frC f = 0) (hn : NN f) (w : World) (hH : HTab w) (hT : STab w) :
    Calls Tryd.prog 67 #[buv f.bno f.bsq f.bof f.bde f.bpr f.bbo f.bli f.bto f.da] w fun e w' => e = .returned (.tuple #[bstr (bnL f),.int .i64 0]) ∧ Below w.heap.size w w':=by
  obtain ⟨_,_,hb,_⟩:=frC_ok hC
  have hv : bnF f = 0:=by unfold bcF at hb;rwa [if_pos hk] at hb
  obtain ⟨no,sq,of,de,pr,bo,li,tt,h1,h2,h3,h4,h5,h6,h7,h8⟩:=bnF_nat hv hn
  unfold bnF at hv
  unfold bnL
  rw [h1,h2,h3,h4,h5,h6,h7,h8] at hv ⊢
  simp only [Int.toNat_natCast]
  exact encode_ok no sq of de pr bo li tt f.da hv w hH hT
end Go.Proofs.YtaiofjffoboicaaDoor
