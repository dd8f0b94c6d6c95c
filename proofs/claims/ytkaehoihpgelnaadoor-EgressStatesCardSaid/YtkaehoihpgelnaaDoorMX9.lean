/- Parts of a proof, printed by a program of mine out of my texts: more of Open, SRow, SoIns, SOwn, SoOwn, SoEq, SoMap, Slice, EgNew, EgFn. -/
import Derived.ChangeShapes
import Derived.Deep.Cut
import Derived.Deep.Fields
import Derived.Deep.MidRow
import Derived.Deep.OwnRows
import Derived.Deep.RegionHeld
import Derived.Great.Walk
import Derived.Laws.AppendOwn
import Derived.Laws.AppendOwnNone
import Derived.Maps.OwnOps
import Derived.OpenShut
import Derived.OrdersHeld
import Derived.OwnWalk
import Derived.WideShapes
import Derived.Test.YtkaehoihpgelnaaDoorMA
import Derived.Test.YtkaehoihpgelnaaDoorMF
import Derived.Test.YtkaehoihpgelnaaDoorMN
import Derived.Test.YtkaehoihpgelnaaDoorMU
import Derived.Test.YtkaehoihpgelnaaDoorMW
set_option linter.unusedSimpArgs false
set_option linter.unusedVariables false
namespace Go.Proofs.YtkaehoihpgelnaaDoor
open Go.RowKit
abbrev CellKind := Option (Option IntKind)
def CellIs : CellKind → Value → Prop
  | some (some k), v => ∃ n : Int, v = .int k n ∧ (Lit.int k n).wf = true
  | some none, v => ∃ s : ByteArray, v = .string s ∧ s.size ≤ maxLen
  | none, v => ∃ b : Bool, v = .bool b
def CellsAre : List CellKind → List Value → Prop
  | [], [] => True
  | k :: ks, c :: cs => CellIs k c ∧ CellsAre ks cs
  | _, _ => False
theorem CellsAre.cons {k : CellKind} {ks : List CellKind} {cs : List Value} (h : CellsAre (k :: ks) cs) : ∃ c cs', cs = c :: cs' ∧ CellIs k c ∧ CellsAre ks cs' := by
  match cs, h with
  | c :: cs', h => exact ⟨c, cs', rfl, h.1, h.2⟩
theorem CellsAre.nil {cs : List Value} (h : CellsAre [] cs) : cs = [] := by
  match cs, h with
  | [], _ => rfl
theorem CellsAre.append : ∀ {ks ks' : List CellKind} {cs cs' : List Value}, CellsAre ks cs → CellsAre ks' cs' → CellsAre (ks ++ ks') (cs ++ cs')
  | [], _, [], _, _, h => h
  | k :: ks, _, c :: cs, _, h, h' => ⟨h.1, CellsAre.append h.2 h'⟩
theorem CellsAre.length : ∀ {ks : List CellKind} {cs : List Value}, CellsAre ks cs → cs.length = ks.length
  | [], [], _ => rfl
  | k :: ks, c :: cs, h => by simp [CellsAre.length h.2]
def flatParts (g : TypeId → Option (List CellKind)) : List (Nat × TypeId) → Nat → Option (List CellKind)
  | [], _ => some []
  | (off, t) :: l, o => if off = o then (g t).bind fun ks => (flatParts g l (o + ks.length)).bind fun rest => some (ks ++ rest) else none
def flat (P : Program) : Nat → TypeId → Option (List CellKind)
  | 0, _ => none
  | n + 1, t => match P.underlying t with
    | some (.int k) => some [some (some k)]
    | some .string => some [some none]
    | some .bool => some [none]
    | some (.struct fs) => (flatParts (fun u => (flat P n u).bind fun ks => if ks.length = P.cellsOf u then some ks else none) (fs.toList.map fun f => (f.offset, f.type)) 0).bind fun ks => if ks.length = P.cellsOf t then some ks else none
    | some (.array m e) => (flatParts (fun u => (flat P n u).bind fun ks => if ks.length = P.cellsOf u then some ks else none) ((List.range m).map fun i => (i * P.cellsOf e, e)) 0).bind fun ks => if ks.length = P.cellsOf t then some ks else none
    | _ => none
section
open Go.ChangeShapes Go.WideShapes Go.Deep
variable {H : Type} {enc : TypeId × Value → H} {P : Program} {w : World} {base : Nat} {spare : Nat → Bool} {held : Bool}
theorem parts_are {g : TypeId → Option (List CellKind)} {cs : List Value} : ∀ (l : List (Nat × TypeId)) (o : Nat) (ks : List CellKind), flatParts g l o = some ks → o + ks.length = cs.length →
    (∀ p ∈ l, ∀ ks', g p.2 = some ks' → CellsAre ks' ((cs.drop p.1).take ks'.length)) → CellsAre ks (cs.drop o)
  | [], o, ks, h, hl, _ => by
    simp [flatParts] at h; subst h
    have : cs.drop o = [] := by simp at hl ⊢; omega
    rw [this]; trivial
  | (off, t) :: l, o, ks, h, hl, hp => by
    unfold flatParts at h
    split at h
    · rename_i ho; subst ho
      cases hg : g t with
      | none => rw [hg] at h; simp at h
      | some k1 =>
        rw [hg] at h
        simp only [Option.bind_some] at h
        cases hf : flatParts g l (off + k1.length) with
        | none => rw [hf] at h; simp at h
        | some k2 =>
          rw [hf] at h
          simp at h
          subst h
          have h1 := hp (off, t) (by simp) k1 hg
          have h2 := parts_are (cs := cs) l (off + k1.length) k2 hf (by simp at hl; omega) fun p hp' => hp p (by simp [hp'])
          have h3 := h1.append h2
          have : (cs.drop off).take k1.length ++ cs.drop (off + k1.length) = cs.drop off := by
            rw [← List.drop_drop]; exact List.take_append_drop _ _
          rwa [this] at h3
    · simp at h
theorem flat_are : ∀ (n : Nat) (t : TypeId) (ks : List CellKind) (fuel : Nat) (cs : List Value) (x : DataW H × List MemPlace), flat P n t = some ks → DataW.trod enc P w base spare held fuel t cs = some x → CellsAre ks cs
  | 0, _, _, _, _, _, h, _ => by simp [flat] at h
  | n + 1, t, ks, fuel, cs, x, h, ht => by
    unfold flat at h
    split at h
    · rename_i k hu
      obtain ⟨m, h1, _, h3⟩ := DataW.trod_int hu ht
      simp at h; subst h; subst h1
      exact ⟨⟨m, rfl, h3⟩, trivial⟩
    · rename_i hu
      obtain ⟨s, h1, _, h3⟩ := DataW.trod_string hu ht
      simp at h; subst h; subst h1
      exact ⟨⟨s, rfl, h3⟩, trivial⟩
    · rename_i hu
      obtain ⟨b, h1, _⟩ := DataW.trod_bool hu ht
      simp at h; subst h; subst h1
      exact ⟨⟨b, rfl⟩, trivial⟩
    · rename_i fs hu
      obtain ⟨xs, m, _, _, hlen, hxs, hg⟩ := DataW.trod_struct hu ht
      cases hf : flatParts (fun u => (flat P n u).bind fun ks => if ks.length = P.cellsOf u then some ks else none) (fs.toList.map fun f => (f.offset, f.type)) 0 with
      | none => rw [hf] at h; simp at h
      | some k1 =>
        rw [hf] at h
        simp only [Option.bind_some] at h
        split at h
        · rename_i hk
          simp at h; subst h
          have := parts_are (cs := cs) _ 0 k1 hf (by omega) fun p hp ks' hks => by
            obtain ⟨f, hfm, rfl⟩ := List.mem_map.1 hp
            obtain ⟨i, hi, hfi⟩ := List.getElem_of_mem hfm
            have hi' : i < fs.size := by simpa using hi
            have hg' := hg i f (by rw [Array.getElem?_eq_getElem hi']; simpa using hfi)
            rw [List.getElem?_eq_getElem (by omega)] at hg'
            cases hfl : flat P n f.type with
            | none => simp [hfl] at hks
            | some k2 =>
              simp only [hfl, Option.bind_some] at hks
              split at hks
              · rename_i hc
                simp at hks; subst hks
                rw [← hc] at hg'
                exact flat_are n f.type k2 _ _ _ hfl hg'
              · simp at hks
          simpa using this
        · simp at h
    · rename_i mm e hu
      obtain ⟨xs, m, _, _, hlen, hxs, hg⟩ := DataW.trod_array hu ht
      cases hf : flatParts (fun u => (flat P n u).bind fun ks => if ks.length = P.cellsOf u then some ks else none) ((List.range mm).map fun i => (i * P.cellsOf e, e)) 0 with
      | none => rw [hf] at h; simp at h
      | some k1 =>
        rw [hf] at h
        simp only [Option.bind_some] at h
        split at h
        · rename_i hk
          simp at h; subst h
          have := parts_are (cs := cs) _ 0 k1 hf (by omega) fun p hp ks' hks => by
            obtain ⟨i, hi, rfl⟩ := List.mem_map.1 hp
            have hi' : i < mm := by simpa using hi
            have hg' := hg i hi'
            rw [List.getElem?_eq_getElem (by omega)] at hg'
            dsimp only at hks ⊢
            cases hfl : flat P n e with
            | none => simp [hfl] at hks
            | some k2 =>
              simp only [hfl, Option.bind_some] at hks
              split at hks
              · rename_i hc
                simp at hks; subst hks
                rw [← hc] at hg'
                rw [← hc]
                exact flat_are n e k2 _ _ _ hfl hg'
              · simp at hks
          simpa using this
        · simp at h
    · simp at h
theorem open_flat {r : Reach} {b0 : Nat} {t : TypeId} {fs : Array Field} {v : Value} {d : DataW H} {p : List MemPlace} {ks : List CellKind} (n : Nat) (hs : P.underlying t = some (.struct fs)) (hks : flat P n t = some ks)
    (hv : Value.okWide P w r b0 t v) (h : DataW.Trod enc P w base spare held t v d p) : ∃ cs : List Value, v = .agg cs.toArray ∧ CellsAre ks cs := by
  obtain ⟨cs, rfl, hsz⟩ := okWide_struct hs hv
  obtain ⟨fuel, hf⟩ := h
  exact ⟨cs.toList, by simp, flat_are n t ks fuel _ _ hks hf⟩
end
end Go.Proofs.YtkaehoihpgelnaaDoor
namespace Go.Proofs.YtkaehoihpgelnaaDoor
open Go.RowKit
section
variable {α : Type} {enc : α → List Value} {k : Nat}
theorem rowC_cell (hk : ∀ x, (enc x).length = k) (l : List α) (i j : Nat) (hi : i < l.length) (hj : j < k) (rest : List Value) : (rowC enc l ++ rest)[i * k + j]? = (enc l[i])[j]? := by
  have h := rowC_at hk l i hi rest
  have h2 := congrArg (fun z => z[j]?) h
  rw [List.getElem?_take_of_lt (by rw [hk]; exact hj), List.getElem?_drop] at h2
  exact h2
end
section
variable {α : Type} {enc : α → List Value} {k : Nat}
end
section
variable {P : Program} {ops : Array Oper} {rest : List Oper} {o : Oper} {a : Act} {w : World}
variable {α : Type} {enc : α → List Value}
end
section
variable {P : Program} {ops : Array Oper} {rest : List Oper} {o : Oper} {a : Act} {w : World}
end
end Go.Proofs.YtkaehoihpgelnaaDoor
namespace Go.Proofs.YtkaehoihpgelnaaDoor
open Go.RowKit
theorem bn_one (b : Bn) : ∀ u ∈ bn b, u.oneCell' = true := by
  intro u hu
  simp only [bn, List.mem_cons, List.not_mem_nil, or_false] at hu
  rcases hu with rfl | rfl | rfl | rfl | rfl | rfl | rfl | rfl | rfl <;> rfl
end Go.Proofs.YtkaehoihpgelnaaDoor
namespace Go.Proofs.YtkaehoihpgelnaaDoor
open Go.RowKit
theorem owns_setCell {w : World} {base : Nat} {e : TypeId} {size g cap n : Nat} {xs : List Value} (h : w.ownsRow base e size (.slice (some ⟨g, 0, none⟩) n cap) n xs) {j : Nat} (hj : j < n * size) (u : Value) :
    (w.setCell ⟨g, j, none⟩ u).ownsRow base e size (.slice (some ⟨g, 0, none⟩) n cap) n (xs.set j u) := by
  obtain ⟨h1, h2⟩ := h
  refine ⟨by simpa using h1, ?_⟩
  rcases h2 with ⟨h2, _⟩ | ⟨g', cap', cur, h3, h4, h5, h6, h7, h8, h9⟩
  · cases h2
  · simp only [Value.slice.injEq, Option.some.injEq, Addr.mk.injEq] at h3
    obtain ⟨⟨rfl, _⟩, _, rfl⟩ := h3
    refine .inr ⟨g, cap, cur.setIfInBounds j u, rfl, h4, ?_, h6, h7, by simpa using h8, ?_⟩
    · obtain ⟨hlt, hk⟩ := Array.getElem?_eq_some_iff.1 h5
      show (w.heap.modify g _)[g]? = _
      rw [Array.getElem?_eq_getElem (by rw [Array.size_modify]; exact hlt), Array.getElem_modify_self, hk]
      rfl
    · rw [← h9, Array.toList_setIfInBounds, List.take_set]
section
variable {α : Type} {enc : α → List Value} {k : Nat}
variable {P : Program} {ops : Array Oper} {rest : List Oper} {o : Oper} {a : Act} {w : World}
end
end Go.Proofs.YtkaehoihpgelnaaDoor
namespace Go.Proofs.YtkaehoihpgelnaaDoor
open Go.RowKit
theorem infoBu : (Tryd.prog.info? 38).map (fun i => (i.zero, i.size, i.bytes)) = some (some (.agg #[.int .i64 0, .int .u64 0, .int .i64 0, .int .i64 0, .int .i64 0, .int .i64 0, .int .i64 0, .int .i64 0, .string ⟨#[]⟩]), 9, 80) := by kernel_rfl
theorem rowC_one_cell (l : List Bn) : ∀ u ∈ rowC bn l, u.oneCell' = true := by
  intro u hu
  simp only [rowC, List.mem_flatMap] at hu
  obtain ⟨x, _, hx⟩ := hu
  exact bn_one x u hx
theorem srow_cells {w : World} {a : Option Addr} {cap : Nat} {l : List Bn} (h : SRow bn 9 w a cap l) (h0 : 0 < l.length) : ∃ b off, a = some ⟨b, off, none⟩ ∧ b < w.heap.size ∧ ∀ j u, (rowC bn l)[j]? = some u → w.cell? ⟨b, off + j, none⟩ = some u := by
  obtain ⟨b, off, e, hlt, hc⟩ := h.2.2.2 h0
  refine ⟨b, off, e, hlt, fun j u hj => ?_⟩
  have hjl : j < l.length * 9 := by
    have := (List.getElem?_eq_some_iff.1 hj).1
    rwa [rowC_length bn_len] at this
  have hi : j / 9 < l.length := by omega
  have h2 := rowC_cell bn_len l (j / 9) (j % 9) hi (by omega) []
  rw [List.append_nil, show j / 9 * 9 + j % 9 = j by omega, hj] at h2
  have := hc (j / 9) hi (j % 9) u h2.symm
  rwa [show off + j / 9 * 9 + j % 9 = off + j by omega] at this
theorem own_empty9 (w : World) (e : TypeId) : (w.alloc (.cells #[] e)).ownsRow w.heap.size e 9 (.slice (some ⟨w.heap.size, 0, none⟩) 0 0) 0 [] :=
  ⟨rfl, .inr ⟨w.heap.size, 0, #[], rfl, Nat.le_refl _, heap_alloc_new w _, Nat.le_refl _, by unfold maxLen; omega, rfl, rfl⟩⟩
set_option maxRecDepth 100000 in
set_option maxHeartbeats 1600000 in
theorem ownB_any (a : Option Addr) (cap : Nat) (l : List Bn) (hl : l.length ≤ 1000) (h0 : 0 < l.length) (w : World) (hrow : SRow bn 9 w a cap l) :
    Calls Tryd.prog 18 #[.slice a l.length cap] w fun e w' => ∃ v, e = .returned v ∧ w'.ownsRow w.heap.size 38 9 v l.length (rowC bn l) ∧ Below w.heap.size w w' := by
  obtain ⟨b, off, rfl, hlt, hc⟩ := srow_cells hrow h0
  obtain ⟨i0, hi, hz0, hz1, hz2⟩ := info_parts infoBu
  have Hi := Lib.hid hi; have Hz0 := Lib.hid hz0; have Hz1 := Lib.hid hz1; have Hz2 := Lib.hid hz2
  have HC := Lib.hid hc
  clear hi hz0 hz1 hz2 hc hrow
  go_enter Tryd.func18, Tryd.ntmps18
  go_wp2_with (at_builtin; refine wpList_append_own _ rfl _ _ 23 rfl w.heap.size 38 i0 (.agg #[.int .i64 0, .int .u64 0, .int .i64 0, .int .i64 0, .int .i64 0, .int .i64 0, .int .i64 0, .int .i64 0, .string ⟨#[]⟩]) 9 80 Tryd.underlying23 Hi.out Hz0.out Hz1.out Hz2.out rfl (by decide) _ 0 [] rfl (own_empty9 w _) ⟨b, off, none⟩ l.length cap (rowC bn l) rfl (rowC_length bn_len l) (fun j u hj => (by rw [Addr.add_mid, ((Below.refl w.heap.size w).alloc (Nat.le_refl _) _).cell (p := ⟨b, off + j, none⟩) hlt]; exact HC.out j u hj)) (rowC_one_cell l) (by unfold maxLen; omega) (by omega) (by simp) ?_; intro v' wb hown2 hgrow2 _)
  go_ret
  refine ⟨_, rfl, ?_, ?_⟩
  · simpa using hown2
  · exact ((Below.refl _ _).alloc (Nat.le_refl _) _).grown hgrow2 (by simp) (fun k e => (own_empty9 w 38).lt k e |>.1)
set_option maxRecDepth 100000 in
set_option maxHeartbeats 1600000 in
theorem ownB_nil (a : Option Addr) (cap : Nat) (hn : a = none → cap = 0) (w : World) :
    Calls Tryd.prog 18 #[.slice a 0 cap] w fun e w' => ∃ v, e = .returned v ∧ w'.ownsRow w.heap.size 38 9 v 0 [] ∧ Below w.heap.size w w' := by
  obtain ⟨i0, hi, hz0, hz1, hz2⟩ := info_parts infoBu
  have Hi := Lib.hid hi; have Hz0 := Lib.hid hz0; have Hz1 := Lib.hid hz1; have Hz2 := Lib.hid hz2
  clear hi hz0 hz1 hz2
  cases a with
  | none =>
    obtain rfl := hn rfl
    clear hn
    go_enter Tryd.func18, Tryd.ntmps18
    go_wp2_with (at_builtin; refine wpList_append_own_none rfl _ _ 23 rfl w.heap.size 38 i0 9 Tryd.underlying23 Hi.out _ 0 [] rfl (own_empty9 w _) rfl ?_)
    go_ret
    exact ⟨_, rfl, own_empty9 w _, by (repeat (first | (with_reducible assumption) | (with_reducible exact Below.refl _ _) | (with_reducible refine beld_drew ?_) | ((with_reducible refine bset' ?_ ?_); (first | (focus (dsimp only; assumption)) | (focus (simp; done)) | (focus (dsimp only; omega)))) | (with_reducible refine belt_alloc ?_) | ((with_reducible refine zeroed_below' ?_ ?_); (first | (focus (simp; done)) | (focus (dsimp only; omega)))) | (with_reducible refine bt ?_ (by assumption))))⟩
  | some ad =>
    clear hn
    go_enter Tryd.func18, Tryd.ntmps18
    go_wp2_with (at_builtin; refine wpList_append_own _ rfl _ _ 23 rfl w.heap.size 38 i0 (.agg #[.int .i64 0, .int .u64 0, .int .i64 0, .int .i64 0, .int .i64 0, .int .i64 0, .int .i64 0, .int .i64 0, .string ⟨#[]⟩]) 9 80 Tryd.underlying23 Hi.out Hz0.out Hz1.out Hz2.out rfl (by decide) _ 0 [] rfl (own_empty9 w _) ad 0 cap [] rfl rfl (fun j u hj => by simp at hj) (by simp) (by unfold maxLen; omega) (by omega) (by simp) ?_; intro v' wb hown2 hgrow2 _)
    go_ret
    refine ⟨_, rfl, ?_, ?_⟩
    · simpa using hown2
    · exact ((Below.refl _ _).alloc (Nat.le_refl _) _).grown hgrow2 (by simp) (fun k e => (own_empty9 w 38).lt k e |>.1)
theorem own_any (a : Option Addr) (cap : Nat) (l : List Bn) (hl : l.length ≤ 1000) (w : World) (hrow : SRow bn 9 w a cap l) :
    Calls Tryd.prog 18 #[.slice a l.length cap] w fun e w' => ∃ v, e = .returned v ∧ w'.ownsRow w.heap.size 38 9 v l.length (rowC bn l) ∧ Below w.heap.size w w' := by
  rcases Nat.eq_zero_or_pos l.length with h | h
  · obtain rfl := List.length_eq_zero_iff.1 h
    exact ownB_nil a cap hrow.2.2.1 w
  · exact ownB_any a cap l hl h w hrow
end Go.Proofs.YtkaehoihpgelnaaDoor
namespace Go.Proofs.YtkaehoihpgelnaaDoor
open Go.RowKit
theorem bytes_toList_iff (a b : ByteArray) : a.toList = b.toList ↔ a = b := by
  rw [ByteArray.toList_eq, ByteArray.toList_eq]
  constructor
  · intro h
    obtain ⟨⟨a⟩⟩ := a
    obtain ⟨⟨b⟩⟩ := b
    have : a = b := h
    rw [this]
  · rintro rfl; rfl
def eqB (x y : Bn) : Bool := decide (x.no = y.no ∧ x.sq = y.sq ∧ x.of = y.of ∧ x.de = y.de ∧ x.pr = y.pr ∧ x.bo = y.bo ∧ x.li = y.li ∧ x.to = y.to ∧ x.da.toList = y.da.toList)
theorem eqB_iff (x y : Bn) : eqB x y = true ↔ x = y := by
  constructor
  · intro h
    obtain ⟨a1, a2, a3, a4, a5, a6, a7, a8, a9⟩ := x
    obtain ⟨b1, b2, b3, b4, b5, b6, b7, b8, b9⟩ := y
    simp only [eqB, decide_eq_true_eq, bytes_toList_iff] at h
    obtain ⟨rfl, rfl, rfl, rfl, rfl, rfl, rfl, rfl, rfl⟩ := h
    rfl
  · rintro rfl; simp [eqB]
set_option maxHeartbeats 1600000 in
theorem run_bnNe (x y : Bn) (w : World) : Sem.run Tryd.prog (binOp BinOp.neq 38 (.agg (bn x).toArray) (.agg (bn y).toArray)) w = .ok (.bool (!eqB x y)) w := by
  obtain ⟨a1, a2, a3, a4, a5, a6, a7, a8, a9⟩ := x
  obtain ⟨b1, b2, b3, b4, b5, b6, b7, b8, b9⟩ := y
  simp only [eqB, bn]
  go_simp
  refine (Decidable.em (a1 = b1)).elim (fun h1 => ?_) (fun h1 => by simp [h1])
  subst h1
  refine (Decidable.em (a2 = b2)).elim (fun h2 => ?_) (fun h2 => by simp [h2])
  subst h2
  refine (Decidable.em (a3 = b3)).elim (fun h3 => ?_) (fun h3 => by simp [h3])
  subst h3
  refine (Decidable.em (a4 = b4)).elim (fun h4 => ?_) (fun h4 => by simp [h4])
  subst h4
  refine (Decidable.em (a5 = b5)).elim (fun h5 => ?_) (fun h5 => by simp [h5])
  subst h5
  refine (Decidable.em (a6 = b6)).elim (fun h6 => ?_) (fun h6 => by simp [h6])
  subst h6
  refine (Decidable.em (a7 = b7)).elim (fun h7 => ?_) (fun h7 => by simp [h7])
  subst h7
  refine (Decidable.em (a8 = b8)).elim (fun h8 => ?_) (fun h8 => by simp [h8])
  subst h8
  by_cases h9 : a9.toList = b9.toList
  · simp [h9]
  · simp [h9]
end Go.Proofs.YtkaehoihpgelnaaDoor
namespace Go.Proofs.YtkaehoihpgelnaaDoor
open Go.RowKit
def idL (k : Id3) : List Value := [.int .i64 k.1, .int .u64 k.2.1, .int .i64 k.2.2]
theorem run_idKEq (a b : Id3) (w : World) : Sem.run Tryd.prog (binOp BinOp.eql 36 (.agg (idL a).toArray) (.agg (idL b).toArray)) w = .ok (.bool (decide (a = b))) w := by
  obtain ⟨a1, a2, a3⟩ := a
  obtain ⟨b1, b2, b3⟩ := b
  unfold idL
  go_simp
  by_cases h1 : a1 = b1
  · by_cases h2 : a2 = b2
    · by_cases h3 : a3 = b3 <;> simp [h1, h2, h3]
    · simp [h1, h2]
  · simp [h1]
section
variable {ops : Array Oper} {rest : List Oper} {o : Oper} {a : Act} {w : World}
end
end Go.Proofs.YtkaehoihpgelnaaDoor
namespace Go.Proofs.YtkaehoihpgelnaaDoor
open Go.RowKit
def IsRow (k : IntKind) (w : World) (a : Option Addr) (len cap : Nat) (zs : List Int) : Prop :=
  (a = none ∧ len = 0 ∧ cap = 0 ∧ zs = []) ∨
  ∃ x, a = some x ∧ len ≤ cap ∧ cap ≤ maxLen ∧ zs.length = cap ∧ (∀ i, i < zs.length → w.cell? (x.add i) = some (.int k (zs.getD i 0))) ∧ ∀ n ∈ zs, (Lit.int k n).wf = true
def Row (k : IntKind) (w : World) (a : Option Addr) (cap : Nat) (zs : List Int) : Prop :=
  zs.length ≤ cap ∧ cap ≤ maxLen ∧ (∀ z ∈ zs, (Lit.int k z).wf = true) ∧
  (a = none → cap = 0) ∧
  (0 < zs.length → ∃ b off, a = some ⟨b, off, none⟩ ∧ b < w.heap.size ∧ ∀ i (h : i < zs.length), w.cell? ⟨b, off + i, none⟩ = some (.int k zs[i]))
theorem row_of {k : IntKind} {w : World} {a : Option Addr} {len cap : Nat} {zs : List Int} (h : IsRow k w a len cap zs) : len = (zs.take len).length ∧ Row k w a cap (zs.take len) := by
  rcases h with ⟨rfl, rfl, rfl, rfl⟩ | ⟨x, rfl, hl, hm, hz, hc, hw⟩
  · exact ⟨rfl, Nat.le_refl _, by unfold maxLen; omega, by simp, fun _ => rfl, fun h => by simp at h⟩
  · have e : (zs.take len).length = len := by rw [List.length_take]; omega
    refine ⟨e.symm, by omega, hm, fun z hz => hw z (List.mem_of_mem_take hz), by simp, fun h0 => ?_⟩
    rw [e] at h0
    have h1 := hc 0 (by omega)
    obtain ⟨b, off, spot⟩ := x
    have hs : spot = none := by simpa [Addr.add] using World.cell?_spot h1
    subst hs
    refine ⟨b, off, rfl, ?_, fun i hi => ?_⟩
    · unfold World.cell? at h1
      simp only [Addr.add] at h1
      have : ∃ o, w.heap[b]? = some o := by
        cases ho : w.heap[b]? with
        | none => simp [ho] at h1
        | some o => exact ⟨o, rfl⟩
      obtain ⟨o, ho⟩ := this
      exact (Array.getElem?_eq_some_iff.1 ho).1
    · have hi' : i < len := by omega
      have := hc i (by omega)
      rw [Addr.add_lit] at this
      rw [this]
      congr 2
      rw [List.getElem_take, List.getD_eq_getElem?_getD, List.getElem?_eq_getElem (by omega)]
      rfl
theorem Row.below {k : IntKind} {w w' : World} {a : Option Addr} {cap : Nat} {zs : List Int} (h : Row k w a cap zs) (hb : Below w.heap.size w w') : Row k w' a cap zs := by
  obtain ⟨h1, h2, h3, h5, h4⟩ := h
  refine ⟨h1, h2, h3, h5, fun h0 => ?_⟩
  obtain ⟨b, off, e, hlt, hc⟩ := h4 h0
  exact ⟨b, off, e, Nat.lt_of_lt_of_le hlt hb.size, fun i hi => (hb.cell (p := ⟨b, off + i, none⟩) hlt).trans (hc i hi)⟩
end Go.Proofs.YtkaehoihpgelnaaDoor
namespace Go.Proofs.YtkaehoihpgelnaaDoor
open Go.RowKit
set_option maxRecDepth 100000 in
set_option maxHeartbeats 1600000 in
theorem dnew_bad (a : Option Addr) (cap : Nat) (ws : List Int) (q : Int) (w : World) (hrow : SRow ic 1 w a cap ws) (hb : newD ws q ≠ 0) :
    Calls Tryd.prog 43 #[.slice a ws.length cap, .int .i64 q] w fun e w' => RetD ws q w e w' := by
  have G := Lib.hid (fun W (hB : Below w.heap.size w W) => weighed_any a cap ws q W (hrow.below hB))
  have HR := Lib.hid (show ∀ W', Below w.heap.size w W' → RetD ws q w (.returned (.tuple #[.agg #[.slice none 0 0, .int .i64 0, .slice none 0 0, .int .i64 0], .int .i64 (newD ws q)])) W' from fun W' hB => ⟨hB, .inl ⟨hb, rfl⟩⟩)
  clear hrow
  by_cases hl : ws.length = 3
  · have e : newD ws q = weiS ws q := by unfold newD; rw [if_neg (by omega)]
    rw [e] at HR hb
    obtain ⟨c, hc⟩ : ∃ c, weiS ws q = c := ⟨_, rfl⟩
    rw [hc] at G HR hb
    have t1 : (c != 0) = true := by simpa using hb
    have t2 : ((ws.length : Int) != 3) = false := by simp [hl]
    clear hc hb e hl
    go_enter Tryd.func43, Tryd.ntmps43
    go_wp2_with (go_at_call 67; (with_reducible refine (G.out _ (by (repeat (first | (with_reducible assumption) | (with_reducible exact Below.refl _ _) | (with_reducible refine beld_drew ?_) | ((with_reducible refine bset' ?_ ?_); (first | (focus (dsimp only; assumption)) | (focus (simp; done)) | (focus (dsimp only; omega)))) | (with_reducible refine belt_alloc ?_) | ((with_reducible refine zeroed_below' ?_ ?_); (first | (focus (simp; done)) | (focus (dsimp only; omega)))) | (with_reducible refine bt ?_ (by assumption)))))).mono ?_); rintro e w2 ⟨rfl, rfl⟩)
    have z0 : blk (w.alloc (.cells #[.slice none 0 0, .int .i64 0, .slice none 0 0, .int .i64 0] 26)) w.heap.size = some #[.slice none 0 0, .int .i64 0, .slice none 0 0, .int .i64 0] := blk_alloc_new _ _ _ rfl
    have b0 : Below w.heap.size w (w.alloc (.cells #[.slice none 0 0, .int .i64 0, .slice none 0 0, .int .i64 0] 26)) := (Below.refl _ _).alloc (Nat.le_refl _) _
    refine ret_blk (b := w.heap.size) (c := #[.slice none 0 0, .int .i64 0, .slice none 0 0, .int .i64 0]) (v := .tuple #[.agg #[.slice none 0 0, .int .i64 0, .slice none 0 0, .int .i64 0], .int .i64 c]) z0 (fun W' hc => by simp [results, Tryd.results43, go_sem, hc]) rfl (HR.out _ ?_)
    exact b0
  · have e : newD ws q = 3 := by unfold newD; rw [if_pos hl]
    rw [e] at HR
    have t2 : ((ws.length : Int) != 3) = true := by
      have : ¬ ((ws.length : Int) = 3) := by omega
      simpa using this
    clear hb e hl G
    go_enter Tryd.func43, Tryd.ntmps43
    go_wp2
    have z0 : blk (w.alloc (.cells #[.slice none 0 0, .int .i64 0, .slice none 0 0, .int .i64 0] 26)) w.heap.size = some #[.slice none 0 0, .int .i64 0, .slice none 0 0, .int .i64 0] := blk_alloc_new _ _ _ rfl
    have b0 : Below w.heap.size w (w.alloc (.cells #[.slice none 0 0, .int .i64 0, .slice none 0 0, .int .i64 0] 26)) := (Below.refl _ _).alloc (Nat.le_refl _) _
    refine ret_blk (b := w.heap.size) (c := #[.slice none 0 0, .int .i64 0, .slice none 0 0, .int .i64 0]) (v := .tuple #[.agg #[.slice none 0 0, .int .i64 0, .slice none 0 0, .int .i64 0], .int .i64 3]) z0 (fun W' hc => by simp [results, Tryd.results43, go_sem, hc]) rfl (HR.out _ ?_)
    exact b0
set_option maxRecDepth 100000 in
set_option maxHeartbeats 1600000 in
theorem xnew_bad (x0 x1 x2 : Int) (w : World) (hb : newD [x0, x1, x2] 1200 ≠ 0) :
    Calls Tryd.prog 19 #[.agg #[.int .i64 x0, .int .i64 x1, .int .i64 x2]] w fun e w' => RetN x0 x1 x2 w e w' := by
  have HR := Lib.hid (show ∀ W', Below w.heap.size w W' → RetN x0 x1 x2 w (.returned (.tuple #[.agg #[.slice none 0 0, .int .i64 0, .slice none 0 0, .int .i64 0, .slice none 0 0], .int .i64 (newD [x0, x1, x2] 1200)])) W' from fun W' hB => ⟨hB, .inl ⟨hb, rfl⟩⟩)
  obtain ⟨w1, hw1⟩ : ∃ v, v = (w.alloc (.cells #[.int .i64 x0, .int .i64 x1, .int .i64 x2] 45)).alloc (.cells #[.slice none 0 0, .int .i64 0, .slice none 0 0, .int .i64 0, .slice none 0 0] 28) := ⟨_, rfl⟩
  have r0 : SRow ic 1 w1 (some ⟨w.heap.size, 0, none⟩) 3 [x0, x1, x2] := srow3 (by rw [hw1]; exact blk_alloc (blk_alloc_new _ _ _ rfl) _)
  have g : Calls Tryd.prog 43 #[.slice (some ⟨w.heap.size, 0, none⟩) 3 3, .int .i64 1200] w1 fun e w' => e = .returned (.tuple #[.agg #[.slice none 0 0, .int .i64 0, .slice none 0 0, .int .i64 0], .int .i64 (newD [x0, x1, x2] 1200)]) ∧ Below w1.heap.size w1 w' := by
    refine (dnew_bad _ 3 [x0, x1, x2] 1200 w1 r0 hb).mono ?_
    rintro e w' ⟨h1, ⟨_, h2⟩ | ⟨h2, _⟩⟩
    · exact ⟨h2, h1⟩
    · exact absurd h2 hb
  have G := Lib.hid g
  clear g
  rw [hw1] at G
  obtain ⟨c, hc⟩ : ∃ c, newD [x0, x1, x2] 1200 = c := ⟨_, rfl⟩
  rw [hc] at G HR hb
  have t1 : (c != 0) = true := by simpa using hb
  clear hc hb r0 hw1 w1
  go_enter Tryd.func19, Tryd.ntmps19
  go_wp2_with (go_at_call 43; (with_reducible refine (G.out).mono ?_); rintro e w2 ⟨rfl, h2⟩; (have b2 : Below w.heap.size w w2 := by (repeat (first | (with_reducible assumption) | (with_reducible exact Below.refl _ _) | (with_reducible refine beld_drew ?_) | ((with_reducible refine bset' ?_ ?_); (first | (focus (dsimp only; assumption)) | (focus (simp; done)) | (focus (dsimp only; omega)))) | (with_reducible refine belt_alloc ?_) | ((with_reducible refine zeroed_below' ?_ ?_); (first | (focus (simp; done)) | (focus (dsimp only; omega)))) | (with_reducible refine bt ?_ (by assumption))))); (have z2 : blk w2 (w.heap.size + 1) = some #[.slice none 0 0, .int .i64 0, .slice none 0 0, .int .i64 0, .slice none 0 0] := blk_below h2 (blk_alloc_new _ _ _ (by simp))); (have n2 := kn z2); clear h2)
  have zz := blk_set (i := 4) (v := .slice none 0 0) (blk_set (i := 3) (v := .int .i64 0) (blk_set (i := 2) (v := .slice none 0 0) (blk_set (i := 1) (v := .int .i64 0) (blk_set (i := 0) (v := .slice none 0 0) (z2)))))
  refine ret_blk (b := w.heap.size + 1) (c := #[.slice none 0 0, .int .i64 0, .slice none 0 0, .int .i64 0, .slice none 0 0]) (v := .tuple #[.agg #[.slice none 0 0, .int .i64 0, .slice none 0 0, .int .i64 0, .slice none 0 0], .int .i64 c]) (blk_alloc zz _) (fun W' hc => by simp [results, Tryd.results19, go_sem, hc]) rfl (HR.out _ ?_)
  exact ((((((b2).setCell (Nat.le_succ _) _).setCell (Nat.le_succ _) _).setCell (Nat.le_succ _) _).setCell (Nat.le_succ _) _).setCell (Nat.le_succ _) _).alloc (show w.heap.size ≤ _ from Nat.le_of_lt (Nat.lt_of_succ_lt (blk_lt zz))) _
end Go.Proofs.YtkaehoihpgelnaaDoor
namespace Go.Proofs.YtkaehoihpgelnaaDoor
open Go.RowKit
theorem queuesX_any {l : List Bn} (hl : l.length ≤ 20) (h : lstE l = 0) (al : Option Addr) (cl : Nat) (w : World) (hrow : SRow bn 9 w al cl l) :
    Calls Tryd.prog 21 #[.slice al l.length cl] w fun e w' => ∃ ob, e = .returned (.tuple #[.slice (some ⟨ob, 0, none⟩) 3 3, .int .i64 0]) ∧ w.heap.size ≤ ob ∧ QAtU w' ob (queS l 0) (queS l 1) (queS l 2) ∧ Below w.heap.size w w' := by
  have hb := fun x hx => bcode_facts (lstE_codes h x hx)
  have GL := Lib.hid (fun W (hB : Below w.heap.size w W) => (show Calls Tryd.prog 45 #[.slice al l.length cl] W fun e w' => e = .returned (.int .i64 0) ∧ Below W.heap.size W w' from by
    have h9 := list_any al cl l (fun x hx => (hb x hx).2.2.1) W (hrow.below hB)
    rw [h] at h9
    exact h9))
  have GQ := Lib.hid (fun W (hB : Below w.heap.size w W) => queues_any al cl l hl (fun x hx => (hb x hx).1) (fun x hx => (hb x hx).2.1) W (hrow.below hB))
  have t1 : ((0 : Int) != 0) = false := rfl
  clear hb h hrow hl
  go_enter Tryd.func21, Tryd.ntmps21
  go_wp2_with (first | (go_at_call 45; (with_reducible refine (GL.out _ (Below.refl _ _)).mono ?_); rintro e u2 ⟨rfl, h2⟩) | (go_at_call 46; (with_reducible refine (GQ.out _ h2).mono ?_); rintro e u3 ⟨ob, rfl, lob, HQ, h3⟩))
  go_ret2
  exact ⟨ob, rfl, Nat.le_trans h2.size lob, HQ, bt h2 h3⟩
end Go.Proofs.YtkaehoihpgelnaaDoor
