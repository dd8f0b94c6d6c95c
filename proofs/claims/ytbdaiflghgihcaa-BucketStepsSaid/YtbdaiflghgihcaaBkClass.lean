/- A region that draws its order, every operation quiet in a class of worlds. A struct of numbers that comes in by value. -/
import Derived.Test.YtbdaiflghgihcaaBkLaw2
import Derived.Deep.Fields
import Derived.ChangeShapes
import Derived.WideShapes
namespace Go.Proofs.Ytbdaiflghgihcaa
set_option linter.unusedVariables false
open Go.RowKit

theorem wp_region_class {P : Program} {C : World → Prop} {id : Nat} {Q : Exit → Act → World → Prop} {a : Act} {w : World} {l : List Oper} (hm : P.follows .mixedOrders = true) (hB : Region.lexB .any l.toArray = true) (hC : C w.drew)
    (h : wpQuiet P l.toArray C (fun a' => ∀ w', C w' → Q .normal a' w') l a) : (Code.region id l.toArray true).wp P Q a w :=
  wp_region_quiet (C := C) hm hB hC (by simpa using h)

section
open Go.ChangeShapes Go.WideShapes Go.Deep
variable {H : Type} {enc : TypeId × Value → H} {P : Program} {w : World} {base : Nat} {spare : Nat → Bool} {held : Bool}
/-- A struct by value whose fields are all of one type of integers: its numbers. -/
theorem open_nums {r : Reach} {b0 : Nat} {t ti : TypeId} {k : IntKind} {fs : Array Field} {v : Value} {d : DataW H} {p : List MemPlace} (hs : P.underlying t = some (.struct fs)) (hone : oneCellFields P fs = true) (hC : P.cellsOf t = fs.size)
    (hall : (fs.all fun f => f.type == ti) = true) (hti : P.underlying ti = some (.int k)) (hv : Value.okWide P w r b0 t v) (h : DataW.Trod enc P w base spare held t v d p) :
    ∃ ns : List Int, ns.length = fs.size ∧ v = .agg (ns.map (Value.int k)).toArray ∧ ∀ n ∈ ns, (Lit.int k n).wf = true := by
  obtain ⟨cs, rfl, hsz⟩ := okWide_struct hs hv
  rw [hC] at hsz
  obtain ⟨fuel, hf⟩ := h
  obtain ⟨xs, m, _, _, _, hlen, hg⟩ := DataW.trod_struct hs hf
  have key : ∀ j (hj : j < cs.size), ∃ n, cs[j] = .int k n ∧ (Lit.int k n).wf = true := fun j hj => by
    have hj' : j < fs.size := by omega
    have hfj : fs[j]? = some fs[j] := Array.getElem?_eq_getElem hj'
    obtain ⟨ho, hk⟩ := hone_of hone j _ hfj
    have hty : fs[j].type = ti := by
      have := Array.all_eq_true.1 hall j hj'
      simpa using this
    have h1 := hg j _ hfj
    rw [ho, hk, hty, List.getElem?_eq_getElem (by omega)] at h1
    obtain ⟨n, h2, _, h3⟩ := DataW.trod_int hti h1
    have h4 : ((Value.agg cs).cells.toList.drop j).take 1 = [cs[j]] := by
      have : (Value.agg cs).cells = cs := rfl
      rw [this, List.drop_eq_getElem_cons (by simpa using hj)]
      simp
    rw [h4] at h2
    exact ⟨n, by simpa using h2, h3⟩
  have num : ∀ l : List Value, (∀ j (hj : j < l.length), ∃ n, l[j] = .int k n ∧ (Lit.int k n).wf = true) → ∃ ns : List Int, l = ns.map (Value.int k) ∧ ∀ n ∈ ns, (Lit.int k n).wf = true := by
    intro l
    induction l with
    | nil => exact fun _ => ⟨[], rfl, by simp⟩
    | cons x l ih =>
      intro hl
      obtain ⟨ns, h1, h2⟩ := ih fun j hj => by have := hl (j + 1) (by simpa using hj); rwa [List.getElem_cons_succ] at this
      obtain ⟨n, h3, h4⟩ := hl 0 (by simp)
      exact ⟨n :: ns, by simp [h1, show x = _ from h3], by simpa using ⟨h4, h2⟩⟩
  obtain ⟨ns, h1, h2⟩ := num cs.toList fun j hj => by simpa using key j (by simpa using hj)
  have h3 : cs = (ns.map (Value.int k)).toArray := by rw [← h1]
  refine ⟨ns, ?_, by rw [h3], h2⟩
  have := congrArg Array.size h3
  simp at this
  omega
end
theorem five_of {ns : List Int} (h : ns.length = 5) : ∃ a b c d e, ns = [a, b, c, d, e] := by
  match ns, h with
  | [a, b, c, d, e], _ => exact ⟨a, b, c, d, e, rfl⟩
end Go.Proofs.Ytbdaiflghgihcaa
