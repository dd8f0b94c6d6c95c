/- Parts of a proof, printed by a program of mine out of my texts: OpenRow, OpenBun, OpenOc. -/
import Derived.Deep.Slices
import Derived.DataReads
import Derived.Test.YthfmkkkdjgkaoaaGreatDoorMA
import Derived.Test.YthfmkkkdjgkaoaaGreatDoorMM
import Derived.Test.YthfmkkkdjgkaoaaGreatDoorMU
import Derived.Test.YthfmkkkdjgkaoaaGreatDoorMX10
set_option linter.unusedSimpArgs false
set_option linter.unusedVariables false
namespace Go.Proofs.YthfmkkkdjgkaoaaGreatDoor
open Go.RowKit Go.ChangeShapes Go.WideShapes Go.Deep
section
variable {H : Type} {enc : TypeId × Value → H} {P : Program} {w : World} {base : Nat} {spare : Nat → Bool} {held : Bool}
theorem open_structs {α : Type} {r : Reach} {b0 : Nat} {t e : TypeId} {v : Value} {d : DataW H} {p : List MemPlace} {ks : List CellKind} {en : α → List Value} {k : Nat} {Good : α → Prop} (n : Nat)
    (ht : P.underlying t = some (.slice e)) (hks : flat P n e = some ks) (hce : P.cellsOf e = k) (hk : 0 < k) (hlen : ∀ x, (en x).length = k) (hmk : ∀ cs, CellsAre ks cs → ∃ x, cs = en x ∧ Good x)
    (hv : Value.okWide P w r b0 t v) (h : DataW.Trod enc P w base spare held t v d p) : ∃ a cap, ∃ l : List α, v = .slice a l.length cap ∧ SRow en k w a cap l ∧ ∀ x ∈ l, Good x := by
  obtain ⟨a, len, cap, rfl⟩ := okWide_slice ht hv
  obtain ⟨fuel, hf⟩ := h
  rcases open_slice ht hf with ⟨hcs, _⟩ | ⟨x, len', cap', m, n', D, Pl, hcs, hb, hl, hm, hmm, _, hx⟩
  · simp [Value.cells] at hcs
    obtain ⟨rfl, rfl, rfl⟩ := hcs
    exact ⟨none, 0, [], rfl, srow_nil w, by simp⟩
  · simp [Value.cells] at hcs
    obtain ⟨rfl, rfl, rfl⟩ := hcs
    have hlm : len ≤ m := by rw [hmm]; split <;> omega
    have key : ∀ i, i < len → ∃ y : α, Good y ∧ ∀ j, j < k → w.cell? ((x.add (i * k)).add j) = (en y)[j]? := fun i hi => by
      obtain ⟨cs', h1, h2⟩ := hx i (by omega)
      rw [hce] at h1
      obtain ⟨_, hl2, hc2⟩ := World.cells?_some h1
      obtain ⟨y, rfl, hg⟩ := hmk cs' (flat_are n e ks _ _ _ hks h2)
      exact ⟨y, hg, hc2⟩
    rcases Nat.eq_zero_or_pos len with h0 | h0
    · subst h0
      exact ⟨some x, cap, [], rfl, ⟨Nat.zero_le _, hm, (fun h => by cases h), fun h => absurd h (by simp)⟩, by simp⟩
    · obtain ⟨y0, _, _⟩ := key 0 h0
      have : Inhabited α := ⟨y0⟩
      obtain ⟨f, hf2⟩ := choose_lt key
      have hll : ((List.range len).map f).length = len := by simp
      refine ⟨some x, cap, (List.range len).map f, by rw [hll], ⟨by rw [hll]; exact hl, hm, (fun h => by cases h), fun _ => ?_⟩, fun z hz => ?_⟩
      · have h1 := (hf2 0 h0).2 0 hk
        rw [Nat.zero_mul, Addr.add_zero', Addr.add_zero'] at h1
        have hy : (en (f 0))[0]? = some ((en (f 0))[0]'(by rw [hlen]; exact hk)) := List.getElem?_eq_getElem _
        rw [hy] at h1
        obtain ⟨b, off, spot⟩ := x
        have hs : spot = none := World.cell?_spot h1
        subst hs
        refine ⟨b, off, rfl, ?_, fun i hi j u hu => ?_⟩
        · unfold World.cell? at h1
          cases ho : w.heap[b]? with
          | none => simp [ho] at h1
          | some o => exact (Array.getElem?_eq_some_iff.1 ho).1
        · have hi' : i < len := by simpa using hi
          have hj : j < k := by
            have := (List.getElem?_eq_some_iff.1 hu).1
            rwa [hlen] at this
          have h2 := (hf2 i hi').2 j hj
          rw [Addr.add_lit, Addr.add_lit] at h2
          rw [h2]
          simpa using hu
      · obtain ⟨i, hi, rfl⟩ := List.mem_map.1 hz
        exact (hf2 i (by simpa using hi)).1
end
end Go.Proofs.YthfmkkkdjgkaoaaGreatDoor
namespace Go.Proofs.YthfmkkkdjgkaoaaGreatDoor
open Go.RowKit
abbrev kib : CellKind := some (some .i64)
abbrev kub : CellKind := some (some .u64)
def bnK : List CellKind := [kib, kub, kib, kib, kib, kib, kib, kib, some none]
def GdB (b : Bn) : Prop := b.da.size ≤ maxLen ∧ (Lit.int .u64 b.sq).wf = true
theorem bn_mk (cs : List Value) (h : CellsAre bnK cs) : ∃ x : Bn, cs = bn x ∧ GdB x := by
  obtain ⟨c0, r0, rfl, q0, h⟩ := CellsAre.cons h
  obtain ⟨c1, r1, rfl, q1, h⟩ := CellsAre.cons h
  obtain ⟨c2, r2, rfl, q2, h⟩ := CellsAre.cons h
  obtain ⟨c3, r3, rfl, q3, h⟩ := CellsAre.cons h
  obtain ⟨c4, r4, rfl, q4, h⟩ := CellsAre.cons h
  obtain ⟨c5, r5, rfl, q5, h⟩ := CellsAre.cons h
  obtain ⟨c6, r6, rfl, q6, h⟩ := CellsAre.cons h
  obtain ⟨c7, r7, rfl, q7, h⟩ := CellsAre.cons h
  obtain ⟨c8, r8, rfl, q8, h⟩ := CellsAre.cons h
  obtain rfl := CellsAre.nil h
  obtain ⟨n0, rfl, _⟩ := q0
  obtain ⟨n1, rfl, w1⟩ := q1
  obtain ⟨n2, rfl, _⟩ := q2
  obtain ⟨n3, rfl, _⟩ := q3
  obtain ⟨n4, rfl, _⟩ := q4
  obtain ⟨n5, rfl, _⟩ := q5
  obtain ⟨n6, rfl, _⟩ := q6
  obtain ⟨n7, rfl, _⟩ := q7
  obtain ⟨s8, rfl, w8⟩ := q8
  exact ⟨⟨n0, n1, n2, n3, n4, n5, n6, n7, s8⟩, rfl, w8, w1⟩
end Go.Proofs.YthfmkkkdjgkaoaaGreatDoor
namespace Go.Proofs.YthfmkkkdjgkaoaaGreatDoor
open Go.RowKit
def ocK : List CellKind := [some (some .i64), some (some .i64), some (some .i64), some (some .i64), some (some .u64), some (some .i64), some (some .i64)]
def GdO (o : Oc) : Prop := (Lit.int .i64 o.ti).wf = true ∧ (Lit.int .i64 o.no).wf = true ∧ (Lit.int .i64 o.ki).wf = true ∧ (Lit.int .i64 o.ot).wf = true ∧ (Lit.int .u64 o.isq).wf = true
theorem oc_mk (cs : List Value) (h : CellsAre ocK cs) : ∃ x : Oc, cs = oc x ∧ GdO x := by
  obtain ⟨c0, r0, rfl, q0, h⟩ := CellsAre.cons h
  obtain ⟨c1, r1, rfl, q1, h⟩ := CellsAre.cons h
  obtain ⟨c2, r2, rfl, q2, h⟩ := CellsAre.cons h
  obtain ⟨c3, r3, rfl, q3, h⟩ := CellsAre.cons h
  obtain ⟨c4, r4, rfl, q4, h⟩ := CellsAre.cons h
  obtain ⟨c5, r5, rfl, q5, h⟩ := CellsAre.cons h
  obtain ⟨c6, r6, rfl, q6, h⟩ := CellsAre.cons h
  obtain rfl := CellsAre.nil h
  obtain ⟨n0, rfl, w0⟩ := q0
  obtain ⟨n1, rfl, w1⟩ := q1
  obtain ⟨n2, rfl, w2⟩ := q2
  obtain ⟨n3, rfl, w3⟩ := q3
  obtain ⟨n4, rfl, w4⟩ := q4
  obtain ⟨n5, rfl, w5⟩ := q5
  obtain ⟨n6, rfl, w6⟩ := q6
  exact ⟨⟨n0, n1, n2, n3, n4, n5, n6⟩, rfl, w0, w1, w2, w6, w4⟩
end Go.Proofs.YthfmkkkdjgkaoaaGreatDoor
