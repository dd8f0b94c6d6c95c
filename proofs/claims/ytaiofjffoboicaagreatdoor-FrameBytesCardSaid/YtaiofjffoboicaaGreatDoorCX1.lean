/- Structs and arrays of numbers, texts and bools that come in by value: their cells, one by one. -/
import Derived.Test.YtaiofjffoboicaaGreatDoorCA
import Derived.Deep.Fields
import Derived.OpenShut
import Derived.ChangeShapes
import Derived.WideShapes
namespace Go.Proofs.YtaiofjffoboicaaGreatDoor
set_option linter.unusedVariables false
open Go.RowKit

/-- What kind of cell: 'some (some k)' a number of kind k, 'some none' a text, 'none' a bool. -/
abbrev CellKind := Option (Option IntKind)
def CellIs : CellKind → Value → Prop
  | some (some k), v => ∃ n : Int, v = .int k n ∧ (Lit.int k n).wf = true
  | some none, v => ∃ s : ByteArray, v = .string s ∧ s.size ≤ maxLen
  | none, v => ∃ b : Bool, v = .bool b
def CellsAre : List CellKind → List Value → Prop
  | [], [] => True
  | k :: ks, c :: cs => CellIs k c ∧ CellsAre ks cs
  | _, _ => False
theorem CellsAre.cons {k : CellKind} {ks : List CellKind} {cs : List Value} (h : CellsAre (k :: ks) cs) : ∃ c cs', cs = c :: cs' ∧ CellIs k c ∧ CellsAre ks cs' := by
  match cs, h with
  | c :: cs', h => exact ⟨c, cs', rfl, h.1, h.2⟩
theorem CellsAre.nil {cs : List Value} (h : CellsAre [] cs) : cs = [] := by
  match cs, h with
  | [], _ => rfl
theorem CellsAre.append : ∀ {ks ks' : List CellKind} {cs cs' : List Value}, CellsAre ks cs → CellsAre ks' cs' → CellsAre (ks ++ ks') (cs ++ cs')
  | [], _, [], _, _, h => h
  | k :: ks, _, c :: cs, _, h, h' => ⟨h.1, CellsAre.append h.2 h'⟩
theorem CellsAre.length : ∀ {ks : List CellKind} {cs : List Value}, CellsAre ks cs → cs.length = ks.length
  | [], [], _ => rfl
  | k :: ks, c :: cs, h => by simp [CellsAre.length h.2]

/-- The pieces of a row of cells that begins at o. -/
def flatParts (g : TypeId → Option (List CellKind)) : List (Nat × TypeId) → Nat → Option (List CellKind)
  | [], _ => some []
  | (off, t) :: l, o => if off = o then (g t).bind fun ks => (flatParts g l (o + ks.length)).bind fun rest => some (ks ++ rest) else none
/-- The cells of a type. -/
def flat (P : Program) : Nat → TypeId → Option (List CellKind)
  | 0, _ => none
  | n + 1, t => match P.underlying t with
    | some (.int k) => some [some (some k)]
    | some .string => some [some none]
    | some .bool => some [none]
    | some (.struct fs) => (flatParts (fun u => (flat P n u).bind fun ks => if ks.length = P.cellsOf u then some ks else none) (fs.toList.map fun f => (f.offset, f.type)) 0).bind fun ks => if ks.length = P.cellsOf t then some ks else none
    | some (.array m e) => (flatParts (fun u => (flat P n u).bind fun ks => if ks.length = P.cellsOf u then some ks else none) ((List.range m).map fun i => (i * P.cellsOf e, e)) 0).bind fun ks => if ks.length = P.cellsOf t then some ks else none
    | _ => none

section
open Go.ChangeShapes Go.WideShapes Go.Deep
variable {H : Type} {enc : TypeId × Value → H} {P : Program} {w : World} {base : Nat} {spare : Nat → Bool} {held : Bool}

theorem parts_are {g : TypeId → Option (List CellKind)} {cs : List Value} : ∀ (l : List (Nat × TypeId)) (o : Nat) (ks : List CellKind), flatParts g l o = some ks → o + ks.length = cs.length →
    (∀ p ∈ l, ∀ ks', g p.2 = some ks' → CellsAre ks' ((cs.drop p.1).take ks'.length)) → CellsAre ks (cs.drop o)
  | [], o, ks, h, hl, _ => by
    simp [flatParts] at h; subst h
    have : cs.drop o = [] := by simp at hl ⊢; omega
    rw [this]; trivial
  | (off, t) :: l, o, ks, h, hl, hp => by
    unfold flatParts at h
    split at h
    · rename_i ho; subst ho
      cases hg : g t with
      | none => rw [hg] at h; simp at h
      | some k1 =>
        rw [hg] at h
        simp only [Option.bind_some] at h
        cases hf : flatParts g l (off + k1.length) with
        | none => rw [hf] at h; simp at h
        | some k2 =>
          rw [hf] at h
          simp at h
          subst h
          have h1 := hp (off, t) (by simp) k1 hg
          have h2 := parts_are (cs := cs) l (off + k1.length) k2 hf (by simp at hl; omega) fun p hp' => hp p (by simp [hp'])
          have h3 := h1.append h2
          have : (cs.drop off).take k1.length ++ cs.drop (off + k1.length) = cs.drop off := by
            rw [← List.drop_drop]; exact List.take_append_drop _ _
          rwa [this] at h3
    · simp at h

theorem flat_are : ∀ (n : Nat) (t : TypeId) (ks : List CellKind) (fuel : Nat) (cs : List Value) (x : DataW H × List MemPlace), flat P n t = some ks → DataW.trod enc P w base spare held fuel t cs = some x → CellsAre ks cs
  | 0, _, _, _, _, _, h, _ => by simp [flat] at h
  | n + 1, t, ks, fuel, cs, x, h, ht => by
    unfold flat at h
    split at h
    · rename_i k hu
      obtain ⟨m, h1, _, h3⟩ := DataW.trod_int hu ht
      simp at h; subst h; subst h1
      exact ⟨⟨m, rfl, h3⟩, trivial⟩
    · rename_i hu
      obtain ⟨s, h1, _, h3⟩ := DataW.trod_string hu ht
      simp at h; subst h; subst h1
      exact ⟨⟨s, rfl, h3⟩, trivial⟩
    · rename_i hu
      obtain ⟨b, h1, _⟩ := DataW.trod_bool hu ht
      simp at h; subst h; subst h1
      exact ⟨⟨b, rfl⟩, trivial⟩
    · rename_i fs hu
      obtain ⟨xs, m, _, _, hlen, hxs, hg⟩ := DataW.trod_struct hu ht
      cases hf : flatParts (fun u => (flat P n u).bind fun ks => if ks.length = P.cellsOf u then some ks else none) (fs.toList.map fun f => (f.offset, f.type)) 0 with
      | none => rw [hf] at h; simp at h
      | some k1 =>
        rw [hf] at h
        simp only [Option.bind_some] at h
        split at h
        · rename_i hk
          simp at h; subst h
          have := parts_are (cs := cs) _ 0 k1 hf (by omega) fun p hp ks' hks => by
            obtain ⟨f, hfm, rfl⟩ := List.mem_map.1 hp
            obtain ⟨i, hi, hfi⟩ := List.getElem_of_mem hfm
            have hi' : i < fs.size := by simpa using hi
            have hg' := hg i f (by rw [Array.getElem?_eq_getElem hi']; simpa using hfi)
            rw [List.getElem?_eq_getElem (by omega)] at hg'
            cases hfl : flat P n f.type with
            | none => simp [hfl] at hks
            | some k2 =>
              simp only [hfl, Option.bind_some] at hks
              split at hks
              · rename_i hc
                simp at hks; subst hks
                rw [← hc] at hg'
                exact flat_are n f.type k2 _ _ _ hfl hg'
              · simp at hks
          simpa using this
        · simp at h
    · rename_i mm e hu
      obtain ⟨xs, m, _, _, hlen, hxs, hg⟩ := DataW.trod_array hu ht
      cases hf : flatParts (fun u => (flat P n u).bind fun ks => if ks.length = P.cellsOf u then some ks else none) ((List.range mm).map fun i => (i * P.cellsOf e, e)) 0 with
      | none => rw [hf] at h; simp at h
      | some k1 =>
        rw [hf] at h
        simp only [Option.bind_some] at h
        split at h
        · rename_i hk
          simp at h; subst h
          have := parts_are (cs := cs) _ 0 k1 hf (by omega) fun p hp ks' hks => by
            obtain ⟨i, hi, rfl⟩ := List.mem_map.1 hp
            have hi' : i < mm := by simpa using hi
            have hg' := hg i hi'
            rw [List.getElem?_eq_getElem (by omega)] at hg'
            dsimp only at hks ⊢
            cases hfl : flat P n e with
            | none => simp [hfl] at hks
            | some k2 =>
              simp only [hfl, Option.bind_some] at hks
              split at hks
              · rename_i hc
                simp at hks; subst hks
                rw [← hc] at hg'
                rw [← hc]
                exact flat_are n e k2 _ _ _ hfl hg'
              · simp at hks
          simpa using this
        · simp at h
    · simp at h

/-- A struct by value: its cells. -/
theorem open_flat {r : Reach} {b0 : Nat} {t : TypeId} {fs : Array Field} {v : Value} {d : DataW H} {p : List MemPlace} {ks : List CellKind} (n : Nat) (hs : P.underlying t = some (.struct fs)) (hks : flat P n t = some ks)
    (hv : Value.okWide P w r b0 t v) (h : DataW.Trod enc P w base spare held t v d p) : ∃ cs : List Value, v = .agg cs.toArray ∧ CellsAre ks cs := by
  obtain ⟨cs, rfl, hsz⟩ := okWide_struct hs hv
  obtain ⟨fuel, hf⟩ := h
  exact ⟨cs.toList, by simp, flat_are n t ks fuel _ _ hks hf⟩
end
end Go.Proofs.YtaiofjffoboicaaGreatDoor
