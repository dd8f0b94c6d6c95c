/- Parts of a proof, printed by a program of mine out of my texts: more of Base, FrMath. -/
import Derived.Test.YtaiofjffoboicaaDoorMA
import Derived.Test.YtaiofjffoboicaaDoorMLaw
set_option linter.unusedSimpArgs false
set_option linter.unusedVariables false
namespace Go.Proofs.YtaiofjffoboicaaDoor
open Go.RowKit
theorem one_byte {P : Program} {src dst e : TypeId} (hs : P.underlying src = some (.slice e)) (he : P.underlying e = some (.int .u8)) (hd : P.underlying dst = some .string) (x : Int) (w : World) :
    (convert src dst (.slice (some ⟨w.heap.size, 0, none⟩) 1 1)).run P (w.alloc (.cells #[.int .u8 x] e)) = .ok (.string ⟨#[UInt8.ofNat x.toNat]⟩) (w.alloc (.cells #[.int .u8 x] e)) := by
  rw [run_convert_bytes_string _ src dst e _ _ _ hs he hd]
  have := run_bytesToString (P := P) (w.alloc (.cells #[.int .u8 x] e)) ⟨w.heap.size, 0, none⟩ 1 1 [x] (by
    have hl := run_loadCells_list (P := P) (w.alloc (.cells #[.int .u8 x] e)) ⟨w.heap.size, 0, none⟩ [.int .u8 x] (fun j v hj => by
      have hj0 : j = 0 := by
        have := (List.getElem?_eq_some_iff.1 hj).1
        simpa using this
      subst hj0
      simp at hj; subst hj
      simp [Addr.add])
    simpa using hl)
  rw [this]
  simp
  rfl
end Go.Proofs.YtaiofjffoboicaaDoor
namespace Go.Proofs.YtaiofjffoboicaaDoor
open Go.RowKit
theorem frC_of {f : Fr} (h1 : 1 ≤ f.k ∧ f.k ≤ 7) (h2 : rngF f) (h3 : bcF f = 0) (h4 : clnF f) : frC f = 0 := by
  unfold frC
  rw [if_neg (not_not_intro h1), if_neg (not_not_intro h2), if_neg (not_not_intro h3), if_pos h4]
end Go.Proofs.YtaiofjffoboicaaDoor
