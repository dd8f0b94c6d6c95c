/- The forms of a row of numbers that are given by their addresses. -/
import Derived.Test.YtiphddlakbbfiaaDoorNumText
import Derived.Test.YtiphddlakbbfiaaDoorWiSeal
namespace Go.Proofs.YtiphddlakbbfiaaDoor
set_option linter.unusedVariables false
open Go.RowKit

/-- Block b holds the addresses of the numbers ns, in w. -/
def PtrRow (w : World) (b : Nat) (ns : List Nat) : Prop :=
  b < w.heap.size ∧ ∀ k (hk : k < ns.length), ∃ g o, g < w.heap.size ∧ w.cell? ⟨b, k, none⟩ = some (.pointer (some ⟨g, o, none⟩)) ∧ w.cell? ⟨g, o, none⟩ = some (.int .i64 (ns[k] : Nat))
theorem PtrRow.below {w w' : World} {b : Nat} {ns : List Nat} (h : PtrRow w b ns) (hb : Below w.heap.size w w') : PtrRow w' b ns := by
  refine ⟨Nat.lt_of_lt_of_le h.1 hb.size, fun k hk => ?_⟩
  obtain ⟨g, o, h1, h2, h3⟩ := h.2 k hk
  have e : ∀ x y, x < w.heap.size → w'.cell? ⟨x, y, none⟩ = w.cell? ⟨x, y, none⟩ := fun x y hx => by
    simp only [World.cell?, hb.block x hx]
  exact ⟨g, o, Nat.lt_of_lt_of_le h1 hb.size, by rw [e _ _ h.1]; exact h2, by rw [e _ _ h1]; exact h3⟩
def putAll (ns : List Nat) : List UInt8 := ns.flatMap putN
theorem putAll_len (ns : List Nat) : (putAll ns).length ≤ 11 * ns.length := by
  induction ns with
  | nil => simp [putAll]
  | cons n ns ih => have := (putN_length n).2; simp [putAll] at *; omega
theorem putAll_take (ns : List Nat) (k : Nat) (hk : k < ns.length) : putAll (ns.take (k + 1)) = putAll (ns.take k) ++ putN ns[k] := by
  unfold putAll
  rw [List.take_succ_eq_append_getElem hk, List.flatMap_append]
  simp only [List.flatMap_cons, List.flatMap_nil, List.append_nil]

set_option maxRecDepth 100000 in
theorem numbers_any (b : Nat) (ns : List Nat) (hn : ns.length ≤ 100) (hbd : ∀ n ∈ ns, n < 9223372036854775808) (w : World) (hp : PtrRow w b ns) :
    Calls Tryd.prog 53 #[.slice (some ⟨b, 0, none⟩) ns.length ns.length] w fun e w' => e = .returned (bstr (putAll ns)) ∧ Below w.heap.size w w' := by
  have HP := Lib.hid hp; clear hp
  have HB := Lib.hid hbd; clear hbd
  go_enter Tryd.func53, Tryd.ntmps53
  go_wp2
  go_loopw [3, 8] (fun s ii wr => ∃ k : Nat, ii = .int .i64 k ∧ k ≤ ns.length ∧ s = bstr (putAll (ns.take k)) ∧ Below w.heap.size w wr) (fun _ ii _ => ns.length - (intOf ii).toNat)
  case atStart => exact ⟨0, rfl, by omega, rfl, Below.refl _ _⟩
  case round =>
    obtain ⟨k, rfl, hk, rfl, hb⟩ := hrel
    by_cases h : k < ns.length
    · obtain ⟨g, o, h1, h2, h3⟩ := (HP.out.below hb).2 k h
      have hx := HB.out _ (List.getElem_mem h)
      have hl := putAll_len (ns.take k)
      have hs := putAll_take ns k h
      have hl2 : (putAll (ns.take k)).length ≤ 1100 := by rw [List.length_take] at hl; omega
      obtain ⟨x, hx'⟩ : ∃ x, ns[k] = x := ⟨_, rfl⟩
      rw [hx'] at h3 hx hs
      have hcv : IntKind.u64.wrap (x : Int) = (x : Int) := IntWalk.u64_in _ (by omega)
      obtain ⟨p, hp⟩ : ∃ p : ByteArray, p = ⟨(putN x).toArray⟩ := ⟨_, rfl⟩
      obtain ⟨q, hq⟩ : ∃ q : ByteArray, q = ⟨(putAll (ns.take k)).toArray⟩ := ⟨_, rfl⟩
      have cp : ∀ w, Calls Tryd.prog 54 #[.int .u64 x] w fun e w' => e = .returned (.string p) ∧ Below w.heap.size w w' := fun w => by rw [hp]; exact numPut_any x (by omega) w
      have hps : p.size ≤ 11 := by rw [hp, bsize]; exact (putN_length _).2
      have hqs : q.size ≤ 1100 := by rw [hq, bsize]; exact hl2
      have fin : Value.string (q ++ p) = bstr (putAll (ns.take (k + 1))) := vstr (by rw [hp, hq, hs]; simp)
      have Fin := Lib.hid fin; clear fin hs hl hl2
      rw [show bstr (putAll (ns.take k)) = .string q by rw [hq]; rfl]
      clear hp hq hx'
      have Cp := Lib.hid cp; clear cp
      go_wp2_with (go_at_call 54; (with_reducible refine (Cp.out _).mono ?_); rintro e wb ⟨rfl, hb2⟩)
      go_roundw
      case rel => exact ⟨k + 1, by go_num, by omega, Fin.out, bt hb hb2⟩
      case measure => simp [intOf]; omega
    · obtain rfl : k = ns.length := by omega
      rw [List.take_of_length_le (by omega)]
      go_wp2
      go_ret
      exact ⟨rfl, hb⟩
end Go.Proofs.YtiphddlakbbfiaaDoor
