/- Parts of a proof, printed by a program of mine out of my texts: WiSum, WiSeal, WiMath, WiNums, WiFront. -/
import Derived.Lib.LaidTab
import Derived.Lib.AppendIntMem
import Derived.Laws.BitsAllLaws
import Derived.OwnWalk
import Derived.Laws.OwnMore
import Derived.Maps.AppendAt
import Derived.Test.YthfmkkkdjgkaoaaDoorMA
import Derived.Test.YthfmkkkdjgkaoaaDoorMB
import Derived.Test.YthfmkkkdjgkaoaaDoorMN
set_option linter.unusedSimpArgs false
set_option linter.unusedVariables false
namespace Go.Proofs.YthfmkkkdjgkaoaaDoor
open Go.RowKit
def sumTab : List Int := [0, 274646895, 549293790, 820201905, 1098587580, 1361435347, 1640403810, 1905808397, 2197175160, 2460548119, 2722870694, 2987750089, 3280807620, 3553878443, 3811616794, 4084100981]
abbrev sumNm : String := "packhorse/sum.table"
def STab (w : World) : Prop := Lib.TabBelow Tryd.prog w.heap.size w sumNm .u32 sumTab
theorem STab.on {w w' : World} (h : STab w) (hb : RowKit.Below w.heap.size w w') : STab w' := Lib.tabBelow_of_tabIs (Lib.TabBelow.on h hb).here
end Go.Proofs.YthfmkkkdjgkaoaaDoor
namespace Go.Proofs.YthfmkkkdjgkaoaaDoor
open Go.RowKit
theorem Tryd.infoU8 : (Tryd.prog.info? 5).map (fun i => (i.zero, i.size, i.bytes)) = some (some (.int .u8 0), 1, 1) := by kernel_rfl
end Go.Proofs.YthfmkkkdjgkaoaaDoor
namespace Go.Proofs.YthfmkkkdjgkaoaaDoor
open Go.RowKit
def wholeB (of to : Int) (n : Nat) : Bool := decide (of = 0 ∧ to = (n : Int))
def frontL (no sq of de pr bo li to : Nat) (wh : Bool) : List UInt8 :=
  UInt8.ofNat (176 + pr + if wh then 4 else 0) :: (putN no ++ putN sq ++ putN de ++ putN bo ++ putN li ++ if wh then [] else putN of ++ putN to)
structure Dr where
  no : Int
  sq : Int
  of : Int
  de : Int
  pr : Int
  bo : Int
  li : Int
  to : Int
  da : List UInt8
  err : Int
  fat : Int
def Dr.bad (e a : Int) : Dr := ⟨0, 0, 0, 0, 0, 0, 0, 0, [], e, a⟩
theorem buC_nat {no sq of de pr bo li to n : Nat} (h : buC no sq of de pr bo li to n = 0) : 1 ≤ no ∧ no ≤ 16 ∧ sq ≤ 1099511627776 ∧ of ≤ 19999 ∧ 1 ≤ de ∧ de ≤ 16 ∧ pr ≤ 2 ∧ bo ≤ 1099511627776 ∧ 1 ≤ li ∧ li ≤ 1048576 ∧ 1 ≤ to ∧ to ≤ 20000 ∧ 1 ≤ n ∧ n ≤ 1000 ∧ of + n ≤ to := by
  obtain ⟨⟨a1, a2, a3, a4, a5⟩, ⟨b1, b2, b3, b4, b5, b6, b7, b8, b9, b10⟩, c1, c2, c3⟩ := buC_ok h
  omega
def frLen (no sq of de pr bo li to : Nat) (wh : Bool) : Nat := (frontL no sq of de pr bo li to wh).length
def szN (F n : Nat) : Nat := F + (putN n).length + n + 4
theorem frLen_le (no sq of de pr bo li to : Nat) (wh : Bool) : 6 ≤ frLen no sq of de pr bo li to wh ∧ frLen no sq of de pr bo li to wh ≤ 78 := by
  unfold frLen frontL
  have a1 := putN_length no
  have a2 := putN_length sq
  have a3 := putN_length of
  have a4 := putN_length de
  have a5 := putN_length bo
  have a6 := putN_length li
  have a7 := putN_length to
  cases wh <;> simp <;> omega
end Go.Proofs.YthfmkkkdjgkaoaaDoor
namespace Go.Proofs.YthfmkkkdjgkaoaaDoor
open Go.RowKit
def PtrRow (w : World) (b : Nat) (ns : List Nat) : Prop :=
  b < w.heap.size ∧ ∀ k (hk : k < ns.length), ∃ g o, g < w.heap.size ∧ w.cell? ⟨b, k, none⟩ = some (.pointer (some ⟨g, o, none⟩)) ∧ w.cell? ⟨g, o, none⟩ = some (.int .i64 (ns[k] : Nat))
theorem PtrRow.below {w w' : World} {b : Nat} {ns : List Nat} (h : PtrRow w b ns) (hb : Below w.heap.size w w') : PtrRow w' b ns := by
  refine ⟨Nat.lt_of_lt_of_le h.1 hb.size, fun k hk => ?_⟩
  obtain ⟨g, o, h1, h2, h3⟩ := h.2 k hk
  have e : ∀ x y, x < w.heap.size → w'.cell? ⟨x, y, none⟩ = w.cell? ⟨x, y, none⟩ := fun x y hx => by
    simp only [World.cell?, hb.block x hx]
  exact ⟨g, o, Nat.lt_of_lt_of_le h1 hb.size, by rw [e _ _ h.1]; exact h2, by rw [e _ _ h1]; exact h3⟩
def putAll (ns : List Nat) : List UInt8 := ns.flatMap putN
theorem putAll_len (ns : List Nat) : (putAll ns).length ≤ 11 * ns.length := by
  induction ns with
  | nil => simp [putAll]
  | cons n ns ih => have := (putN_length n).2; simp [putAll] at *; omega
theorem putAll_take (ns : List Nat) (k : Nat) (hk : k < ns.length) : putAll (ns.take (k + 1)) = putAll (ns.take k) ++ putN ns[k] := by
  unfold putAll
  rw [List.take_succ_eq_append_getElem hk, List.flatMap_append]
  simp only [List.flatMap_cons, List.flatMap_nil, List.append_nil]
set_option maxRecDepth 100000 in
theorem numbers_any (b : Nat) (ns : List Nat) (hn : ns.length ≤ 100) (hbd : ∀ n ∈ ns, n < 9223372036854775808) (w : World) (hp : PtrRow w b ns) :
    Calls Tryd.prog 97 #[.slice (some ⟨b, 0, none⟩) ns.length ns.length] w fun e w' => e = .returned (bstr (putAll ns)) ∧ Below w.heap.size w w' := by
  have HP := Lib.hid hp; clear hp
  have HB := Lib.hid hbd; clear hbd
  go_enter Tryd.func97, Tryd.ntmps97
  go_wp2
  go_loopw [3, 8] (fun s ii wr => ∃ k : Nat, ii = .int .i64 k ∧ k ≤ ns.length ∧ s = bstr (putAll (ns.take k)) ∧ Below w.heap.size w wr) (fun _ ii _ => ns.length - (intOf ii).toNat)
  case atStart => exact ⟨0, rfl, by omega, rfl, Below.refl _ _⟩
  case round =>
    obtain ⟨k, rfl, hk, rfl, hb⟩ := hrel
    by_cases h : k < ns.length
    · obtain ⟨g, o, h1, h2, h3⟩ := (HP.out.below hb).2 k h
      have hx := HB.out _ (List.getElem_mem h)
      have hl := putAll_len (ns.take k)
      have hs := putAll_take ns k h
      have hl2 : (putAll (ns.take k)).length ≤ 1100 := by rw [List.length_take] at hl; omega
      obtain ⟨x, hx'⟩ : ∃ x, ns[k] = x := ⟨_, rfl⟩
      rw [hx'] at h3 hx hs
      have hcv : IntKind.u64.wrap (x : Int) = (x : Int) := IntWalk.u64_in _ (by omega)
      obtain ⟨p, hp⟩ : ∃ p : ByteArray, p = ⟨(putN x).toArray⟩ := ⟨_, rfl⟩
      obtain ⟨q, hq⟩ : ∃ q : ByteArray, q = ⟨(putAll (ns.take k)).toArray⟩ := ⟨_, rfl⟩
      have cp : ∀ w, Calls Tryd.prog 98 #[.int .u64 x] w fun e w' => e = .returned (.string p) ∧ Below w.heap.size w w' := fun w => by rw [hp]; exact numPut_any x (by omega) w
      have hps : p.size ≤ 11 := by rw [hp, bsize]; exact (putN_length _).2
      have hqs : q.size ≤ 1100 := by rw [hq, bsize]; exact hl2
      have fin : Value.string (q ++ p) = bstr (putAll (ns.take (k + 1))) := vstr (by rw [hp, hq, hs]; simp)
      have Fin := Lib.hid fin; clear fin hs hl hl2
      rw [show bstr (putAll (ns.take k)) = .string q by rw [hq]; rfl]
      clear hp hq hx'
      have Cp := Lib.hid cp; clear cp
      go_wp2_with (go_at_call 98; (with_reducible refine (Cp.out _).mono ?_); rintro e wb ⟨rfl, hb2⟩)
      go_roundw
      case rel => exact ⟨k + 1, by go_num, by omega, Fin.out, bt hb hb2⟩
      case measure => simp [intOf]; omega
    · obtain rfl : k = ns.length := by omega
      rw [List.take_of_length_le (by omega)]
      go_wp2
      go_ret
      exact ⟨rfl, hb⟩
end Go.Proofs.YthfmkkkdjgkaoaaDoor
namespace Go.Proofs.YthfmkkkdjgkaoaaDoor
open Go.RowKit
set_option maxRecDepth 100000 in
set_option maxHeartbeats 800000 in
theorem whole_any (no sq of de pr bo li to : Int) (da : ByteArray) (hda : da.size ≤ maxLen) (w : World) :
    Calls Tryd.prog 96 #[buv no sq of de pr bo li to da] w fun e w' => e = .returned (.bool (wholeB of to da.size)) ∧ Below w.heap.size w w' := by
  unfold maxLen at hda
  unfold wholeB
  by_cases h1 : of = 0
  · subst h1
    by_cases h2 : to = (da.size : Int)
    · rw [show decide ((0 : Int) = 0 ∧ to = (da.size : Int)) = true by simp [h2]]
      subst h2
      go_enter Tryd.func96, Tryd.ntmps96
      go_wp2
      go_ret
      exact ⟨rfl, by (repeat (first | (with_reducible assumption) | (with_reducible exact Below.refl _ _) | (with_reducible refine beld_drew ?_) | ((with_reducible refine bset' ?_ ?_); (first | (focus (dsimp only; assumption)) | (focus (simp; done)) | (focus (dsimp only; omega)))) | (with_reducible refine belt_alloc ?_) | ((with_reducible refine zeroed_below' ?_ ?_); (first | (focus (simp; done)) | (focus (dsimp only; omega)))) | (with_reducible refine bt ?_ (by assumption))))⟩
    · rw [show decide ((0 : Int) = 0 ∧ to = (da.size : Int)) = false by simp [h2]]
      have e2 : (to == (da.size : Int)) = false := by simp [h2]
      go_enter Tryd.func96, Tryd.ntmps96
      go_wp2
      go_ret
      exact ⟨rfl, by (repeat (first | (with_reducible assumption) | (with_reducible exact Below.refl _ _) | (with_reducible refine beld_drew ?_) | ((with_reducible refine bset' ?_ ?_); (first | (focus (dsimp only; assumption)) | (focus (simp; done)) | (focus (dsimp only; omega)))) | (with_reducible refine belt_alloc ?_) | ((with_reducible refine zeroed_below' ?_ ?_); (first | (focus (simp; done)) | (focus (dsimp only; omega)))) | (with_reducible refine bt ?_ (by assumption))))⟩
  · rw [show decide (of = 0 ∧ to = (da.size : Int)) = false by simp [h1]]
    have e1 : (of == 0) = false := by simp [h1]
    go_enter Tryd.func96, Tryd.ntmps96
    go_wp2
    go_ret
    exact ⟨rfl, by (repeat (first | (with_reducible assumption) | (with_reducible exact Below.refl _ _) | (with_reducible refine beld_drew ?_) | ((with_reducible refine bset' ?_ ?_); (first | (focus (dsimp only; assumption)) | (focus (simp; done)) | (focus (dsimp only; omega)))) | (with_reducible refine belt_alloc ?_) | ((with_reducible refine zeroed_below' ?_ ?_); (first | (focus (simp; done)) | (focus (dsimp only; omega)))) | (with_reducible refine bt ?_ (by assumption))))⟩
theorem numPut_str (n : Nat) (hn : n < 9223372036854775808) : ∃ p : ByteArray, p.data.toList = putN n ∧ p.size ≤ 11 ∧ ∀ w, Calls Tryd.prog 98 #[.int .u64 (n : Int)] w fun e w' => e = .returned (.string p) ∧ Below w.heap.size w w' :=
  ⟨⟨(putN n).toArray⟩, rfl, by rw [bsize]; exact (putN_length n).2, fun w => numPut_any n (by omega) w⟩
end Go.Proofs.YthfmkkkdjgkaoaaDoor
