/- Small words that all my walks share. -/
import Derived.Test.YtahopnlibmiafaaDoorChecked
import Derived.WalkKit
import Derived.WalkSpells
import Derived.WalkLawsBesides
import Derived.Lib.Hide
import Derived.Laws.BytesString
import Derived.Laws.IdiomStrings
import Derived.Lib.ConvBytes
import Derived.Deep.Quiet
import Derived.Deep.QuietTactic
import Derived.BigQuiet
import Derived.Deep.RegionWith
namespace Go.Proofs.YtahopnlibmiafaaDoor
set_option linter.unusedVariables false
open Go.RowKit

/-- A text as a value. -/
def bstr (l : List UInt8) : Value := .string ⟨l.toArray⟩
theorem ret_int {k : IntKind} {a b : Int} (h : a = b) : Ending.returned (.int k a) = .returned (.int k b) := by rw [h]
theorem ret_bool {a b : Bool} (h : a = b) : Ending.returned (.bool a) = .returned (.bool b) := by rw [h]
theorem ret_str {a : ByteArray} {l : List UInt8} (h : a.data.toList = l) : Ending.returned (.string a) = .returned (bstr l) := by
  subst h; rfl
theorem vstr {a : ByteArray} {l : List UInt8} (h : a.data.toList = l) : Value.string a = bstr l := by
  subst h; rfl
theorem ret_3 {k1 k2 k3 : IntKind} {a b c a' b' c' : Int} (h1 : a = a') (h2 : b = b') (h3 : c = c') :
    Ending.returned (.tuple #[.int k1 a, .int k2 b, .int k3 c]) = .returned (.tuple #[.int k1 a', .int k2 b', .int k3 c']) := by rw [h1, h2, h3]
theorem ret_2 {k1 k2 : IntKind} {a b a' b' : Int} (h1 : a = a') (h2 : b = b') :
    Ending.returned (.tuple #[.int k1 a, .int k2 b]) = .returned (.tuple #[.int k1 a', .int k2 b']) := by rw [h1, h2]

theorem bt {w a b : World} (h : Below w.heap.size w a) (k : Below a.heap.size a b) : Below w.heap.size w b := h.trans (k.mono h.size)
/-- 'string([]byte{x})'. -/
theorem one_byte {P : Program} {src dst e : TypeId} (hs : P.underlying src = some (.slice e)) (he : P.underlying e = some (.int .u8)) (hd : P.underlying dst = some .string) (x : Int) (w : World) :
    (convert src dst (.slice (some ⟨w.heap.size, 0, none⟩) 1 1)).run P (w.alloc (.cells #[.int .u8 x] e)) = .ok (.string ⟨#[UInt8.ofNat x.toNat]⟩) (w.alloc (.cells #[.int .u8 x] e)) := by
  rw [run_convert_bytes_string _ src dst e _ _ _ hs he hd]
  have := run_bytesToString (P := P) (w.alloc (.cells #[.int .u8 x] e)) ⟨w.heap.size, 0, none⟩ 1 1 [x] (by
    have hl := run_loadCells_list (P := P) (w.alloc (.cells #[.int .u8 x] e)) ⟨w.heap.size, 0, none⟩ [.int .u8 x] (fun j v hj => by
      have hj0 : j = 0 := by
        have := (List.getElem?_eq_some_iff.1 hj).1
        simpa using this
      subst hj0
      simp at hj; subst hj
      simp [Addr.add])
    simpa using hl)
  rw [this]
  simp
  rfl
/-- The same in whatever world in which the row's cell is known. -/
theorem byte_at {P : Program} {src dst e : TypeId} (hs : P.underlying src = some (.slice e)) (he : P.underlying e = some (.int .u8)) (hd : P.underlying dst = some .string) (b : Nat) (x : Int) (w : World) (hc : w.cell? ⟨b, 0, none⟩ = some (.int .u8 x)) :
    (convert src dst (.slice (some ⟨b, 0, none⟩) 1 1)).run P w = .ok (.string ⟨#[UInt8.ofNat x.toNat]⟩) w := by
  rw [run_convert_bytes_string _ src dst e _ _ _ hs he hd]
  have := run_bytesToString (P := P) w ⟨b, 0, none⟩ 1 1 [x] (by
    have hl := run_loadCells_list (P := P) w ⟨b, 0, none⟩ [.int .u8 x] (fun j v hj => by
      have hj0 : j = 0 := by
        have := (List.getElem?_eq_some_iff.1 hj).1
        simpa using this
      subst hj0
      simp at hj; subst hj
      simpa [Addr.add] using hc)
    simpa using hl)
  rw [this]
  simp
  rfl
/-- '[]byte(s)': a new row that holds the bytes. -/
theorem bytes_of {P : Program} {src dst e : TypeId} (hs : P.underlying src = some .string) (hd : P.underlying dst = some (.slice e)) (he : P.underlying e = some (.int .u8)) (t : ByteArray) (w : World) :
    ∃ cap W1, (convert src dst (.string t)).run P w = .ok (.slice (some ⟨w.heap.size, 0, none⟩) t.size cap) W1 ∧ W1.heap.size = w.heap.size + 1 ∧
      (∀ i (h : i < t.size), W1.cell? ⟨w.heap.size, i, none⟩ = some (.int .u8 (t[i].toNat : Int))) ∧ Below w.heap.size w W1 := by
  refine ⟨_, _, run_bytes_of_string w src dst e t hs hd he, ?_, ?_, (((Below.refl _ _).drew).alloc (by simp) _)⟩
  · simp
  · intro i h
    have := Lib.bytesWorld_cell w e t i h
    have h1 := run_bytes_of_string (P := P) w src dst e t hs hd he
    have h2 := Lib.run_convert_string_bytes (P := P) w src dst e t hs hd he
    rw [h1] at h2
    rw [(Result.ok.inj h2).2, this]
    simp [List.getD, h]
    rfl

/-! ### A region that draws its order, whose operations leave the world alone and whose calls make memory at most -/
def Calm (w w' : World) : Prop := Below w.heap.size w w'
theorem Calm.refl (w : World) : Calm w w := Below.refl _ _
@[go_sem] theorem calm_const {w : World} {p : Prop} : (∀ w', Calm w w' → p) = p := propext ⟨fun h => h w (Calm.refl w), fun h _ _ => h⟩
theorem Calls.calm {P : Program} {f : FuncId} {args : Array Value} {w W : World} {v : Value} (hq : Calm w W)
    (h : Calls P f args W fun e w' => e = .returned v ∧ Below W.heap.size W w') : Calls P f args W fun e w'' => e = .returned v ∧ Calm w w'' :=
  h.mono fun _ _ ⟨he, hb⟩ => ⟨he, bt hq hb⟩
theorem Calls.calm_same {P : Program} {f : FuncId} {args : Array Value} {w W : World} {v : Value} (hq : Calm w W)
    (h : Calls P f args W fun e w' => e = .returned v ∧ W = w') : Calls P f args W fun e w'' => e = .returned v ∧ Calm w w'' :=
  h.mono fun _ _ ⟨he, hb⟩ => ⟨he, hb ▸ hq⟩
theorem wp_region_calm {P : Program} {id : Nat} {Q : Exit → Act → World → Prop} {a : Act} {w : World} {l : List Oper} (hm : P.follows .mixedOrders = true) (hB : Region.lexB .any l.toArray = true)
    (h : wpQuiet P l.toArray (Calm w) (fun a' => ∀ w', Calm w w' → Q .normal a' w') l a) : (Code.region id l.toArray true).wp P Q a w :=
  wp_region_quiet (C := Calm w) hm hB ((Below.refl _ _).drew) (by simpa using h)

end Go.Proofs.YtahopnlibmiafaaDoor
