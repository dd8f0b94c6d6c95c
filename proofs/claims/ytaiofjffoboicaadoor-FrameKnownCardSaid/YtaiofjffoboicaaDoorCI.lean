/- Parts of a proof, printed by a program of mine out of my texts: WiRefRead. -/
import Derived.Test.YtaiofjffoboicaaDoorCE
set_option linter.unusedSimpArgs false
set_option linter.unusedVariables false
namespace Go.Proofs.YtaiofjffoboicaaDoor
open Go.RowKit
def Touch (b : Nat) (w w' : World) : Prop:=Below b w w' ∧ (∀ d c,d ≠ b → blk w d = some c → blk w' d = some c) ∧ w.heap.size ≤ w'.heap.size
theorem Touch.refl (b : Nat) (w : World) : Touch b w w:=⟨Below.refl _ _,fun _ _ _ h => h,Nat.le_refl _⟩
theorem Touch.set {b i : Nat} {w W : World} {v : Value} (h : Touch b w W) : Touch b w (W.setCell ⟨b,i,none⟩ v) :=
  ⟨h.1.setCell (p:=⟨b,i,none⟩) (Nat.le_refl _) v,fun d c hd hc => blk_other (h.2.1 d c hd hc) hd,by simpa using h.2.2⟩
theorem Touch.drew {b : Nat} {w W : World} (h : Touch b w W) : Touch b w W.drew:=⟨h.1.drew,fun d c hd hc => blk_drew (h.2.1 d c hd hc),h.2.2⟩
theorem Touch.below {b : Nat} {w W W' : World} (h : Touch b w W) (hb : Below W.heap.size W W') (hlt : b ≤ W.heap.size) : Touch b w W' :=
  ⟨h.1.trans (hb.mono hlt),fun d c hd hc => blk_below hb (h.2.1 d c hd hc),Nat.le_trans h.2.2 hb.size⟩
theorem Touch.trans {b : Nat} {w W W' : World} (h : Touch b w W) (k : Touch b W W') : Touch b w W' :=
  ⟨h.1.trans k.1,fun d c hd hc => k.2.1 d c hd (h.2.1 d c hd hc),Nat.le_trans h.2.2 k.2.2⟩
theorem Touch.alloc {b : Nat} {w W : World} {o : Obj} (h : Touch b w W) (hb : b < w.heap.size) : Touch b w (W.alloc o) :=
  h.below ((Below.refl _ _).alloc (Nat.le_refl _) _) (Nat.le_trans (Nat.le_of_lt hb) h.2.2)
abbrev rdC (s : ByteArray) (p er fa : Int) : Array Value:=#[.string s,.int .i64 p,.int .i64 er,.int .i64 fa]
end Go.Proofs.YtaiofjffoboicaaDoor
