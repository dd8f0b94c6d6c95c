/- Parts of a proof, printed by a program of mine out of my texts: StInt. -/
import Derived.OrdersHeld
import Derived.Deep.RegionHeld
import Derived.Deep.Cut
import Derived.Test.YtahopnlibmiafaaDoorMU
set_option linter.unusedSimpArgs false
set_option linter.unusedVariables false
namespace Go.Proofs.YtahopnlibmiafaaDoor
open Go.RowKit
theorem igrown_below {w u v : World} {g : Nat} (h : w.grownBy u (some g)) (hb : Below u.heap.size u v) : w.grownBy v (some g) :=
  ⟨hb.os.trans h.os, hb.tape.trans h.tape, hb.output.trans h.output, Nat.le_trans h.size hb.size, fun k hk hn => (hb.block k (Nat.lt_of_lt_of_le hk h.size)).trans (h.block k hk hn)⟩
theorem igrown_self (w : World) (g : Nat) : w.grownBy w (some g) := ⟨rfl, rfl, rfl, Nat.le_refl _, fun _ _ _ => rfl⟩
theorem igrown_drew {w u : World} {g : Nat} (h : w.grownBy u (some g)) : w.grownBy u.drew (some g) := ⟨h.os, h.tape, h.output, h.size, h.block⟩
end Go.Proofs.YtahopnlibmiafaaDoor
