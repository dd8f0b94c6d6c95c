/- Parts of a proof, printed by a program of mine out of my texts: FwBits. -/
import Derived.Test.YtaiofjffoboicaaDoorCLaw
set_option linter.unusedSimpArgs false
set_option linter.unusedVariables false
namespace Go.Proofs.YtaiofjffoboicaaDoor
open Go.RowKit
theorem u8_bit (b : UInt8) (r : Nat) (hr : r < 8) : ∃ v : UInt8,v.toNat = b.toNat ^^^ 2 ^ r ∧ v ≠ b:=by
  have hb:=b.toNat_lt
  have hp : 2 ^ r < 256:=Nat.pow_lt_pow_right (n:=8) (by decide) hr
  have h0 : 0 < 2 ^ r:=Nat.pos_of_ne_zero (by simp)
  have hx : b.toNat ^^^ 2 ^ r < 256:=Nat.xor_lt_two_pow (n:=8) (by omega) (by omega)
  refine ⟨UInt8.ofNat (b.toNat ^^^ 2 ^ r),by rw [UInt8.toNat_ofNat'];omega,fun h => ?_⟩
  have h1:=congrArg UInt8.toNat h
  rw [UInt8.toNat_ofNat',Nat.mod_eq_of_lt hx] at h1
  have h2 : b.toNat ^^^ 2 ^ r = b.toNat ^^^ 0:=by rw [h1,Nat.xor_zero]
  have:=xor_cancel h2
  omega
end Go.Proofs.YtaiofjffoboicaaDoor
