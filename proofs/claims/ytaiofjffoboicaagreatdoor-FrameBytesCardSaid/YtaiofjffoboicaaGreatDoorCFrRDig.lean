/- Parts of a proof, printed by a program of mine out of my texts: FrRDig. -/
import Derived.Test.YtaiofjffoboicaaGreatDoorCFx
set_option linter.unusedSimpArgs false
set_option linter.unusedVariables false
namespace Go.Proofs.YtaiofjffoboicaaGreatDoor
open Go.RowKit
theorem dig_slice (x : Int) (h0 : 0 ≤ x) (h1 : x < 10) (w : World) : (Instr.sliceAt 9 (.string ⟨#[48,49,50,51,52,53,54,55,56,57]⟩) (some (.int .u64 x)) (some (.int .u64 (x + 1))) none).run Tryz.prog w = .ok (.string ⟨#[UInt8.ofNat (48 + x.toNat)]⟩) w:=by
  rcases (show x = 0 ∨ x = 1 ∨ x = 2 ∨ x = 3 ∨ x = 4 ∨ x = 5 ∨ x = 6 ∨ x = 7 ∨ x = 8 ∨ x = 9 by omega) with rfl|rfl|rfl|rfl|rfl|rfl|rfl|rfl|rfl|rfl <;> kernel_rfl
set_option maxRecDepth 100000 in
set_option maxHeartbeats 1600000 in
theorem rdigits_any (n : Nat) : ∀ (u : Nat) (w : World),u < 10 ^ (n + 1) → u < 18446744073709551616 →
    Calls Tryz.prog 26 #[.int .u64 (u : Int)] w fun e w' => e = .returned (.string (numB u)) ∧ Below w.heap.size w w':=by
  have small : ∀ (u : Nat) (w : World),u < 10 → Calls Tryz.prog 26 #[.int .u64 (u : Int)] w fun e w' => e = .returned (.string (numB u)) ∧ Below w.heap.size w w':=by
    intro u w h
    have e:=numB_small u h
    have hs:=fun W => dig_slice (u : Int) (by omega) (by omega) W
    rw [show ((u : Int)).toNat = u by omega] at hs
    rw [← e] at hs
    obtain ⟨s,hs'⟩ : ∃ s,numB u = s:=⟨_,rfl⟩
    rw [hs'] at hs ⊢
    clear e hs'
    have m1 : IntKind.u64.wrap ((u : Int) + 1) = (u : Int) + 1:=IntWalk.u64_in _ (by omega)
    go_enter Tryz.func26,Tryz.ntmps26
    go_wp2
    go_ret
    exact ⟨rfl,by (repeat(first|(with_reducible first|assumption|exact Below.refl _ _|refine je ?_|refine jl ?_)|((with_reducible refine jp ?_ ?_);first|focus(dsimp only;assumption)|focus(simp;done)|focus(dsimp only;omega))|(with_reducible refine bt ?_ (by assumption))))⟩
  induction n with
  | zero => intro u w h _;exact small u w (by simpa using h)
  | succ n ih =>
    intro u w h hu
    by_cases h10 : u < 10
    · exact small u w h10
    · have e:=numB_step u h10
      have g1:=fun w => ih (u / 10) w (by rw [Nat.pow_succ] at h;omega) (by omega)
      have hz:=numB_size (u / 10) (by omega)
      obtain ⟨s,hs⟩ : ∃ s,numB u = s:=⟨_,rfl⟩
      obtain ⟨t,ht⟩ : ∃ s,numB (u / 10) = s:=⟨_,rfl⟩
      rw [hs] at e ⊢
      rw [ht] at e g1 hz
      have hsl:=fun W => dig_slice ((u : Int) % 10) (by omega) (by omega) W
      rw [show ((u : Int) % 10).toNat = u % 10 by omega] at hsl
      obtain ⟨d,hd⟩ : ∃ d : ByteArray,⟨#[UInt8.ofNat (48 + u % 10)]⟩ = d:=⟨_,rfl⟩
      have hd1 : d.size ≤ 1:=by rw [← hd];exact Nat.le_refl _
      rw [hd] at hsl
      rw [show (⟨#[48 + UInt8.ofNat (u % 10)]⟩ : ByteArray) = d by rw [← hd,UInt8.ofNat_add];rfl] at e
      have E:=Lib.hid e
      rw [show ((u / 10 : Nat) : Int) = (u : Int) / 10 by omega] at g1
      replace g1:=Lib.hid g1
      clear e hs ht ih small h hd
      have m0 : IntKind.u64.wrap ((u : Int) / 10) = (u : Int) / 10:=IntWalk.u64_in _ (by omega)
      have m1 : (u : Int).tmod 10 = (u : Int) % 10:=Int.tmod_eq_emod_of_nonneg (by omega)
      have m2 : IntKind.u64.wrap ((u : Int) % 10 + 1) = (u : Int) % 10 + 1:=IntWalk.u64_in _ (by omega)
      have m3 : (u : Int).tdiv 10 = (u : Int) / 10:=Int.tdiv_eq_ediv_of_nonneg (by omega)
      have m4 : IntKind.u64.wrap ((u : Int) % 10) = (u : Int) % 10:=IntWalk.u64_in _ (by omega)
      have m5 : ¬ (9223372036854775807 < t.size + d.size):=by omega
      go_enter Tryz.func26,Tryz.ntmps26
      go_wp2_with fail
      refine wp_region_in (by kernel_rfl) (by kernel_rfl) ?_
      intro W0_1 hE_1 hN_1
      have bW0_1 : Below w.heap.size w W0_1:=(by rw [hE_1.out];(repeat(first|(with_reducible first|assumption|exact Below.refl _ _|refine je ?_|refine jl ?_)|((with_reducible refine jp ?_ ?_);first|focus(dsimp only;assumption)|focus(simp;done)|focus(dsimp only;omega))|(with_reducible refine bt ?_ (by assumption)))))
      clear hE_1
      repeat (go_big_quiet_step ((go_at_call 26;(with_reducible refine Class.go _ (g1.out _)))))
      refine wpQuiet_nil ?_
      rintro _ ⟨x_1,rfl⟩
      have hx_1 : Calm W0_1 x_1.wd:=x_1.ok
      have bW1 : Below w.heap.size w x_1.wd:=bt bW0_1 hx_1
      clear hx_1 bW0_1 hN_1
      generalize x_1.wd = W1 at *
      go_wp2
      go_ret
      exact ⟨by rw [E.out];rfl,by (repeat(first|(with_reducible first|assumption|exact Below.refl _ _|refine je ?_|refine jl ?_)|((with_reducible refine jp ?_ ?_);first|focus(dsimp only;assumption)|focus(simp;done)|focus(dsimp only;omega))|(with_reducible refine bt ?_ (by assumption))))⟩
theorem rdig_str (x : Int) (h0 : 0 ≤ x) (h : x < 9223372036854775808) : ∃ p : ByteArray,p = numB x.toNat ∧ p.size ≤ 20 ∧ IntKind.u64.wrap x = x ∧ ∀ w,Calls Tryz.prog 26 #[.int .u64 x] w fun e w' => e = .returned (.string p) ∧ Below w.heap.size w w':=by
  obtain ⟨n,rfl⟩ : ∃ n : Nat,x = n:=⟨x.toNat,by omega⟩
  exact ⟨numB n,by simp,(numB_size n (by omega)).2,IntWalk.u64_in _ (by omega),fun w => rdigits_any 20 n w (by omega) (by omega)⟩
end Go.Proofs.YtaiofjffoboicaaGreatDoor
