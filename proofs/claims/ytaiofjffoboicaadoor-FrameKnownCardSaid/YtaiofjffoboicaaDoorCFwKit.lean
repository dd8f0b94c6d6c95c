/- Parts of a proof, printed by a program of mine out of my texts: FwKit. -/
import Derived.Test.YtaiofjffoboicaaDoorCLaw
set_option linter.unusedSimpArgs false
set_option linter.unusedVariables false
namespace Go.Proofs.YtaiofjffoboicaaDoor
open Go.RowKit
theorem da_of {f : Fr} (h : frC f = 0) : f.da.size ≤ maxLen:=by
  obtain ⟨hk,_,hb,_,_,_,hd⟩:=frC_ok h
  unfold maxLen
  by_cases h3 : f.k = 3
  · unfold bcF at hb
    rw [if_pos h3] at hb
    have:=(buC_ok hb).2.2.2.1
    omega
  · rw [(hd h3).2.2.2.2.2.2.2.2]
    exact Nat.zero_le _
end Go.Proofs.YtaiofjffoboicaaDoor
