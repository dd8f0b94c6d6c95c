/- Parts of a proof, printed by a program of mine out of my texts: EgLight. -/
import Derived.Test.YtkaehoihpgelnaaDoorCL
import Derived.Test.YtkaehoihpgelnaaDoorCW
set_option linter.unusedSimpArgs false
set_option linter.unusedVariables false
set_option maxRecDepth 100000
namespace Go.Proofs.YtkaehoihpgelnaaDoor
open Go.RowKit
def LightP (ws ds ps : List Int) (l : List Bn) : Prop:=ws.length ≤ 10 ∧ ds.length ≤ 10 ∧ ps.length ≤ 10 ∧ l.length ≤ 20 ∧ ∀ x ∈ l,x.da.size ≤ 1100
set_option maxHeartbeats 3200000 in
theorem light_any (aw : Option Addr) (cw : Nat) (ad : Option Addr) (cd : Nat) (ap : Option Addr) (cp : Nat) (ws ds ps : List Int) (q t : Int) (a : Option Addr) (cap : Nat) (l : List Bn) (w : World) (hrow : SRow bn 9 w a cap l) :
    Calls Tryd.prog 17 #[.agg #[.slice aw ws.length cw,.int .i64 q,.slice ad ds.length cd,.int .i64 t,.slice ap ps.length cp],.slice a l.length cap] w fun e w' => ∃ p,e = .returned (.bool p) ∧ (p = true → LightP ws ds ps l) ∧ Below w.heap.size w w':=by
  have HR:=Lib.hid hrow
  have hcap:=hrow.1
  have hmax:=hrow.2.1
  unfold maxLen at hmax
  clear hrow
  have bV : Below w.heap.size w (w.alloc (.cells #[.slice aw ws.length cw,.int .i64 q,.slice ad ds.length cd,.int .i64 t,.slice ap ps.length cp] 28)):=(Below.refl _ _).alloc (Nat.le_refl _) _
  by_cases h1 : 10 < ws.length
  · have t1 : decide ((10 : Int) < (ws.length : Int)) = true:=decide_eq_true (by omega)
    have t1n : decide (10 < ws.length) = true:=decide_eq_true h1
    go_enter Tryd.func17,Tryd.ntmps17
    go_wp2
    go_ret
    exact ⟨_,rfl,(fun h => by cases h),bV⟩
  have t1 : decide ((10 : Int) < (ws.length : Int)) = false:=decide_eq_false (by omega)
  have t1n : decide (10 < ws.length) = false:=decide_eq_false h1
  have H1:=Lib.hid h1
  by_cases h2 : 10 < ds.length
  · have t2 : decide ((10 : Int) < (ds.length : Int)) = true:=decide_eq_true (by omega)
    have t2n : decide (10 < ds.length) = true:=decide_eq_true h2
    clear h1
    go_enter Tryd.func17,Tryd.ntmps17
    go_wp2
    go_ret
    exact ⟨_,rfl,(fun h => by cases h),bV⟩
  have t2 : decide ((10 : Int) < (ds.length : Int)) = false:=decide_eq_false (by omega)
  have t2n : decide (10 < ds.length) = false:=decide_eq_false h2
  have H2:=Lib.hid h2
  by_cases h3 : 10 < ps.length
  · have t3 : decide ((10 : Int) < (ps.length : Int)) = true:=decide_eq_true (by omega)
    have t3n : decide (10 < ps.length) = true:=decide_eq_true h3
    clear h1 h2
    go_enter Tryd.func17,Tryd.ntmps17
    go_wp2
    go_ret
    exact ⟨_,rfl,(fun h => by cases h),bV⟩
  have t3 : decide ((10 : Int) < (ps.length : Int)) = false:=decide_eq_false (by omega)
  have t3n : decide (10 < ps.length) = false:=decide_eq_false h3
  have H3:=Lib.hid h3
  by_cases h4 : 20 < l.length
  · have t4 : decide ((20 : Int) < (l.length : Int)) = true:=decide_eq_true (by omega)
    have t4n : decide (20 < l.length) = true:=decide_eq_true h4
    clear h1 h2 h3
    go_enter Tryd.func17,Tryd.ntmps17
    go_wp2
    go_ret
    exact ⟨_,rfl,(fun h => by cases h),bV⟩
  have t4 : decide ((20 : Int) < (l.length : Int)) = false:=decide_eq_false (by omega)
  have t4n : decide (20 < l.length) = false:=decide_eq_false h4
  have l20 : l.length ≤ 20:=by omega
  clear h1 h2 h3 h4
  go_enter Tryd.func17,Tryd.ntmps17
  go_wp2
  go_loopw [5] (fun i wr => ∃ k : Nat,i = .int .i64 k ∧ k ≤ l.length ∧ Below w.heap.size w wr ∧ Hid (∀ i (h : i < l.length),i < k → (l[i]).da.size ≤ 1100)) (fun i _ => l.length - (intOf i).toNat)
  case atStart => exact ⟨0,rfl,Nat.zero_le _,bV,Lib.hid (fun i h h2 => absurd h2 (by omega))⟩
  case round =>
    clear t1 t1n t2 t2n t3 t3n t4 t4n bV
    obtain ⟨k,rfl,hk,hB,HA⟩:=hrel
    by_cases hlt : k < l.length
    · have tt : decide ((k : Int) < (l.length : Int)) = true:=decide_eq_true (by omega)
      have i1 : (k : Int) < (l.length : Int):=by omega
      obtain ⟨b,o,rfl,g1,r1⟩:=(HR.out.below hB).2.2.2 (by omega)
      have c8':=r1 k hlt 8 _ rfl
      obtain ⟨da,hda⟩ : ∃ d,d = (l[k]'hlt).da:=⟨_,rfl⟩
      have c8 : wr.cell? ⟨b,o + k * 9 + 8,none⟩ = some (.string da):=by rw [hda];exact c8'
      have HDA:=Lib.hid hda
      clear r1 hda c8'
      by_cases h5 : 1100 < da.size
      · have t5 : decide ((1100 : Int) < (da.size : Int)) = true:=decide_eq_true (by omega)
        go_wp2
        go_ret
        exact ⟨_,rfl,(fun h => by cases h),hB⟩
      · have t5 : decide ((1100 : Int) < (da.size : Int)) = false:=decide_eq_false (by omega)
        have HN : Hid (∀ i (h : i < l.length),i < k + 1 → (l[i]).da.size ≤ 1100):=Lib.hid (fun i h h2 => by
          rcases Nat.lt_or_ge i k with h9|h9
          · exact HA.out i h h9
          · obtain rfl : i = k:=by omega
            rw [← HDA.out];omega)
        clear HA h5
        go_wp2
        go_roundw
        case rel => exact ⟨k + 1,by go_num,by omega,hB,HN⟩
        case measure => simp [intOf];omega
    · obtain rfl : k = l.length:=by omega
      go_wp2
      go_ret
      exact ⟨_,rfl,(fun _ => ⟨by have:=H1.out;omega,by have:=H2.out;omega,by have:=H3.out;omega,l20,fun x hx => by obtain ⟨i,hi,rfl⟩:=List.getElem_of_mem hx;exact HA.out i hi hi⟩),hB⟩
end Go.Proofs.YtkaehoihpgelnaaDoor
