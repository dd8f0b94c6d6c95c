/- Open32: is a text sealed. -/
import Derived.Test.YtiphddlakbbfiaaDoorWiPeek
namespace Go.Proofs.YtiphddlakbbfiaaDoor
set_option linter.unusedVariables false
open Go.RowKit

/-- Is the text of n bytes and four sealed. -/
def sealedB (l : List UInt8) (n : Nat) : Bool := decide (four (crcN (l.take n)) = l.drop n)
set_option maxRecDepth 100000 in
set_option maxHeartbeats 800000 in
theorem openG_ok (s : ByteArray) (n : Nat) (hs : s.size = n + 4) (hn : n ≤ 1000000) (ho : sealedB s.data.toList n = true) (w : World) (hT : STab w) :
    Calls Tryd.prog 62 #[.string s, .func (.func 52) #[] #[]] w fun e w' => e = .returned (.tuple #[.string (s.extract 0 n), .int .i64 0]) ∧ Below w.heap.size w w' := by
  have e1 : (s.extract 0 n).size = n := by simp; omega
  have e2 : (s.extract 0 n).data.toList = s.data.toList.take n := by simp
  have g1 := fun w => crc32_any (s.extract 0 n) (by omega) w
  have g2 := fun w => text_any (crcN (s.extract 0 n).data.toList) (crcN_lt _) w
  obtain ⟨t2, ht2⟩ : ∃ t, s.extract n s.size = t := ⟨_, rfl⟩
  have h1 : t2.data.toList = s.data.toList.drop n := by
    have hl : s.data.toList.length = s.size := by simp
    rw [← ht2, Lib.extract_data, List.take_of_length_le (by rw [List.length_drop]; omega)]
  have e3 : bstr (four (crcN (s.extract 0 n).data.toList)) = .string t2 := by
    rw [e2]
    refine (vstr ?_).symm
    rw [h1]
    have h2 : four (crcN (s.data.toList.take n)) = s.data.toList.drop n := by simpa [sealedB] using ho
    exact h2.symm
  rw [e3] at g2
  obtain ⟨c, hc⟩ : ∃ c, crcN (s.extract 0 n).data.toList = c := ⟨_, rfl⟩
  rw [hc] at g1 g2
  have z2 : t2.size = 4 := by rw [← ht2]; simp; omega
  have gz : ∀ w, Calls Tryd.prog 66 #[.int .u32 0] w fun e w' => e = .returned (.int .i64 4) ∧ w = w' := fun w => size32_any 0 w
  replace gz := Lib.hid gz
  replace g1 := Lib.hid fun w h => g1 w h; replace g2 := Lib.hid g2
  have ST := Lib.hid hT
  have hss : (s.size : Int) = (n : Int) + 4 := by omega
  have HS := Lib.hid hs
  clear hc e2 e3 ho hT hs h1
  go_enter Tryd.func62, Tryd.ntmps62
  go_wp2_with (go_at_call 66; (with_reducible refine (gz.out _).mono ?_); rintro e wx ⟨rfl, rfl⟩)
  refine wp_region_in (by kernel_rfl) (by kernel_rfl) ?_
  intro W0_1 hE_1 hN_1
  have bW0_1 : Below w.heap.size w W0_1 := (by rw [hE_1.out]; (repeat (first | (with_reducible assumption) | (with_reducible exact Below.refl _ _) | (with_reducible refine beld_drew ?_) | ((with_reducible refine bset' ?_ ?_); (first | (focus (dsimp only; assumption)) | (focus (simp; done)) | (focus (dsimp only; omega)))) | (with_reducible refine belt_alloc ?_) | ((with_reducible refine zeroed_below' ?_ ?_); (first | (focus (simp; done)) | (focus (dsimp only; omega)))) | (with_reducible refine bt ?_ (by assumption)))))
  clear hE_1
  repeat (go_big_quiet_step ((first | (go_at_call 52; (with_reducible refine Class.same _ (g1.out _ (ST.out.on (bt (by assumption) (Class.ok _)))))) | (go_at_call 51; (with_reducible refine Class.go _ (g2.out _))))))
  refine wpQuiet_nil ?_
  rintro _ ⟨x_1, rfl⟩
  have hx_1 : Calm W0_1 x_1.wd := x_1.ok
  have bw2 : Below w.heap.size w x_1.wd := bt bW0_1 hx_1
  clear hx_1 bW0_1 hN_1
  generalize x_1.wd = w2 at *
  have sw2 := bw2.size
  go_wp2
  go_ret2
  exact ⟨rfl, bw2⟩
theorem open_ok (s : ByteArray) (n : Nat) (hs : s.size = n + 4) (hn : n ≤ 1000000) (ho : sealedB s.data.toList n = true) (w : World) (hT : STab w) :
    Calls Tryd.prog 42 #[.string s] w fun e w' => e = .returned (.tuple #[.string (s.extract 0 n), .int .i64 0]) ∧ Below w.heap.size w w' := by
  have g1 := Lib.hid (openG_ok s n hs hn ho w hT)
  go_enter Tryd.func42, Tryd.ntmps42
  go_wp2_with (go_at_call 62; (with_reducible refine g1.out.mono ?_); rintro e w1 ⟨rfl, h1⟩)
  go_ret2
  exact ⟨rfl, h1⟩
set_option maxRecDepth 100000 in
set_option maxHeartbeats 800000 in
theorem openG_bad (s : ByteArray) (n : Nat) (hs : s.size = n + 4) (hn : n ≤ 1000000) (ho : sealedB s.data.toList n = false) (w : World) (hT : STab w) :
    Calls Tryd.prog 62 #[.string s, .func (.func 52) #[] #[]] w fun e w' => e = .returned (.tuple #[.string ⟨#[]⟩, .int .i64 10]) ∧ Below w.heap.size w w' := by
  have e1 : (s.extract 0 n).size = n := by simp; omega
  have e2 : (s.extract 0 n).data.toList = s.data.toList.take n := by simp
  have g1 := fun w => crc32_any (s.extract 0 n) (by omega) w
  have g2 := fun w => text_any (crcN (s.extract 0 n).data.toList) (crcN_lt _) w
  obtain ⟨t2, ht2⟩ : ∃ t, s.extract n s.size = t := ⟨_, rfl⟩
  have h1 : t2.data.toList = s.data.toList.drop n := by
    have hl : s.data.toList.length = s.size := by simp
    rw [← ht2, Lib.extract_data, List.take_of_length_le (by rw [List.length_drop]; omega)]
  obtain ⟨t3, ht3⟩ : ∃ t : ByteArray, t.data.toList = four (crcN (s.extract 0 n).data.toList) := ⟨⟨(four (crcN (s.extract 0 n).data.toList)).toArray⟩, rfl⟩
  have e3 : bstr (four (crcN (s.extract 0 n).data.toList)) = .string t3 := (vstr ht3).symm
  have hne : t3.data.toList ≠ t2.data.toList := by
    rw [ht3, h1, e2]
    simpa [sealedB] using ho
  have hne2 : t3.toList ≠ t2.toList := by rw [ByteArray.toList_eq, ByteArray.toList_eq]; exact hne
  have hne0 : t3 ≠ t2 := fun h => hne (by rw [h])
  have q1 : (t3.toList == t2.toList) = false := by simp [hne2]
  have q2 : (t3.toList != t2.toList) = true := by simp [hne2]
  clear hne hne2 ht3
  rw [e3] at g2
  obtain ⟨c, hc⟩ : ∃ c, crcN (s.extract 0 n).data.toList = c := ⟨_, rfl⟩
  rw [hc] at g1 g2
  have z2 : t2.size = 4 := by rw [← ht2]; simp; omega
  have gz : ∀ w, Calls Tryd.prog 66 #[.int .u32 0] w fun e w' => e = .returned (.int .i64 4) ∧ w = w' := fun w => size32_any 0 w
  replace gz := Lib.hid gz
  replace g1 := Lib.hid fun w h => g1 w h; replace g2 := Lib.hid g2
  have ST := Lib.hid hT
  have hss : (s.size : Int) = (n : Int) + 4 := by omega
  have HS := Lib.hid hs
  clear hc e2 e3 ho hT hs h1
  go_enter Tryd.func62, Tryd.ntmps62
  go_wp2_with (go_at_call 66; (with_reducible refine (gz.out _).mono ?_); rintro e wx ⟨rfl, rfl⟩)
  refine wp_region_in (by kernel_rfl) (by kernel_rfl) ?_
  intro W0_2 hE_2 hN_2
  have bW0_2 : Below w.heap.size w W0_2 := (by rw [hE_2.out]; (repeat (first | (with_reducible assumption) | (with_reducible exact Below.refl _ _) | (with_reducible refine beld_drew ?_) | ((with_reducible refine bset' ?_ ?_); (first | (focus (dsimp only; assumption)) | (focus (simp; done)) | (focus (dsimp only; omega)))) | (with_reducible refine belt_alloc ?_) | ((with_reducible refine zeroed_below' ?_ ?_); (first | (focus (simp; done)) | (focus (dsimp only; omega)))) | (with_reducible refine bt ?_ (by assumption)))))
  clear hE_2
  repeat (go_big_quiet_step ((first | (go_at_call 52; (with_reducible refine Class.same _ (g1.out _ (ST.out.on (bt (by assumption) (Class.ok _)))))) | (go_at_call 51; (with_reducible refine Class.go _ (g2.out _))))))
  refine wpQuiet_nil ?_
  rintro _ ⟨x_2, rfl⟩
  have hx_2 : Calm W0_2 x_2.wd := x_2.ok
  have bw2 : Below w.heap.size w x_2.wd := bt bW0_2 hx_2
  clear hx_2 bW0_2 hN_2
  generalize x_2.wd = w2 at *
  have sw2 := bw2.size
  go_wp2
  go_ret2
  exact ⟨rfl, bw2⟩
theorem open_bad (s : ByteArray) (n : Nat) (hs : s.size = n + 4) (hn : n ≤ 1000000) (ho : sealedB s.data.toList n = false) (w : World) (hT : STab w) :
    Calls Tryd.prog 42 #[.string s] w fun e w' => e = .returned (.tuple #[.string ⟨#[]⟩, .int .i64 10]) ∧ Below w.heap.size w w' := by
  have g1 := Lib.hid (openG_bad s n hs hn ho w hT)
  go_enter Tryd.func42, Tryd.ntmps42
  go_wp2_with (go_at_call 62; (with_reducible refine g1.out.mono ?_); rintro e w1 ⟨rfl, h1⟩)
  go_ret2
  exact ⟨rfl, h1⟩
end Go.Proofs.YtiphddlakbbfiaaDoor
