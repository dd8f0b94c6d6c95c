/- The walks of PutText, GetText, PutList and GetList, of the program and of the reference. -/
import Derived.Test.YtiphddlakbbfiaaDoorNumPut2
import Derived.Test.YtiphddlakbbfiaaDoorNumInt
import Derived.Lib.Strings
namespace Go.Proofs.YtiphddlakbbfiaaDoor
set_option linter.unusedVariables false
open Go.RowKit

def putTextN (l : List UInt8) : List UInt8 := putN l.length ++ l
def putListN (zs : List Int) : List UInt8 := putN zs.length ++ zs.flatMap fun z => putN z.toNat

theorem bsize (l : List UInt8) : (⟨l.toArray⟩ : ByteArray).size = l.length := by simp [ByteArray.size]

set_option maxRecDepth 100000 in
theorem refPutText_any (t : ByteArray) (w : World) (ht : t.size ≤ 100000) :
    Calls Tryd.prog 33 #[.string t] w fun e w' => e = .returned (bstr (putTextN t.data.toList)) ∧ Below w.heap.size w w' := by
  obtain ⟨p, hp⟩ : ∃ p : ByteArray, p = ⟨(putN t.size).toArray⟩ := ⟨_, rfl⟩
  have cp : ∀ w, Calls Tryd.prog 57 #[.int .u64 t.size] w fun e w' => e = .returned (.string p) ∧ Below w.heap.size w w' := fun w => by rw [hp]; exact refPut_any t.size w (by omega)
  have hps : p.size ≤ 11 := by rw [hp, bsize]; exact (putN_length _).2
  have fin : Ending.returned (.string (p ++ t)) = .returned (bstr (putTextN t.data.toList)) := ret_str (by rw [hp]; simp [putTextN])
  have Fin := Lib.hid fin; clear fin
  clear hp
  have Cp := Lib.hid cp; clear cp
  go_enter Tryd.func33, Tryd.ntmps33
  go_wp2_with (go_at_call 57; (with_reducible refine (Cp.out _).mono ?_); rintro e wb ⟨rfl, hb2⟩)
  go_ret
  exact ⟨Fin.out, hb2⟩

set_option maxRecDepth 100000 in
theorem numPutText_any (t : ByteArray) (w : World) (ht : t.size ≤ 100000) :
    Calls Tryd.prog 30 #[.string t] w fun e w' => e = .returned (bstr (putTextN t.data.toList)) ∧ Below w.heap.size w w' := by
  obtain ⟨p, hp⟩ : ∃ p : ByteArray, p = ⟨(putN t.size).toArray⟩ := ⟨_, rfl⟩
  have cp : ∀ w, Calls Tryd.prog 54 #[.int .u64 t.size] w fun e w' => e = .returned (.string p) ∧ Below w.heap.size w w' := fun w => by rw [hp]; exact numPut_any t.size (by omega) w
  have hps : p.size ≤ 11 := by rw [hp, bsize]; exact (putN_length _).2
  have fin : Ending.returned (.string (p ++ t)) = .returned (bstr (putTextN t.data.toList)) := ret_str (by rw [hp]; simp [putTextN])
  have Fin := Lib.hid fin; clear fin
  clear hp
  have Cp := Lib.hid cp; clear cp
  go_enter Tryd.func30, Tryd.ntmps30
  go_wp2_with (first | (go_at_call 54; (with_reducible refine (Cp.out _).mono ?_); rintro e wb ⟨rfl, hb2⟩) | (go_at_call 55; go_in))
  go_ret
  exact ⟨Fin.out, hb2⟩

/-- What GetText gives. -/
def getTextN (l : List UInt8) (q m : Int) : List UInt8 × Int × Int :=
  if (intN l q m).2.2 ≠ 0 then ([], (intN l q m).2.1, (intN l q m).2.2)
  else if (intN l q m).1 > l.length - (intN l q m).2.1 then ([], (intN l q m).2.1, 4)
  else ((l.drop (intN l q m).2.1.toNat).take (intN l q m).1.toNat, (intN l q m).2.1 + (intN l q m).1, 0)
def gotT (r : List UInt8 × Int × Int) : Value := .tuple #[bstr r.1, .int .i64 r.2.1, .int .i64 r.2.2]

theorem intN_ok (l : List UInt8) (q m n p : Int) (h : intN l q m = (n, p, 0)) : 0 ≤ n ∧ n ≤ m ∧ 0 ≤ p ∧ p ≤ l.length := by
  unfold intN at h
  have hb := getN_bound l q
  split at h
  · rename_i he
    simp only [Prod.mk.injEq] at h
    exact absurd (by omega) he
  · split at h
    · simp at h
    · rename_i hm
      simp only [Prod.mk.injEq, and_true] at h
      obtain ⟨rfl, rfl⟩ := h
      refine ⟨by omega, by omega, by omega, by omega⟩

set_option maxRecDepth 100000 in
set_option maxHeartbeats 800000 in
theorem refGetText_any (s : ByteArray) (q m : Int) (w : World) (hs : s.size ≤ maxLen) (hq1 : -9223372036854775808 ≤ q) (hq2 : q ≤ 9223372036854775807) (hm2 : m ≤ 9223372036854775807) :
    Calls Tryd.prog 45 #[.string s, .int .i64 q, .int .i64 m] w fun e w' => e = .returned (gotT (getTextN s.data.toList q m)) ∧ w = w' := by
  obtain ⟨⟨n, p, e⟩, hg⟩ : ∃ r, intN s.data.toList q m = r := ⟨_, rfl⟩
  have hok := intN_ok s.data.toList q m n p
  have cg : ∀ w, Calls Tryd.prog 64 #[.string s, .int .i64 q, .int .i64 m] w fun e' w' => e' = .returned (.tuple #[.int .i64 n, .int .i64 p, .int .i64 e]) ∧ w = w' := fun w => by
    have := refInt_any s q m w hs hq1 hq2 hm2
    rw [hg] at this
    exact this
  have hl : s.data.toList.length = s.size := by simp
  unfold maxLen at hs
  have Cg := Lib.hid cg; clear cg
  have Hg := Lib.hid hg; clear hg
  by_cases he : e = 0
  · subst he
    obtain ⟨o1, o2, o3, o4⟩ := hok Hg.out
    rw [hl] at o4
    obtain ⟨n, rfl⟩ := Int.eq_ofNat_of_zero_le o1
    obtain ⟨p, rfl⟩ := Int.eq_ofNat_of_zero_le o3
    clear hok o1 o3
    by_cases hn : (s.size : Int) - (p : Int) < (n : Int)
    · have hr : getTextN s.data.toList q m = ([], (p : Int), 4) := by unfold getTextN; rw [Hg.out]; simp [hn]
      rw [hr]; clear hr hl
      go_enter Tryd.func45, Tryd.ntmps45
      go_wp2_with (go_at_call 64; (with_reducible refine (Cg.out _).mono ?_); rintro e wb ⟨rfl, rfl⟩)
      go_ret3
      exact ⟨rfl, rfl⟩
    · have hn2 : p + n ≤ s.size := by omega
      have hr : getTextN s.data.toList q m = ((s.data.toList.drop p).take n, ((p : Int) + (n : Int)), 0) := by unfold getTextN; rw [Hg.out]; simp; omega
      have fin : Ending.returned (.tuple #[.string (s.extract p (p + n)), .int .i64 ((p : Int) + (n : Int)), .int .i64 0]) = .returned (gotT (getTextN s.data.toList q m)) := by
        rw [hr]; unfold gotT; rw [vstr (l := (s.data.toList.drop p).take n) (by rw [Lib.extract_data, show p + n - p = n by omega])]
      have Fin := Lib.hid fin; clear fin
      clear hr hl
      go_enter Tryd.func45, Tryd.ntmps45
      go_wp2_with (go_at_call 64; (with_reducible refine (Cg.out _).mono ?_); rintro e wb ⟨rfl, rfl⟩)
      go_ret3
      exact ⟨Fin.out, rfl⟩
  · have hr : getTextN s.data.toList q m = ([], p, e) := by unfold getTextN; rw [Hg.out]; simp [he]
    rw [hr]; clear hr
    have he' : (e != 0) = true := by simp [he]
    have He := Lib.hid he; clear he hok
    go_enter Tryd.func45, Tryd.ntmps45
    go_wp2_with (go_at_call 64; (with_reducible refine (Cg.out _).mono ?_); rintro e wb ⟨rfl, rfl⟩)
    go_ret3
    exact ⟨rfl, rfl⟩

set_option maxRecDepth 100000 in
set_option maxHeartbeats 800000 in
theorem numGetText_any (s : ByteArray) (q m : Int) (w : World) (hs : s.size ≤ maxLen) (hq1 : -9223372036854775808 ≤ q) (hq2 : q ≤ 9223372036854775807) (hm2 : m ≤ 9223372036854775807) :
    Calls Tryd.prog 61 #[.string s, .int .i64 q, .int .i64 m] w fun e w' => e = .returned (gotT (getTextN s.data.toList q m)) ∧ Below w.heap.size w w' := by
  obtain ⟨⟨n, p, e⟩, hg⟩ : ∃ r, intN s.data.toList q m = r := ⟨_, rfl⟩
  have hok := intN_ok s.data.toList q m n p
  have cg : ∀ w, Calls Tryd.prog 70 #[.string s, .int .i64 q, .int .i64 m] w fun e' w' => e' = .returned (.tuple #[.int .i64 n, .int .i64 p, .int .i64 e]) ∧ Below w.heap.size w w' := fun w => by
    have := numInt_any s q m w hs hq1 hq2 hm2
    rw [hg] at this
    exact this
  have hl : s.data.toList.length = s.size := by simp
  unfold maxLen at hs
  have Cg := Lib.hid cg; clear cg
  have Hg := Lib.hid hg; clear hg
  by_cases he : e = 0
  · subst he
    obtain ⟨o1, o2, o3, o4⟩ := hok Hg.out
    rw [hl] at o4
    obtain ⟨n, rfl⟩ := Int.eq_ofNat_of_zero_le o1
    obtain ⟨p, rfl⟩ := Int.eq_ofNat_of_zero_le o3
    clear hok o1 o3
    by_cases hn : (s.size : Int) - (p : Int) < (n : Int)
    · have hr : getTextN s.data.toList q m = ([], (p : Int), 4) := by unfold getTextN; rw [Hg.out]; simp [hn]
      rw [hr]; clear hr hl
      go_enter Tryd.func61, Tryd.ntmps61
      go_wp2_with (go_at_call 70; (with_reducible refine (Cg.out _).mono ?_); rintro e wb ⟨rfl, hb1⟩)
      go_ret3
      exact ⟨rfl, hb1⟩
    · have hn2 : p + n ≤ s.size := by omega
      have hr : getTextN s.data.toList q m = ((s.data.toList.drop p).take n, ((p : Int) + (n : Int)), 0) := by unfold getTextN; rw [Hg.out]; simp; omega
      have fin : Ending.returned (.tuple #[.string (s.extract p (p + n)), .int .i64 ((p : Int) + (n : Int)), .int .i64 0]) = .returned (gotT (getTextN s.data.toList q m)) := by
        rw [hr]; unfold gotT; rw [vstr (l := (s.data.toList.drop p).take n) (by rw [Lib.extract_data, show p + n - p = n by omega])]
      have Fin := Lib.hid fin; clear fin
      clear hr hl
      go_enter Tryd.func61, Tryd.ntmps61
      go_wp2_with (go_at_call 70; (with_reducible refine (Cg.out _).mono ?_); rintro e wb ⟨rfl, hb1⟩)
      go_ret3
      exact ⟨Fin.out, hb1⟩
  · have hr : getTextN s.data.toList q m = ([], p, e) := by unfold getTextN; rw [Hg.out]; simp [he]
    rw [hr]; clear hr
    have he' : (e != 0) = true := by simp [he]
    have He := Lib.hid he; clear he hok
    go_enter Tryd.func61, Tryd.ntmps61
    go_wp2_with (go_at_call 70; (with_reducible refine (Cg.out _).mono ?_); rintro e wb ⟨rfl, hb1⟩)
    go_ret3
    exact ⟨rfl, hb1⟩
end Go.Proofs.YtiphddlakbbfiaaDoor
