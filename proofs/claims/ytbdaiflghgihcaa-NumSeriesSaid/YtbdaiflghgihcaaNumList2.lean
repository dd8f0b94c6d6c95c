/- The walks of PutList and GetList, of the program and of the reference. -/
import Derived.Test.YtbdaiflghgihcaaNumList
namespace Go.Proofs.Ytbdaiflghgihcaa
set_option linter.unusedVariables false
open Go.RowKit

def RPl (zs : List Int) (k : Nat) (l : List UInt8) : Prop := l = putN zs.length ++ (zs.take k).flatMap fun z => putN z.toNat
theorem rpl_start (zs : List Int) : RPl zs 0 (putN zs.length) := by simp [RPl]
theorem rpl_step (zs : List Int) (k : Nat) (l : List UInt8) (hk : k < zs.length) (h : RPl zs k l) : RPl zs (k + 1) (l ++ putN (zs[k]).toNat) := by
  unfold RPl at *
  rw [h, List.take_succ_eq_append_getElem hk, List.flatMap_append]; simp only [List.flatMap_cons, List.flatMap_nil, List.append_nil, List.append_assoc]
theorem rpl_end (zs : List Int) (k : Nat) (l : List UInt8) (hk : zs.length ≤ k) (h : RPl zs k l) : l = putListN zs := by
  unfold RPl at h; rw [h, List.take_of_length_le hk]; rfl
theorem rpl_len (zs : List Int) (k : Nat) (l : List UInt8) (h : RPl zs k l) : l.length ≤ 11 * k + 11 := by
  unfold RPl at h
  subst h
  rw [List.length_append]
  have h1 := (putN_length zs.length).2
  have h2 : ∀ ys : List Int, (ys.flatMap fun z => putN z.toNat).length ≤ 11 * ys.length := by
    intro ys
    induction ys with
    | nil => simp
    | cons y ys ih => have := (putN_length y.toNat).2; simp at ih ⊢; omega
  have h3 := h2 (zs.take k)
  have h4 : (zs.take k).length ≤ k := List.length_take_le _ _
  omega
theorem wf_u64 {zs : List Int} (h : ∀ z ∈ zs, (Lit.int .u64 z).wf = true) (k : Nat) (hk : k < zs.length) : 0 ≤ zs[k] ∧ zs[k] ≤ 18446744073709551615 := u64_bounds (h _ (List.getElem_mem hk))

theorem refPut_int (x : Int) (h0 : 0 ≤ x) (hx : x ≤ 18446744073709551615) (w : World) :
    Calls Try.prog 19 #[.int .u64 x] w fun e w' => e = .returned (bstr (putN x.toNat)) ∧ Below w.heap.size w w' := by
  obtain ⟨n, rfl⟩ := Int.eq_ofNat_of_zero_le h0
  exact refPut_any n w hx

set_option maxRecDepth 100000 in
set_option maxHeartbeats 800000 in
theorem refPutList_any (a : Option Addr) (cap : Nat) (zs : List Int) (w : World) (hr : Row .u64 w a cap zs) (hz : zs.length ≤ 1000000) :
    Calls Try.prog 41 #[.slice a zs.length cap] w fun e w' => e = .returned (bstr (putListN zs)) ∧ Below w.heap.size w w' := by
  obtain ⟨hr1, hr2, hr3, _, hr4⟩ := hr
  clear hr1 hr2
  have hw := fun k hk => wf_u64 hr3 k hk
  clear hr3
  obtain ⟨p, hp⟩ : ∃ p : ByteArray, p.data.toList = putN zs.length := ⟨⟨(putN zs.length).toArray⟩, rfl⟩
  have cp : ∀ w, Calls Try.prog 19 #[.int .u64 zs.length] w fun e w' => e = .returned (.string p) ∧ Below w.heap.size w w' := fun w => by
    have := refPut_any zs.length w (by omega); rw [← hp] at this; exact this
  have Cp := Lib.hid cp; clear cp
  have Hw := Lib.hid hw; clear hw
  have Hr := Lib.hid hr4; clear hr4
  have Hp := Lib.hid hp; clear hp
  go_enter Try.func41, Try.ntmps41
  go_wp2_with (go_at_call 19; (with_reducible refine (Cp.out _).mono ?_); rintro e w0 ⟨rfl, hb0⟩)
  go_loopw [3, 4] (fun s i wr => ∃ (k : Nat) (o : ByteArray), i = .int .i64 k ∧ s = .string o ∧ k ≤ zs.length ∧ RPl zs k o.data.toList ∧ Below w.heap.size w wr) (fun _ i _ => zs.length - (intOf i).toNat)
  case atStart => exact ⟨0, p, rfl, rfl, Nat.zero_le _, by rw [Hp.out]; exact rpl_start zs, hb0⟩
  case round =>
    obtain ⟨k, o, rfl, rfl, hk, ho, hb⟩ := hrel
    have hol := rpl_len zs k _ ho
    rw [show o.data.toList.length = o.size by simp] at hol
    have Ho := Lib.hid ho; clear ho
    by_cases hlt : k < zs.length
    · obtain ⟨b, off, rfl, hbl, hc⟩ := Hr.out (by omega)
      have hck : wr.cell? ⟨b, off + k, none⟩ = some (.int .u64 zs[k]) := (hb.cell (p := ⟨b, off + k, none⟩) hbl).trans (hc k hlt)
      obtain ⟨z1, z2⟩ := Hw.out k hlt
      clear hc
      obtain ⟨q, hq⟩ : ∃ q : ByteArray, q.data.toList = putN (zs[k]).toNat := ⟨⟨(putN (zs[k]).toNat).toArray⟩, rfl⟩
      have hql := (putN_length (zs[k]).toNat).2
      rw [← hq, show q.data.toList.length = q.size by simp] at hql
      have cq : ∀ w, Calls Try.prog 19 #[.int .u64 zs[k]] w fun e w' => e = .returned (.string q) ∧ Below w.heap.size w w' := fun w => by
        have := refPut_int zs[k] z1 z2 w; rw [← hq] at this; exact this
      have Cq := Lib.hid cq; clear cq
      have Hq := Lib.hid hq; clear hq
      go_wp2_with (go_at_call 19; (with_reducible refine (Cq.out _).mono ?_); rintro e w1 ⟨rfl, hb1⟩)
      go_roundw
      case rel => exact ⟨k + 1, o ++ q, by go_num, rfl, by omega, by have := rpl_step zs k _ hlt Ho.out; rw [← Hq.out] at this; simpa using this, bt hb hb1⟩
      case measure => simp [intOf]; omega
    · go_wp2
      go_ret
      exact ⟨ret_str (rpl_end zs k _ (by omega) Ho.out), hb⟩

set_option maxRecDepth 100000 in
theorem counted_any (a : Option Addr) (cap : Nat) (n : Nat) (w : World) (hz : n ≤ 1000000) :
    Calls Try.prog 62 #[.slice a n cap] w fun e w' => e = .returned (bstr (putN n)) ∧ Below w.heap.size w w' := by
  have cp := fun w => numPut_any n (by omega) w
  have Cp := Lib.hid cp; clear cp
  go_enter Try.func62, Try.ntmps62
  go_wp2_with (go_at_call 16; (with_reducible refine (Cp.out _).mono ?_); rintro e w0 ⟨rfl, hb0⟩)
  go_ret
  exact ⟨rfl, hb0⟩

theorem Try.infoU8 : (Try.prog.info? 5).map (fun i => (i.zero, i.size, i.bytes)) = some (some (.int .u8 0), 1, 1) := by kernel_rfl

set_option maxRecDepth 100000 in
set_option maxHeartbeats 1600000 in
theorem numPutList_any (a : Option Addr) (cap : Nat) (zs : List Int) (w : World) (hr : Row .u64 w a cap zs) (hz : zs.length ≤ 1000000) :
    Calls Try.prog 36 #[.slice a zs.length cap] w fun e w' => e = .returned (bstr (putListN zs)) ∧ Below w.heap.size w w' := by
  obtain ⟨hr1, hr2, hr3, _, hr4⟩ := hr
  clear hr1 hr2
  have hw := fun k hk => wf_u64 hr3 k hk
  clear hr3
  obtain ⟨p, hp⟩ : ∃ p : ByteArray, p.data.toList = putN zs.length := ⟨⟨(putN zs.length).toArray⟩, rfl⟩
  have cp : ∀ w, Calls Try.prog 62 #[.slice a zs.length cap] w fun e w' => e = .returned (.string p) ∧ Below w.heap.size w w' := fun w => by
    have := counted_any a cap zs.length w hz; rw [← hp] at this; exact this
  have hpl := (putN_length zs.length).2
  rw [← hp, show p.data.toList.length = p.size by simp] at hpl
  have Cp := Lib.hid cp; clear cp
  have Hw := Lib.hid hw; clear hw
  have Hr := Lib.hid hr4; clear hr4
  have Hp := Lib.hid hp; clear hp
  obtain ⟨i0, hi, hz0, hz1, hz2⟩ := info_parts Try.infoU8
  have Hi := Lib.hid hi; clear hi
  have Hz0 := Lib.hid hz0; clear hz0
  have Hz1 := Lib.hid hz1; clear hz1
  have Hz2 := Lib.hid hz2; clear hz2
  go_enter Try.func36, Try.ntmps36
  go_wp2_with fail
  refine (Cp.out _).mono ?_
  rintro e w0 ⟨rfl, hb0⟩
  obtain ⟨v, W1, hconv, hown, hbw, hsz⟩ := ownsB_of (P := Try.prog) Try.underlying9 Try.underlying70 Try.underlying5 p (by unfold maxLen; omega) w0
  have Hown := Lib.hid hown; clear hown
  go_wp2
  clear hconv
  go_loopw [3, 11] (fun v i wr => ∃ (k g : Nat) (l : List UInt8), i = .int .i64 k ∧ OwnsB wr w.heap.size 5 v g l ∧ k ≤ zs.length ∧ RPl zs k l ∧ Below w.heap.size w wr) (fun _ i _ => zs.length - (intOf i).toNat)
  case atStart => exact ⟨0, _, _, rfl, Hown.out.weaken hb0.size, Nat.zero_le _, by rw [Hp.out]; exact rpl_start zs, bt hb0 hbw⟩
  case round =>
    obtain ⟨k, g, l, rfl, ho, hk, hl, hb⟩ := hrel
    have hol := rpl_len zs k _ hl
    have Ho := Lib.hid ho; clear ho
    have Hl := Lib.hid hl; clear hl
    by_cases hlt : k < zs.length
    · obtain ⟨b, off, rfl, hbl, hc⟩ := Hr.out (by omega)
      have hck : wr.cell? ⟨b, off + k, none⟩ = some (.int .u64 zs[k]) := (hb.cell (p := ⟨b, off + k, none⟩) hbl).trans (hc k hlt)
      obtain ⟨z1, z2⟩ := Hw.out k hlt
      clear hc
      obtain ⟨q, hq⟩ : ∃ q : ByteArray, q.data.toList = putN (zs[k]).toNat := ⟨⟨(putN (zs[k]).toNat).toArray⟩, rfl⟩
      have hql := (putN_length (zs[k]).toNat).2
      rw [← hq, show q.data.toList.length = q.size by simp] at hql
      have cq : ∀ w, Calls Try.prog 16 #[.int .u64 zs[k]] w fun e w' => e = .returned (.string q) ∧ Below w.heap.size w w' := fun w => by
        have := numPut_int zs[k] z1 z2 w; rw [← hq] at this; exact this
      have Cq := Lib.hid cq; clear cq
      have Hq := Lib.hid hq; clear hq
      go_wp2_with fail
      refine (Cq.out _).mono ?_
      rintro e w1 ⟨rfl, hb1⟩
      have ho1 := Ho.out.below hb1
      have Ho1 := Lib.hid ho1; clear ho1
      have hbb := bt hb hb1
      go_wp2_with (refine wpList_append_B rfl _ _ _ _ rfl w.heap.size 5 i0 Try.underlying70 Try.underlying9 Hi.out Hz0.out Hz1.out Hz2.out _ g l rfl Ho1.out q rfl (by omega) hbb.size ?_; intro v' w2 g2 hown2 hgrow2)
      go_roundw
      case rel => exact ⟨k + 1, g2, _, by go_num, hown2, by omega, by have := rpl_step zs k _ hlt Hl.out; rw [← Hq.out] at this; exact this, hbb.grown hgrow2 hbb.size (fun j e => by cases e; exact Ho1.out.base_le)⟩
      case measure => simp [intOf]; omega
    · have hcv := Ho.out.back (P := Try.prog) (dst := 9) Try.underlying70 Try.underlying5 Try.underlying9
      go_wp2
      go_ret
      exact ⟨congrArg (fun l => Ending.returned (bstr l)) (rpl_end zs k l (by omega) Hl.out), hb⟩
end Go.Proofs.Ytbdaiflghgihcaa
