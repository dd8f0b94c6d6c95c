/- Parts of a proof, printed by a program of mine out of my texts: RpSvc, RpPk, RpFrM, RpFrP, RpFrF. -/
import Derived.Maps.RangeWalk
import Derived.Maps.OwnSet
import Derived.Maps.Ext
import Derived.Test.YthfmkkkdjgkaoaaGreatDoorMT
set_option linter.unusedSimpArgs false
set_option linter.unusedVariables false
namespace Go.Proofs.YthfmkkkdjgkaoaaGreatDoor
open Go.RowKit
open Go.Maps
abbrev kI (k : Int) : Lit := .int .i64 k
def SvcD (D : DataW Unit) (f : Int → Option Int) : Prop :=
  IsMap D ∧ (∀ kl, Maps.has D kl = true → ∃ k, kl = kI k ∧ (f k).isSome = true) ∧ ∀ k c, f k = some c → Maps.has D (kI k) = true ∧ ∀ zd, D.atKey (kI k) zd = .lit (.int .u64 c)
theorem svcD_nil : SvcD (.map []) fun _ => none := ⟨isMap_empty, fun kl h => by simp [has_eq] at h, fun k c h => by cases h⟩
theorem atKey_no {D : DataW Unit} (hD : IsMap D) {kl : Lit} (h : Maps.has D kl = false) (zd : DataW Unit) : D.atKey kl zd = zd := by
  obtain ⟨es, rfl⟩ := hD
  have : es.find? (fun p => p.1.sameKey kl) = none := by
    rw [List.find?_eq_none]
    rw [has_eq] at h
    simpa using h
  simp [DataW.atKey, this]
theorem SvcD.none {D : DataW Unit} {f : Int → Option Int} (h : SvcD D f) {k : Int} (hk : f k = none) : Maps.has D (kI k) = false := by
  cases e : Maps.has D (kI k) with
  | false => rfl
  | true =>
    obtain ⟨k', e2, h2⟩ := h.2.1 _ e
    cases e2
    rw [hk] at h2; cases h2
theorem SvcD.at {D : DataW Unit} {f : Int → Option Int} (h : SvcD D f) (k : Int) : D.atKey (kI k) (.lit (.int .u64 0)) = .lit (.int .u64 ((f k).getD 0)) := by
  cases e : f k with
  | none => exact atKey_no h.1 (h.none e) _
  | some c => exact (h.2.2 k c e).2 _
theorem SvcD.has {D : DataW Unit} {f : Int → Option Int} (h : SvcD D f) (k : Int) : Maps.has D (kI k) = (f k).isSome := by
  cases e : f k with
  | none => exact h.none e
  | some c => exact (h.2.2 k c e).1
def updI (f : Int → Option Int) (k c : Int) : Int → Option Int := fun x => if x = k then some c else f x
theorem SvcD.put {D : DataW Unit} {f : Int → Option Int} (h : SvcD D f) (k c : Int) : SvcD (D.put (kI k) (.lit (.int .u64 c))) (updI f k c) := by
  refine ⟨h.1.put _ _, fun kl hk => ?_, fun x y hx => ?_⟩
  · by_cases e : kl = kI k
    · subst e; exact ⟨k, rfl, by simp [updI]⟩
    · rw [has_put_other e] at hk
      obtain ⟨x, rfl, hx⟩ := h.2.1 kl hk
      have hne : x ≠ k := fun e2 => e (by rw [e2])
      exact ⟨x, rfl, by simp [updI, hne, hx]⟩
  · by_cases e : x = k
    · subst e
      simp only [updI, if_true, Option.some.injEq] at hx
      subst hx
      exact ⟨has_put_same h.1 (show WideAt.IsKeyLit (kI x) from trivial) _, fun zd => atKey_put_same h.1 (show WideAt.IsKeyLit (kI x) from trivial) _ _⟩
    · have hne : kI x ≠ kI k := fun e2 => e (by cases e2; rfl)
      have hx2 : f x = some y := by simpa [updI, e] using hx
      rw [has_put_other hne]
      exact ⟨(h.2.2 x y hx2).1, fun zd => by rw [atKey_put_other hne]; exact (h.2.2 x y hx2).2 zd⟩
theorem keyedI : Keyed Tryz.prog 3 := int_keyed Tryz.underlying3
def SvcAt (w : World) (m : Nat) (n : Nat) (f : Int → Option Int) : Prop := ∃ D, SvcD D f ∧ w.ownsMap (H := Unit) Tryz.prog 3 (plainElem Tryz.prog 33) m n D
theorem SvcAt.lt {w : World} {m n : Nat} {f : Int → Option Int} (h : SvcAt w m n f) : m < w.heap.size := by obtain ⟨D, _, h2⟩ := h; exact h2.lt
theorem SvcAt.kept {w w' : World} {m n : Nat} {f : Int → Option Int} (h : SvcAt w m n f) (hk : w'.heap[m]? = w.heap[m]?) : SvcAt w' m n f := by
  obtain ⟨D, h1, es, clock, hb, F, hs, hD⟩ := h
  exact ⟨D, h1, es, clock, hk.trans hb, F, hs, hD⟩
theorem SvcAt.below {w w' : World} {m n : Nat} {f : Int → Option Int} (h : SvcAt w m n f) (hb : Below w.heap.size w w') : SvcAt w' m n f := h.kept (hb.block m h.lt)
theorem SvcAt.congr {w : World} {m n n' : Nat} {f g : Int → Option Int} (h : SvcAt w m n f) (hn : n ≤ n') (e : ∀ k, f k = g k) : SvcAt w m n' g := by
  obtain ⟨D, h1, h2⟩ := h
  obtain rfl : f = g := funext e
  exact ⟨D, h1, h2.mono hn⟩
theorem svcAt_made (w : World) : SvcAt (w.alloc (.map #[] 0)) w.heap.size 0 fun _ => none := ⟨_, svcD_nil, World.ownsMap_made w _ _ _⟩
theorem wf16 {k : Int} (h0 : 0 ≤ k) (h1 : k ≤ 16) : (Lit.int .i64 k).wf = true := WalkArith.wf_i64 (by omega)
theorem SvcAt.look {w : World} {m n : Nat} {f : Int → Option Int} (h : SvcAt w m n f) {k : Int} (h0 : 0 ≤ k) (h1 : k ≤ 16) : Sem.run Tryz.prog (Instr.lookup 116 (.map (some m)) (.int .i64 k) false) w = .ok (.int .u64 ((f k).getD 0)) w := by
  obtain ⟨D, hD, ho⟩ := h
  obtain ⟨c, hrun, hat, _⟩ := ho.lookup_int (q := .u64) keyedI Tryz.underlying116 Tryz.underlying33 (by kernel_rfl) (keyOf_int_mk Tryz.underlying3 (wf16 h0 h1))
  rw [hD.at k] at hat
  cases hat
  exact hrun
theorem SvcAt.look2 {w : World} {m n : Nat} {f : Int → Option Int} (h : SvcAt w m n f) {k : Int} (h0 : 0 ≤ k) (h1 : k ≤ 16) : Sem.run Tryz.prog (Instr.lookup 116 (.map (some m)) (.int .i64 k) true) w = .ok (.tuple #[.int .u64 ((f k).getD 0), .bool (f k).isSome]) w := by
  obtain ⟨D, hD, es, clock, hb, F, hs, rfl⟩ := h
  rcases Maps.fit_look true keyedI Tryz.underlying116 (z := .int .u64 0) (by kernel_rfl) hb F (keyOf_int_mk Tryz.underlying3 (wf16 h0 h1)) with ⟨hrun, hno, hat⟩ | ⟨e0, y, hm0, he0, hrun, hRv, hat, _⟩
  · have hn : f k = none := by
      cases e : f k with
      | none => rfl
      | some c =>
        have h2 := (hD.2.2 k c e).2 (.lit (.int .u64 (c + 1)))
        have h3 := (hD.2.2 k c e).2 (.lit (.int .u64 c))
        rw [hat] at h2
        have h4 : c + 1 = c := by simpa using h2
        omega
    rw [hn]; exact hrun
  · obtain ⟨c, hc, hy, _⟩ := plainElem_int_inv Tryz.underlying33 hRv
    have hn : f k = some c := by
      cases e : f k with
      | none =>
        have h2 := atKey_no hD.1 (hD.none e) (.lit (.int .u64 (c + 1)))
        rw [hat, hy] at h2
        have h4 : c = c + 1 := by simpa using h2
        omega
      | some c' =>
        have h2 := (hD.2.2 k c' e).2 (.lit (.int .u64 0))
        rw [hat, hy] at h2
        simp at h2
        rw [h2]
    rw [hn]
    show _ = Result.ok (Value.tuple #[.int .u64 c, .bool true]) w
    rw [← hc]; exact hrun
theorem SvcAt.put {w : World} {m n : Nat} {f : Int → Option Int} (h : SvcAt w m n f) (hn : n < 10000) {k c : Int} (h0 : 0 ≤ k) (h1 : k ≤ 16) (hc : 0 ≤ c ∧ c ≤ 9223372036854775807) :
    ∃ w', Sem.run Tryz.prog (Instr.mapUpdate 116 (.map (some m)) (.int .i64 k) (.int .u64 c)) w = .ok () w' ∧ SvcAt w' m (n + 1) (updI f k c) ∧ w.grownBy w' (some m) := by
  obtain ⟨D, hD, ho⟩ := h
  obtain ⟨w', r1, r2, r3⟩ := ho.update keyedI Tryz.underlying116 (by unfold maxLen; omega) (keyOf_int_mk Tryz.underlying3 (wf16 h0 h1)) (plainElem_int Tryz.underlying33 (a := c) (WalkArith.wf_u64 (by omega)))
  exact ⟨w', r1, ⟨_, hD.put k c, r2⟩, r3⟩
end Go.Proofs.YthfmkkkdjgkaoaaGreatDoor
namespace Go.Proofs.YthfmkkkdjgkaoaaGreatDoor
open Go.RowKit
def pkF (m x : Int × Int) : Int × Int := if m.2 < x.2 then x else m
def pkT (s : List (Int × Int)) (j : Nat) : Int × Int := (s.take j).foldl pkF (0, 0)
theorem pkT_succ {s : List (Int × Int)} {j : Nat} (h : j < s.length) : pkT s (j + 1) = pkF (pkT s j) s[j] := by
  unfold pkT
  rw [List.take_succ_eq_append_getElem h, List.foldl_append]; rfl
theorem pkT_all (s : List (Int × Int)) : pkT s s.length = pkO s := by unfold pkT pkO pkF; rw [List.take_length]
set_option maxRecDepth 100000 in
set_option maxHeartbeats 3200000 in
theorem peak_any (a : Option Addr) (cap : Nat) (s : List (Int × Int)) (w : World) (hrow : SRow lc 2 w a cap s) :
    Calls Tryz.prog 35 #[.slice a s.length cap] w fun e w' => e = .returned (.agg #[.int .i64 (pkO s).1, .int .u64 (pkO s).2]) ∧ Below w.heap.size w w' := by
  have HR := Lib.hid hrow
  have hcap := hrow.1; have hmax := hrow.2.1
  unfold maxLen at hmax
  clear hrow
  go_enter Tryz.func35, Tryz.ntmps35
  go_wp2
  go_loopw [8] (fun i wr => ∃ j : Nat, i = .int .i64 j ∧ j ≤ s.length ∧ Below w.heap.size w wr ∧ Hid (blk wr w.heap.size = some #[.int .i64 0, .int .u64 0] ∧ blk wr (w.heap.size + 1) = some #[.int .i64 (pkT s j).1, .int .u64 (pkT s j).2])) (fun i _ => s.length - (intOf i).toNat)
  case atStart => exact ⟨0, rfl, Nat.zero_le _, by (repeat (first | (with_reducible assumption) | (with_reducible exact Below.refl _ _) | (with_reducible refine beld_drew ?_) | ((with_reducible refine bset' ?_ ?_); (first | (focus (dsimp only; assumption)) | (focus (simp; done)) | (focus (dsimp only; omega)))) | (with_reducible refine belt_alloc ?_) | ((with_reducible refine zeroed_below' ?_ ?_); (first | (focus (simp; done)) | (focus (dsimp only; omega)))) | (with_reducible refine bt ?_ (by assumption)))), Lib.hid ⟨by (apply blk_to; (focus (repeat (first | (with_reducible assumption) | (with_reducible apply blk_drew) | (with_reducible apply blk_set) | ((with_reducible apply blk_other'); (first | (focus (dsimp only; assumption)) | (focus (simp; done)) | (focus (dsimp only; omega)))) | ((with_reducible apply blk_alloc_new); (first | (with_reducible rfl) | (focus (simp; done)) | (focus (simp; omega)))) | (with_reducible apply blk_alloc) | ((with_reducible apply blk_below); (with_reducible assumption))))); rfl), by (apply blk_to; (focus (repeat (first | (with_reducible assumption) | (with_reducible apply blk_drew) | (with_reducible apply blk_set) | ((with_reducible apply blk_other'); (first | (focus (dsimp only; assumption)) | (focus (simp; done)) | (focus (dsimp only; omega)))) | ((with_reducible apply blk_alloc_new); (first | (with_reducible rfl) | (focus (simp; done)) | (focus (simp; omega)))) | (with_reducible apply blk_alloc) | ((with_reducible apply blk_below); (with_reducible assumption))))); rfl)⟩⟩
  case round =>
    obtain ⟨j, rfl, hj, hB, HM⟩ := hrel
    by_cases hlt : j < s.length
    · have hltz : (j : Int) < (s.length : Int) := by omega
      obtain ⟨g, off, hab, hgl, hcs⟩ := (HR.out.below hB).2.2.2 (by omega)
      subst hab
      obtain ⟨x, hx⟩ : ∃ x, x = s[j] := ⟨_, rfl⟩
      have hr := hcs j hlt
      have hst := pkT_succ hlt
      rw [← hx] at hr hst
      clear hx hcs
      obtain ⟨m, hm⟩ : ∃ m, pkT s j = m := ⟨_, rfl⟩
      rw [hm] at hst HM
      have HST := Lib.hid hst
      clear hst hm
      go_upto_region 4 with fail
      refine wp_region_elem0 35 (.tmp 10) g (off + j * 2) (lc x) #[.int .i64 0, .int .u64 0] hr rfl (by go_simp) rfl rfl rfl _ Tryz.underlying35 rfl (by kernel_rfl) rfl (by kernel_rfl) rfl _ _ rfl rfl rfl rfl (lc_one x) ?_
      intro c0 w1 hc0 kb hB1
      conv => arg 4; simp [Act.put]
      have hB2 : Below w.heap.size w w1 := bt hB hB1
      have kb : blk w1 c0 = some #[.int .i64 x.1, .int .u64 x.2] := kb
      have km := blk_below hB1 HM.out.2
      have kz := blk_below hB1 HM.out.1
      have hc1 : w.heap.size + 1 < c0 := by rw [hc0]; exact blk_lt HM.out.2
      have nk := kn kb
      have nm := kn km
      clear hr hc0 hB1 hgl hB HM
      by_cases hlt2 : m.2 < x.2
      · have t1 : decide (m.2 < x.2) = true := decide_eq_true hlt2
        have HE : Hid (pkT s (j + 1) = x) := Lib.hid (by rw [HST.out]; unfold pkF; rw [if_pos hlt2])
        clear HST hlt2
        go_wp2
        go_roundw
        case rel =>
          refine ⟨j + 1, by go_num, by omega, ?_, Lib.hid ⟨?_, ?_⟩⟩
          · exact (hB2.setCell (by dsimp only; omega) _).setCell (by dsimp only; omega) _
          · exact blk_other (blk_other kz (by dsimp only; omega)) (by dsimp only; omega)
          · rw [HE.out]; (apply blk_to; (focus (repeat (first | (with_reducible assumption) | (with_reducible apply blk_drew) | (with_reducible apply blk_set) | ((with_reducible apply blk_other'); (first | (focus (dsimp only; assumption)) | (focus (simp; done)) | (focus (dsimp only; omega)))) | ((with_reducible apply blk_alloc_new); (first | (with_reducible rfl) | (focus (simp; done)) | (focus (simp; omega)))) | (with_reducible apply blk_alloc) | ((with_reducible apply blk_below); (with_reducible assumption))))); rfl)
        case measure => simp [intOf]; omega
      · have t1 : decide (m.2 < x.2) = false := decide_eq_false hlt2
        have HE : Hid (pkT s (j + 1) = m) := Lib.hid (by rw [HST.out]; unfold pkF; rw [if_neg hlt2])
        clear HST
        go_wp2
        go_roundw
        case rel => exact ⟨j + 1, by go_num, by omega, hB2, Lib.hid ⟨kz, by rw [HE.out]; exact km⟩⟩
        case measure => simp [intOf]; omega
    · obtain rfl : j = s.length := by omega
      have hM := HM.out
      rw [pkT_all] at hM
      obtain ⟨m, hm⟩ : ∃ m, pkO s = m := ⟨_, rfl⟩
      rw [hm] at hM
      have HMM := Lib.hid hm
      obtain ⟨kz, km⟩ := hM
      have nz := kn kz
      have nm := kn km
      clear HM hm
      go_wp2
      refine ret_blk (b := w.heap.size) (c := #[.int .i64 m.1, .int .u64 m.2]) (v := .agg #[.int .i64 m.1, .int .u64 m.2]) (by (apply blk_to; (focus (repeat (first | (with_reducible assumption) | (with_reducible apply blk_drew) | (with_reducible apply blk_set) | ((with_reducible apply blk_other'); (first | (focus (dsimp only; assumption)) | (focus (simp; done)) | (focus (dsimp only; omega)))) | ((with_reducible apply blk_alloc_new); (first | (with_reducible rfl) | (focus (simp; done)) | (focus (simp; omega)))) | (with_reducible apply blk_alloc) | ((with_reducible apply blk_below); (with_reducible assumption))))); rfl)) (fun W' hc => by simp [results, Tryz.results35, go_sem, hc]) rfl ⟨by rw [HMM.out], ?_⟩
      exact (hB.setCell (by dsimp only; omega) _).setCell (by dsimp only; omega) _
def pkR (b : List Bn) (l : List Oc) (node : Int) : Int × Int := pkO (stpR b l node)
set_option maxRecDepth 100000 in
set_option maxHeartbeats 3200000 in
theorem ppeak_any (ab al : Option Addr) (cb cl : Nat) (b : List Bn) (l : List Oc) (node : Int) (hd : ∀ x ∈ b, x.da.size ≤ maxLen ∧ 0 ≤ x.sq) (w : World) (hT : FTab w) (hH : HTab w) (hb : SRow bn 9 w ab cb b) (hl : SRow oc 7 w al cl l) :
    Calls Tryz.prog 12 #[.slice ab b.length cb, .slice al l.length cl, .int .i64 node] w fun e w' => e = .returned (.tuple #[.agg #[.int .i64 (pkR b l node).1, .int .u64 (pkR b l node).2], .int .i64 (nodC b l node)]) ∧ Below w.heap.size w w' := by
  have g1 : ∀ W, Below w.heap.size w W → Calls Tryz.prog 9 #[.slice ab b.length cb, .slice al l.length cl, .int .i64 node] W (RetL (stpR b l node) (nodC b l node) W) := fun W hB => psteps2_any ab al cb cl b l node hd W (hT.on hB) (hH.on hB) (hb.below hB) (hl.below hB)
  have G1 := Lib.hid g1
  unfold pkR
  obtain ⟨S, hS⟩ : ∃ S, stpR b l node = S := ⟨_, rfl⟩
  obtain ⟨p, hp⟩ : ∃ p, nodC b l node = p := ⟨_, rfl⟩
  rw [hS, hp] at G1 ⊢
  clear g1 hS hp hT hH hb hl hd
  go_enter Tryz.func12, Tryz.ntmps12
  go_wp2_with (first
    | (go_at_call 9; (with_reducible refine (G1.out _ (by (repeat (first | (with_reducible assumption) | (with_reducible exact Below.refl _ _) | (with_reducible refine beld_drew ?_) | ((with_reducible refine bset' ?_ ?_); (first | (focus (dsimp only; assumption)) | (focus (simp; done)) | (focus (dsimp only; omega)))) | (with_reducible refine belt_alloc ?_) | ((with_reducible refine zeroed_below' ?_ ?_); (first | (focus (simp; done)) | (focus (dsimp only; omega)))) | (with_reducible refine bt ?_ (by assumption)))))).mono ?_); rintro e w2 ⟨v2, rfl, ho2, h2⟩; (obtain ⟨a2, c2, rfl, hS2, _⟩ := srow_of_owns lc_len ho2); (have kb := blk_below h2 (blk_alloc_new w #[.int .i64 0, .int .u64 0] 35 rfl)); (have B2 : Below w.heap.size w w2 := (by (repeat (first | (with_reducible assumption) | (with_reducible exact Below.refl _ _) | (with_reducible refine beld_drew ?_) | ((with_reducible refine bset' ?_ ?_); (first | (focus (dsimp only; assumption)) | (focus (simp; done)) | (focus (dsimp only; omega)))) | (with_reducible refine belt_alloc ?_) | ((with_reducible refine zeroed_below' ?_ ?_); (first | (focus (simp; done)) | (focus (dsimp only; omega)))) | (with_reducible refine bt ?_ (by assumption)))))); (have GP := Lib.hid (peak_any a2 c2 S w2 hS2)); clear ho2 h2 hS2)
    | (go_at_call 35; (with_reducible refine (GP.out).mono ?_); rintro e w3 ⟨rfl, h3⟩; (have kb3 := blk_below h3 kb); (have nb := kn kb3); (have B3 := bt B2 h3)))
  refine ret_blk (b := w.heap.size) (c := #[.int .i64 (pkO S).1, .int .u64 (pkO S).2]) (v := .tuple #[.agg #[.int .i64 (pkO S).1, .int .u64 (pkO S).2], .int .i64 p]) (by (apply blk_to; (focus (repeat (first | (with_reducible assumption) | (with_reducible apply blk_drew) | (with_reducible apply blk_set) | ((with_reducible apply blk_other'); (first | (focus (dsimp only; assumption)) | (focus (simp; done)) | (focus (dsimp only; omega)))) | ((with_reducible apply blk_alloc_new); (first | (with_reducible rfl) | (focus (simp; done)) | (focus (simp; omega)))) | (with_reducible apply blk_alloc) | ((with_reducible apply blk_below); (with_reducible assumption))))); rfl)) (fun W' hc => by simp [results, Tryz.results12, go_sem, hc]) rfl ⟨rfl, ?_⟩
  exact (B3.setCell (by dsimp only; omega) _).setCell (by dsimp only; omega) _
end Go.Proofs.YthfmkkkdjgkaoaaGreatDoor
namespace Go.Proofs.YthfmkkkdjgkaoaaGreatDoor
open Go.RowKit
open Go.Maps
theorem kI_inj {a b : Int} (h : kI a = kI b) : a = b := by cases h; rfl
def remS (ns : List Int) (left : Lit → Bool) (g : Int → Int) : Int := sumI (ns.map fun k => if left (kI k) then g k else 0)
theorem remS_none {ns : List Int} {left : Lit → Bool} {g : Int → Int} (h : ∀ kl, left kl = false) : remS ns left g = 0 := by
  unfold remS
  induction ns with
  | nil => rfl
  | cons a ns ih => rw [List.map_cons, sumI_cons, ih, h]; simp
theorem remS_all {ns : List Int} {left : Lit → Bool} {g : Int → Int} (h : ∀ k ∈ ns, left (kI k) = true) : remS ns left g = sumI (ns.map g) := by
  unfold remS
  congr 1
  exact List.map_congr_left fun k hk => by rw [if_pos (h k hk)]
theorem remS_same {ns : List Int} {left left' : Lit → Bool} {g : Int → Int} (h : ∀ k ∈ ns, left (kI k) = left' (kI k)) : remS ns left g = remS ns left' g := by
  unfold remS
  congr 1
  exact List.map_congr_left fun k hk => by rw [h k hk]
theorem remS_step {left : Lit → Bool} {g : Int → Int} {x : Int} (hl : left (kI x) = true) : ∀ {ns : List Int}, ns.Nodup → x ∈ ns → remS ns left g = g x + remS ns (fun z => left z && !z.sameKey (kI x)) g
  | [], _, hx => by cases hx
  | a :: ns, hn, hx => by
    have hn' := List.nodup_cons.1 hn
    have e1 : ∀ (lf : Lit → Bool), remS (a :: ns) lf g = (if lf (kI a) then g a else 0) + remS ns lf g := fun lf => by unfold remS; rw [List.map_cons, sumI_cons]
    rw [e1, e1]
    by_cases e : a = x
    · subst e
      have h2 : remS ns left g = remS ns (fun z => left z && !z.sameKey (kI a)) g := remS_same fun k hk => by
        have hne : kI k ≠ kI a := fun e => hn'.1 (kI_inj e ▸ hk)
        show left (kI k) = (left (kI k) && !(kI k).sameKey (kI a))
        rw [sameKey_ne hne]; simp
      have h3 : (kI a).sameKey (kI a) = true := WideAt.sameKey_self (show WideAt.IsKeyLit (kI a) from trivial)
      rw [if_pos hl, h2]
      simp only [hl, h3, Bool.not_true, Bool.and_false, Bool.false_eq_true, if_false]
      omega
    · have hxn : x ∈ ns := by rcases List.mem_cons.1 hx with h | h; exact absurd h.symm e; exact h
      have hne : kI a ≠ kI x := fun e2 => e (kI_inj e2)
      rw [remS_step hl hn'.2 hxn]
      simp only [sameKey_ne hne, Bool.not_false, Bool.and_true]
      omega
theorem remS_nn {ns : List Int} {left : Lit → Bool} {g : Int → Int} (h : ∀ k, 0 ≤ g k) : 0 ≤ remS ns left g := sumI_nn _ fun y hy => by
  obtain ⟨k, _, rfl⟩ := List.mem_map.1 hy
  split
  · exact h k
  · omega
theorem nodO_nodup (b : List Bn) (l : List Oc) : (nodO b l).Nodup := by
  unfold nodO
  refine List.Pairwise.filter _ ?_
  decide +kernel
theorem mem_nodO {b : List Bn} {l : List Oc} {k : Int} (hb : ∀ x ∈ b, 1 ≤ x.no ∧ x.no ≤ 16) : k ∈ nodO b l ↔ madO b l k = true := by
  unfold nodO
  rw [List.mem_filter]
  constructor
  · exact fun h => h.2
  · intro h
    refine ⟨?_, h⟩
    unfold madO at h
    obtain ⟨x, hx, h2⟩ := List.any_eq_true.1 h
    have h3 : x.no = k := by simp at h2; exact h2.1
    have h4 := hb x hx
    rw [List.mem_map]
    exact ⟨(k - 1).toNat, List.mem_range.2 (by omega), by omega⟩
theorem size_nodO {b : List Bn} {l : List Oc} (hb : ∀ x ∈ b, 1 ≤ x.no ∧ x.no ≤ 16) {D : DataW Unit} {f : Int → Option Int} (h : SvcD D f) (hf : ∀ k, (f k).isSome = madO b l k) (hc : Canon D) : Maps.size D = (nodO b l).length := by
  obtain ⟨es, rfl, hr, hk⟩ := hc
  haveI : DecidableEq Lit := fun a b => Classical.propDecidable (a = b)
  have hap := apart_of_rising hr
  have h1 : (es.map (·.1)).Nodup := by
    rw [List.Nodup, List.pairwise_map]
    exact hap
  have h2 : ((nodO b l).map kI).Nodup := by
    rw [List.Nodup, List.pairwise_map]
    exact (nodO_nodup b l).imp fun hne e => hne (kI_inj e)
  have hp : (es.map (·.1)).Perm ((nodO b l).map kI) := perm_of_nodup h1 h2 fun kl => by
    have hhas : Maps.has (.map es) kl = true ↔ kl ∈ es.map (·.1) := by
      rw [has_eq, List.any_eq_true]
      constructor
      · rintro ⟨p, hp, h3⟩
        exact List.mem_map.2 ⟨p, hp, WideAt.sameKey_eq h3⟩
      · intro h3
        obtain ⟨p, hp, rfl⟩ := List.mem_map.1 h3
        exact ⟨p, hp, WideAt.sameKey_self (hk p hp)⟩
    rw [← hhas]
    constructor
    · intro h3
      obtain ⟨k, rfl, h4⟩ := h.2.1 kl h3
      rw [hf] at h4
      exact List.mem_map.2 ⟨k, (mem_nodO hb).2 h4, rfl⟩
    · intro h3
      obtain ⟨k, h4, rfl⟩ := List.mem_map.1 h3
      rw [h.has k, hf]
      exact (mem_nodO hb).1 h4
  have := hp.length_eq
  simpa [Maps.size] using this
theorem gcd_step {a c : Nat} : Nat.gcd c (a % c) = Nat.gcd a c := by
  rw [Nat.gcd_comm c, ← Nat.gcd_rec, Nat.gcd_comm]
theorem svc_le {b : List Bn} {l : List Oc} (h : ∀ x ∈ b, x.da.size ≤ 1000) (hl : b.length ≤ 1000) (k : Int) : 0 ≤ svcO b l k ∧ svcO b l k ≤ 1000000 := by
  refine ⟨svcO_nn b l k, ?_⟩
  unfold svcO
  have h1 := sum_bounds ((b.filter fun x => decide (x.no = k) && hasO l 8 (bid x)).map fun x => (x.da.size : Int)) 0 1000 (fun y hy => by
    obtain ⟨x, hx, rfl⟩ := List.mem_map.1 hy
    have := h x (List.mem_filter.1 hx).1
    omega)
  have h2 : (b.filter fun x => decide (x.no = k) && hasO l 8 (bid x)).length ≤ b.length := List.length_filter_le _ _
  rw [List.length_map] at h1
  omega
theorem sums_bd {b : List Bn} {l : List Oc} (h : ∀ x ∈ b, x.da.size ≤ 1000) (hl : b.length ≤ 1000) : (0 ≤ sumO b l ∧ sumO b l ≤ 16000000) ∧ (0 ≤ sqsO b l ∧ sqsO b l ≤ 16000000000000) := by
  have hn := nodO_len b l
  have h1 := sum_bounds ((nodO b l).map (svcO b l)) 0 1000000 (fun y hy => by obtain ⟨k, _, rfl⟩ := List.mem_map.1 hy; exact svc_le h hl k)
  have h2 := sum_bounds ((nodO b l).map fun n => svcO b l n * svcO b l n) 0 1000000000000 (fun y hy => by
    obtain ⟨k, _, rfl⟩ := List.mem_map.1 hy
    have h3 := svc_le (l := l) h hl k
    refine ⟨Int.mul_nonneg h3.1 h3.1, ?_⟩
    have := Int.mul_le_mul h3.2 h3.2 h3.1 (by omega)
    exact this)
  rw [List.length_map] at h1 h2
  unfold sumO sqsO
  omega
end Go.Proofs.YthfmkkkdjgkaoaaGreatDoor
namespace Go.Proofs.YthfmkkkdjgkaoaaGreatDoor
open Go.RowKit
theorem node_bd {x : Bn} (h : bcode x = 0) : (1 ≤ x.no ∧ x.no ≤ 16) ∧ x.da.size ≤ 1000 := by
  obtain ⟨⟨a1, a2, a3, a4, a5⟩, ⟨b1, b2, b3, b4, b5, b6, b7, b8, b9, b10⟩, c1, c2, c3⟩ := buC_ok h
  omega
theorem kv16 (l : List Oc) (id : Id3) : ∃ k0 k2 k3 k4 k5 k6 k7 k9 k10 k11 k12 k13 k14 k15 : Bool, kvA l id = (.agg #[.bool k0, .bool (hasO l 1 id), .bool k2, .bool k3, .bool k4, .bool k5, .bool k6, .bool k7, .bool (hasO l 8 id), .bool k9, .bool k10, .bool k11, .bool k12, .bool k13, .bool k14, .bool k15]) := ⟨hasO l 0 id, hasO l 2 id, hasO l 3 id, hasO l 4 id, hasO l 5 id, hasO l 6 id, hasO l 7 id, hasO l 9 id, hasO l 10 id, hasO l 11 id, hasO l 12 id, hasO l 13 id, hasO l 14 id, hasO l 15 id, rfl⟩
theorem ix16_1 (k0 k1 k2 k3 k4 k5 k6 k7 k8 k9 k10 k11 k12 k13 k14 k15 : Bool) (w : World) : Sem.run Tryz.prog (Instr.index 117 (.agg #[.bool k0, .bool k1, .bool k2, .bool k3, .bool k4, .bool k5, .bool k6, .bool k7, .bool k8, .bool k9, .bool k10, .bool k11, .bool k12, .bool k13, .bool k14, .bool k15]) (.int .i64 1)) w = .ok (.bool k1) w := by kernel_rfl
theorem ix16_8 (k0 k1 k2 k3 k4 k5 k6 k7 k8 k9 k10 k11 k12 k13 k14 k15 : Bool) (w : World) : Sem.run Tryz.prog (Instr.index 117 (.agg #[.bool k0, .bool k1, .bool k2, .bool k3, .bool k4, .bool k5, .bool k6, .bool k7, .bool k8, .bool k9, .bool k10, .bool k11, .bool k12, .bool k13, .bool k14, .bool k15]) (.int .i64 8)) w = .ok (.bool k8) w := by kernel_rfl
theorem mad_snoc (b : List Bn) (l : List Oc) (x : Bn) (k : Int) : madO (b ++ [x]) l k = (madO b l k || (decide (x.no = k) && hasO l 1 (bid x))) := by simp [madO, List.any_append]
theorem svc_snoc (b : List Bn) (l : List Oc) (x : Bn) (k : Int) : svcO (b ++ [x]) l k = svcO b l k + if decide (x.no = k) && hasO l 8 (bid x) then (x.da.size : Int) else 0 := by
  unfold svcO
  rw [List.filter_append, List.map_append, sumI_app]
  congr 1
  rw [List.filter_cons]
  split
  · rw [List.filter_nil, List.map_cons, List.map_nil, sumI_cons, sumI_nil, Int.add_zero]
  · rfl
def f1 (b : List Bn) (l : List Oc) (j : Nat) (k : Int) : Option Int := if madO (b.take j) l k then some 0 else none
def f2 (b : List Bn) (l : List Oc) (j : Nat) (k : Int) : Option Int := if madO b l k then some (svcO (b.take j) l k) else none
theorem f1_yes {b : List Bn} {l : List Oc} {j : Nat} (hj : j < b.length) (h : hasO l 1 (bid b[j]) = true) (k : Int) : updI (f1 b l j) b[j].no 0 k = f1 b l (j + 1) k := by
  unfold updI f1
  rw [List.take_succ_eq_append_getElem hj, mad_snoc, h]
  by_cases e : k = b[j].no
  · subst e; simp
  · rw [if_neg e, decide_eq_false (fun e2 => e e2.symm)]; simp
theorem f1_no {b : List Bn} {l : List Oc} {j : Nat} (hj : j < b.length) (h : hasO l 1 (bid b[j]) = false) (k : Int) : f1 b l j k = f1 b l (j + 1) k := by
  unfold f1
  rw [List.take_succ_eq_append_getElem hj, mad_snoc, h]; simp
theorem f1_zero (b : List Bn) (l : List Oc) (j : Nat) (k : Int) : (f1 b l j k).getD 0 = 0 := by unfold f1; split <;> rfl
theorem f12 (b : List Bn) (l : List Oc) (k : Int) : f1 b l b.length k = f2 b l 0 k := by
  unfold f1 f2
  rw [List.take_length]
  rfl
theorem f2_yes {b : List Bn} {l : List Oc} {j : Nat} (hj : j < b.length) (hm : madO b l b[j].no = true) (h : hasO l 8 (bid b[j]) = true) (k : Int) : updI (f2 b l j) b[j].no (svcO (b.take j) l b[j].no + (b[j].da.size : Int)) k = f2 b l (j + 1) k := by
  unfold updI f2
  rw [List.take_succ_eq_append_getElem hj, svc_snoc, h]
  by_cases e : k = b[j].no
  · subst e; simp [hm]
  · rw [if_neg e, decide_eq_false (fun e2 => e e2.symm)]; simp
theorem f2_no {b : List Bn} {l : List Oc} {j : Nat} (hj : j < b.length) (h : (madO b l b[j].no && hasO l 8 (bid b[j])) = false) (k : Int) : f2 b l j k = f2 b l (j + 1) k := by
  unfold f2
  rw [List.take_succ_eq_append_getElem hj, svc_snoc]
  by_cases hm : madO b l k = true
  · rw [if_pos hm, if_pos hm]
    by_cases e : b[j].no = k
    · subst e
      rw [hm, Bool.true_and] at h
      rw [h]; simp
    · rw [decide_eq_false e]; simp
  · rw [if_neg hm, if_neg hm]
theorem svc_bd {b : List Bn} {l : List Oc} (h : ∀ x ∈ b, bcode x = 0) (k : Int) : 0 ≤ svcO b l k ∧ svcO b l k ≤ (b.length : Int) * 1000 := by
  refine ⟨svcO_nn b l k, ?_⟩
  unfold svcO
  have h1 := sum_bounds ((b.filter fun x => decide (x.no = k) && hasO l 8 (bid x)).map fun x => (x.da.size : Int)) 0 1000 (fun y hy => by
    obtain ⟨x, hx, rfl⟩ := List.mem_map.1 hy
    have := (node_bd (h x (List.mem_filter.1 hx).1)).2
    omega)
  have h2 : (b.filter fun x => decide (x.no = k) && hasO l 8 (bid x)).length ≤ b.length := List.length_filter_le _ _
  rw [List.length_map] at h1
  omega
set_option maxRecDepth 100000 in
set_option maxHeartbeats 6400000 in
theorem pfair_any (ab al : Option Addr) (cb cl : Nat) (b : List Bn) (l : List Oc) (hv : RunV b l) (w : World) (hb : SRow bn 9 w ab cb b) (hl : SRow oc 7 w al cl l) :
    Calls Tryz.prog 36 #[.agg #[.slice ab b.length cb, .slice al l.length cl]] w fun e w' => e = .returned (.tuple #[.int .u64 (faiO b l).1, .int .u64 (faiO b l).2]) ∧ Below w.heap.size w w' := by
  have gk : ∀ (vb : Value) W, Below w.heap.size w W → Calls Tryz.prog 63 #[.agg #[vb, .slice al l.length cl]] W fun e w' => ∃ m, e = .returned (.map (some m)) ∧ KindsAt w' m l ∧ W.heap.size ≤ m ∧ Below W.heap.size W w' := fun vb W hB => kinds_any vb al cl l hv.kinds W (hl.below hB)
  have hlen := hv.len
  have HV := Lib.hid hv; have GK := Lib.hid gk
  have HR := Lib.hid hb
  have hcap := hb.1; have hmax := hb.2.1
  unfold maxLen at hmax
  clear gk hb hl hv
  go_enter Tryz.func36, Tryz.ntmps36
  have hmm := @run_makeMap Tryz.prog
  go_upto_region 3 with (go_at_call 63; (with_reducible refine (GK.out _ _ (by (repeat (first | (with_reducible assumption) | (with_reducible exact Below.refl _ _) | (with_reducible refine beld_drew ?_) | ((with_reducible refine bset' ?_ ?_); (first | (focus (dsimp only; assumption)) | (focus (simp; done)) | (focus (dsimp only; omega)))) | (with_reducible refine belt_alloc ?_) | ((with_reducible refine zeroed_below' ?_ ?_); (first | (focus (simp; done)) | (focus (dsimp only; omega)))) | (with_reducible refine bt ?_ (by assumption)))))).mono ?_); rintro e w2 ⟨m0, rfl, hk2, hm0, h2⟩; (have kr : blk w2 w.heap.size = some #[.slice ab b.length cb, .slice al l.length cl] := (by (apply blk_to; (focus (repeat (first | (with_reducible assumption) | (with_reducible apply blk_drew) | (with_reducible apply blk_set) | ((with_reducible apply blk_other'); (first | (focus (dsimp only; assumption)) | (focus (simp; done)) | (focus (dsimp only; omega)))) | ((with_reducible apply blk_alloc_new); (first | (with_reducible rfl) | (focus (simp; done)) | (focus (simp; omega)))) | (with_reducible apply blk_alloc) | ((with_reducible apply blk_below); (with_reducible assumption))))); rfl))); (have B2 : Below w.heap.size w w2 := (by (repeat (first | (with_reducible assumption) | (with_reducible exact Below.refl _ _) | (with_reducible refine beld_drew ?_) | ((with_reducible refine bset' ?_ ?_); (first | (focus (dsimp only; assumption)) | (focus (simp; done)) | (focus (dsimp only; omega)))) | (with_reducible refine belt_alloc ?_) | ((with_reducible refine zeroed_below' ?_ ?_); (first | (focus (simp; done)) | (focus (dsimp only; omega)))) | (with_reducible refine bt ?_ (by assumption)))))); (have hm0w : w.heap.size < m0 := (by simp at hm0; omega)); clear h2 hm0)
  obtain ⟨vr, hvr⟩ : ∃ v, v = (#[.slice ab b.length cb, .slice al l.length cl] : Array Value) := ⟨_, rfl⟩
  have hv0 : vr[0]? = some (.slice ab b.length cb) := by rw [hvr]; rfl
  rw [← hvr] at kr
  obtain ⟨m1, hm1⟩ : ∃ m, m = w2.heap.size := ⟨_, rfl⟩
  obtain ⟨u0, hu0⟩ : ∃ u, u = w2.alloc (.map #[] 0) := ⟨_, rfl⟩
  have B0 : Below w.heap.size w u0 := by rw [hu0]; exact B2.alloc B2.size _
  have k0 : Hid (blk u0 w.heap.size = some vr ∧ KindsAt u0 m0 l ∧ SvcAt u0 m1 0 (f1 b l 0)) := Lib.hid (by
    rw [hu0, hm1]
    refine ⟨blk_alloc kr _, ?_, ?_⟩
    · obtain ⟨ks, h1, h2, h3⟩ := hk2
      exact ⟨ks, h1, h2, h3.alloc _⟩
    · exact (svcAt_made w2).congr (Nat.le_refl _) (fun k => by simp [f1, madO]))
  have hm01 : m0 < m1 := by rw [hm1]; obtain ⟨_, _, _, h3⟩ := hk2; exact h3.lt
  have kc : u0.cell? ⟨w.heap.size, 0, none⟩ = some (.slice ab b.length cb) := (blk_cell k0.out.1 0).trans hv0
  rw [← hu0, ← hm1]
  clear hu0 hm1 hvr hk2 kr B2 hmm
  go_wp2
  clear kc
  go_loopw [24] (fun i wr => ∃ j : Nat, i = .int .i64 j ∧ j ≤ b.length ∧ Below w.heap.size w wr ∧ Hid (blk wr w.heap.size = some vr ∧ KindsAt wr m0 l ∧ SvcAt wr m1 j (f1 b l j))) (fun i _ => b.length - (intOf i).toNat)
  case atStart => exact ⟨0, rfl, Nat.zero_le _, B0, k0⟩
  case round =>
    clear B0 k0
    obtain ⟨j, rfl, hj, hB, HM⟩ := hrel
    by_cases hlt : j < b.length
    · have hltz : (j : Int) < (b.length : Int) := by omega
      obtain ⟨g, off, hab, hgl, hcs⟩ := (HR.out.below hB).2.2.2 (by omega)
      subst hab
      obtain ⟨x, hx⟩ : ∃ x, x = b[j] := ⟨_, rfl⟩
      have hr := hcs j hlt
      rw [← hx] at hr
      have HX := Lib.hid hx
      clear hx hcs
      go_upto_region 5 with fail
      refine wp_region_elem0 54 (.tmp 26) g (off + j * 9) (bn x) #[.int .i64 0, .int .u64 0, .int .i64 0, .int .i64 0, .int .i64 0, .int .i64 0, .int .i64 0, .int .i64 0, .string ⟨#[]⟩] hr rfl (by go_simp) rfl rfl rfl _ Tryz.underlying54 rfl (by kernel_rfl) rfl (by kernel_rfl) rfl _ _ rfl rfl rfl rfl (bn_one x) ?_
      intro c0 w1 hc0 kb hB1
      conv => arg 4; simp [Act.put]
      have hB2 : Below w.heap.size w w1 := bt hB hB1
      have kb : blk w1 c0 = some #[.int .i64 x.no, .int .u64 x.sq, .int .i64 x.of, .int .i64 x.de, .int .i64 x.pr, .int .i64 x.bo, .int .i64 x.li, .int .i64 x.to, .string x.da] := kb
      have hk1 := HM.out.2.1.below hB1
      have hs1 := HM.out.2.2.below hB1
      have kr1 := blk_below hB1 HM.out.1
      have hnb := (node_bd (HV.out.mem x (by rw [HX.out]; exact List.getElem_mem _))).1
      obtain ⟨k0, k2, k3, k4, k5, k6, k7, k9, k10, k11, k12, k13, k14, k15, hkv⟩ := kv16 l (bid x)
      have lkK := hk1.look (bid x)
      rw [hkv] at lkK
      have lkS := hs1.look (k := x.no) (by omega) (by omega)
      rw [f1_zero] at lkS
      obtain ⟨w5, r5, hs5, hg5⟩ := hs1.put (k := x.no) (c := 0) (by omega) (by omega) (by omega) (by omega)
      replace lkK : Sem.run Tryz.prog (Instr.lookup 114 (.map (some m0)) (.agg #[.int .i64 x.no, .int .u64 x.sq, .int .i64 x.of]) false) w1 = .ok (.agg #[.bool k0, .bool (hasO l 1 (bid x)), .bool k2, .bool k3, .bool k4, .bool k5, .bool k6, .bool k7, .bool (hasO l 8 (bid x)), .bool k9, .bool k10, .bool k11, .bool k12, .bool k13, .bool k14, .bool k15]) w1 := lkK
      obtain ⟨k8, hk8⟩ : ∃ q, hasO l 8 (bid x) = q := ⟨_, rfl⟩
      obtain ⟨k1, hkk⟩ : ∃ q, hasO l 1 (bid x) = q := ⟨_, rfl⟩
      rw [hk8, hkk] at lkK
      have ix := ix16_1 k0 k1 k2 k3 k4 k5 k6 k7 k8 k9 k10 k11 k12 k13 k14 k15 w1
      have hB5 : Below w.heap.size w w5 := hB2.grown hg5 hB2.size (fun k e => by cases e; omega)
      have nk := kn kb
      cases k1
      · have HN : Hid (blk w1 w.heap.size = some vr ∧ KindsAt w1 m0 l ∧ SvcAt w1 m1 (j + 1) (f1 b l (j + 1))) := Lib.hid ⟨kr1, hk1, hs1.congr (by omega) (fun k => f1_no hlt (by rw [← HX.out]; exact hkk) k)⟩
        clear hs5 hg5 hB5 r5 lkS hkk hk8 hkv hk1 hs1 kr1 HM hr hc0 hB1 hB hgl kb
        go_wp2
        go_roundw
        case rel => exact ⟨j + 1, by go_num, by omega, hB2, HN⟩
        case measure => simp [intOf]; omega
      · have HN : Hid (blk w5 w.heap.size = some vr ∧ KindsAt w5 m0 l ∧ SvcAt w5 m1 (j + 1) (f1 b l (j + 1))) := Lib.hid (by
          refine ⟨(blk_kept (hg5.block _ (blk_lt kr1) (by simp; omega))).trans kr1, ?_, hs5.congr (Nat.le_refl _) (fun k => by have := f1_yes hlt (by rw [← HX.out]; exact hkk) k; rwa [← HX.out] at this)⟩
          obtain ⟨ks, h1, h2, h3⟩ := hk1
          exact ⟨ks, h1, h2, h3.kept (hg5.block _ h3.lt (by simp; omega))⟩)
        clear hs5 hg5 hkk hk8 hkv hk1 hs1 kr1 HM hr hc0 hB1 hB hgl kb
        go_wp2
        go_roundw
        case rel => exact ⟨j + 1, by go_num, by omega, hB5, HN⟩
        case measure => simp [intOf]; omega
    · obtain rfl : j = b.length := by omega
      have K1 : Hid (blk wr w.heap.size = some vr ∧ KindsAt wr m0 l ∧ SvcAt wr m1 b.length (f2 b l 0)) := Lib.hid ⟨HM.out.1, HM.out.2.1, HM.out.2.2.congr (Nat.le_refl _) (fun k => f12 b l k)⟩
      have kc : wr.cell? ⟨w.heap.size, 0, none⟩ = some (.slice ab b.length cb) := (blk_cell HM.out.1 0).trans hv0
      clear HM GK hj hlt
      go_wp2
      clear kc
      go_loopw [43] (fun i wr => ∃ j : Nat, i = .int .i64 j ∧ j ≤ b.length ∧ Below w.heap.size w wr ∧ Hid (blk wr w.heap.size = some vr ∧ KindsAt wr m0 l ∧ SvcAt wr m1 (b.length + j) (f2 b l j))) (fun i _ => b.length - (intOf i).toNat)
      case atStart => exact ⟨0, rfl, Nat.zero_le _, hB, K1⟩
      case round =>
        clear hB K1
        obtain ⟨j, rfl, hj, hB, HM⟩ := hrel
        by_cases hlt : j < b.length
        · have hltz : (j : Int) < (b.length : Int) := by omega
          obtain ⟨g, off, hab, hgl, hcs⟩ := (HR.out.below hB).2.2.2 (by omega)
          subst hab
          obtain ⟨x, hx⟩ : ∃ x, x = b[j] := ⟨_, rfl⟩
          have hr := hcs j hlt
          rw [← hx] at hr
          have HX := Lib.hid hx
          clear hx hcs
          go_upto_region 11 with fail
          refine wp_region_elem0 54 (.tmp 45) g (off + j * 9) (bn x) #[.int .i64 0, .int .u64 0, .int .i64 0, .int .i64 0, .int .i64 0, .int .i64 0, .int .i64 0, .int .i64 0, .string ⟨#[]⟩] hr rfl (by go_simp) rfl rfl rfl _ Tryz.underlying54 rfl (by kernel_rfl) rfl (by kernel_rfl) rfl _ _ rfl rfl rfl rfl (bn_one x) ?_
          intro c0 w1 hc0 kb hB1
          conv => arg 4; simp [Act.put]
          have hB2 : Below w.heap.size w w1 := bt hB hB1
          have kb : blk w1 c0 = some #[.int .i64 x.no, .int .u64 x.sq, .int .i64 x.of, .int .i64 x.de, .int .i64 x.pr, .int .i64 x.bo, .int .i64 x.li, .int .i64 x.to, .string x.da] := kb
          have hk1 := HM.out.2.1.below hB1
          have hs1 := HM.out.2.2.below hB1
          have kr1 := blk_below hB1 HM.out.1
          have hnb := node_bd (HV.out.mem x (by rw [HX.out]; exact List.getElem_mem _))
          obtain ⟨k0, k2, k3, k4, k5, k6, k7, k9, k10, k11, k12, k13, k14, k15, hkv⟩ := kv16 l (bid x)
          have lkK := hk1.look (bid x)
          rw [hkv] at lkK
          have lk2 := hs1.look2 (k := x.no) (by omega) (by omega)
          have lkS := hs1.look (k := x.no) (by omega) (by omega)
          have hsb := svc_bd (b := b.take j) (l := l) (fun y hy => HV.out.mem y (List.mem_of_mem_take hy)) x.no
          have htl : (b.take j).length ≤ j := List.length_take_le _ _
          obtain ⟨w5, r5, hs5, hg5⟩ := hs1.put (k := x.no) (c := svcO (b.take j) l x.no + (x.da.size : Int)) (by omega) (by omega) (by omega) (by omega)
          replace lkK : Sem.run Tryz.prog (Instr.lookup 114 (.map (some m0)) (.agg #[.int .i64 x.no, .int .u64 x.sq, .int .i64 x.of]) false) w1 = .ok (.agg #[.bool k0, .bool (hasO l 1 (bid x)), .bool k2, .bool k3, .bool k4, .bool k5, .bool k6, .bool k7, .bool (hasO l 8 (bid x)), .bool k9, .bool k10, .bool k11, .bool k12, .bool k13, .bool k14, .bool k15]) w1 := lkK
          obtain ⟨k8, hk8⟩ : ∃ q, hasO l 8 (bid x) = q := ⟨_, rfl⟩
          obtain ⟨k1, hkk⟩ : ∃ q, hasO l 1 (bid x) = q := ⟨_, rfl⟩
          obtain ⟨md, hmd⟩ : ∃ q, madO b l x.no = q := ⟨_, rfl⟩
          rw [hk8, hkk] at lkK
          have hf2 : f2 b l j x.no = if md then some (svcO (b.take j) l x.no) else none := by unfold f2; rw [hmd]
          rw [hf2] at lk2 lkS
          have ix := ix16_8 k0 k1 k2 k3 k4 k5 k6 k7 k8 k9 k10 k11 k12 k13 k14 k15 w1
          have hB5 : Below w.heap.size w w5 := hB2.grown hg5 hB2.size (fun k e => by cases e; omega)
          have nk := kn kb
          have hun : undef = Value.tuple #[] := rfl
          have HNO : (md && k8) = false → Hid (blk w1 w.heap.size = some vr ∧ KindsAt w1 m0 l ∧ SvcAt w1 m1 (b.length + (j + 1)) (f2 b l (j + 1))) := fun h => Lib.hid ⟨kr1, hk1, hs1.congr (by omega) (fun k => f2_no hlt (by rw [← HX.out, hmd, hk8]; exact h) k)⟩
          cases md
          · have HN := HNO rfl
            replace lk2 : Sem.run Tryz.prog (Instr.lookup 116 (.map (some m1)) (.int .i64 x.no) true) w1 = .ok (.tuple #[.int .u64 0, .bool false]) w1 := lk2
            clear hs5 hg5 hB5 r5 lkS lkK hkk hk8 hkv hk1 hs1 kr1 HM hr hc0 hB1 hB hgl kb hmd hf2 HNO hsb htl
            go_wp2
            (try simp only [← hun])
            clear hun
            go_roundw
            case rel => exact ⟨j + 1, by go_num, by omega, hB2, HN⟩
            case measure => simp [intOf]; omega
          · replace lk2 : Sem.run Tryz.prog (Instr.lookup 116 (.map (some m1)) (.int .i64 x.no) true) w1 = .ok (.tuple #[.int .u64 (svcO (b.take j) l x.no), .bool true]) w1 := lk2
            replace lkS : Sem.run Tryz.prog (Instr.lookup 116 (.map (some m1)) (.int .i64 x.no) false) w1 = .ok (.int .u64 (svcO (b.take j) l x.no)) w1 := lkS
            cases k8
            · have HN := HNO rfl
              clear hs5 hg5 hB5 r5 lkS hkk hk8 hkv hk1 hs1 kr1 HM hr hc0 hB1 hB hgl kb hmd hf2 HNO hsb htl
              go_wp2
              (try simp only [← hun])
              clear hun
              go_roundw
              case rel => exact ⟨j + 1, by go_num, by omega, hB2, HN⟩
              case measure => simp [intOf]; omega
            · have HN : Hid (blk w5 w.heap.size = some vr ∧ KindsAt w5 m0 l ∧ SvcAt w5 m1 (b.length + (j + 1)) (f2 b l (j + 1))) := Lib.hid (by
                refine ⟨(blk_kept (hg5.block _ (blk_lt kr1) (by simp; omega))).trans kr1, ?_, hs5.congr (by omega) (fun k => by have := f2_yes hlt (by rw [← HX.out]; exact hmd) (by rw [← HX.out]; exact hk8) k; rwa [← HX.out] at this)⟩
                obtain ⟨ks, h1, h2, h3⟩ := hk1
                exact ⟨ks, h1, h2, h3.kept (hg5.block _ h3.lt (by simp; omega))⟩)
              obtain ⟨S, hS⟩ : ∃ S, svcO (b.take j) l x.no = S := ⟨_, rfl⟩
              rw [hS] at lk2 lkS r5 hsb
              have q1 : IntKind.u64.wrap (x.da.size : Int) = (x.da.size : Int) := IntWalk.u64_in _ (by omega)
              have q2 : IntKind.u64.wrap (S + (x.da.size : Int)) = S + (x.da.size : Int) := IntWalk.u64_in _ (by omega)
              clear hs5 hg5 hkk hk8 hkv hk1 hs1 kr1 HM hr hc0 hB1 hB hgl kb hmd hf2 HNO hsb htl hS
              go_wp2
              (try simp only [← hun])
              clear hun
              go_roundw
              case rel => exact ⟨j + 1, by go_num, by omega, hB5, HN⟩
              case measure => simp [intOf]; omega
        · obtain rfl : j = b.length := by omega
          have hbb := sums_bd (b := b) (l := l) (fun x hx => (node_bd (HV.out.mem x hx)).2) HV.out.len
          have hno : ∀ x ∈ b, 1 ≤ x.no ∧ x.no ≤ 16 := fun x hx => (node_bd (HV.out.mem x hx)).1
          obtain ⟨D, hD, hown⟩ := HM.out.2.2
          have hf : ∀ k, (f2 b l b.length k).isSome = madO b l k := fun k => by unfold f2; split <;> simp_all
          have hfv : ∀ k c, madO b l k = true → (∀ zd, D.atKey (kI k) zd = .lit (.int .u64 c)) → c = svcO b l k := fun k c hm hat => by
            have h1 : f2 b l b.length k = some (svcO b l k) := by unfold f2; rw [if_pos hm, List.take_length]
            have h2 := (hD.2.2 k _ h1).2 (.lit (.int .u64 0))
            rw [hat] at h2
            simpa using h2
          have hsz := size_nodO hno hD hf (hown.canon keyedI)
          have hhas : ∀ k, Maps.has D (kI k) = madO b l k := fun k => by rw [hD.has k, hf]
          have hst1 : ∀ g, remS (nodO b l) (Maps.has D) g = sumI ((nodO b l).map g) := fun g => remS_all fun k hk => by rw [hhas]; exact (mem_nodO hno).1 hk
          have hkey : ∀ kl, Maps.has D kl = true → ∃ k, kl = kI k ∧ k ∈ nodO b l := fun kl h => by
            obtain ⟨k, rfl, h2⟩ := hD.2.1 kl h
            exact ⟨k, rfl, (mem_nodO hno).2 (by rw [← hf k]; exact h2)⟩
          have HFV : Hid (∀ k ∈ nodO b l, ∀ c, (∀ zd, D.atKey (kI k) zd = .lit (.int .u64 c)) → c = svcO b l k) := Lib.hid fun k hk c hat => hfv k c ((mem_nodO hno).1 hk) hat
          have HKEY := Lib.hid hkey
          have HSZ := Lib.hid hsz
          have hN16 := nodO_len b l
          have hfai : faiO b l = if sumO b l = 0 then (1, 1) else (sumO b l * sumO b l / (Int.gcd (sumO b l * sumO b l) (((nodO b l).length : Int) * sqsO b l) : Int), ((nodO b l).length : Int) * sqsO b l / (Int.gcd (sumO b l * sumO b l) (((nodO b l).length : Int) * sqsO b l) : Int)) := rfl
          have HST : Hid (remS (nodO b l) (Maps.has D) (svcO b l) = sumO b l ∧ remS (nodO b l) (Maps.has D) (fun n => svcO b l n * svcO b l n) = sqsO b l) := Lib.hid ⟨hst1 _, hst1 _⟩
          have hnd := nodO_nodup b l
          have hnn : ∀ k, 0 ≤ svcO b l k := fun k => svcO_nn b l k
          have hnn2 : ∀ k, 0 ≤ svcO b l k * svcO b l k := fun k => Int.mul_nonneg (hnn k) (hnn k)
          have hsb : ∀ k, svcO b l k ≤ 1000000 := fun k => (svc_le (l := l) (fun x hx => (node_bd (HV.out.mem x hx)).2) HV.out.len k).2
          have HNN := Lib.hid (And.intro hnd (And.intro hnn (And.intro hnn2 hsb)))
          obtain ⟨sv, hsv⟩ : ∃ f, f = svcO b l := ⟨_, rfl⟩
          have hsq : (fun n => svcO b l n * svcO b l n) = fun n => sv n * sv n := by rw [hsv]
          rw [hsq, ← hsv] at HST
          rw [← hsv] at HFV
          simp only [← hsv] at HNN
          obtain ⟨ns, hns⟩ : ∃ f, f = nodO b l := ⟨_, rfl⟩
          rw [← hns] at HST HFV HKEY HSZ HNN hN16 hfai
          obtain ⟨TA, hTA⟩ : ∃ f, f = sumO b l := ⟨_, rfl⟩
          obtain ⟨TQ, hTQ⟩ : ∃ f, f = sqsO b l := ⟨_, rfl⟩
          rw [← hTA, ← hTQ] at HST hbb hfai
          have HFAI := Lib.hid hfai
          have kr := HM.out.1
          have hm1l := hown.lt
          clear HM HV hno hf hfv hsz hhas hst1 hkey hnd hnn hnn2 hsb hsv hsq hns hTA hTQ hD hfai hj hlt HR hv0 kr
          obtain ⟨r, hr⟩ : ∃ r, r = wr.heap.size := ⟨_, rfl⟩
          have hB2 := hB
          go_wp2_with (at_range; go_loud (refine wpList_range_own _ rfl _ 116 rfl 3 33 keyedI Tryz.underlying116 _ m1 _ D rfl hown ?_); intro w0 hrg0 hg0 hs0)
          go_frame
          rw [← hr] at hrg0 ⊢
          have B0 : Below w.heap.size w w0 := hB2.grown hg0 hB2.size (fun k e => by cases e)
          have hwr : w.heap.size ≤ r := by rw [hr]; exact hB2.size
          have HRG := Lib.hid hrg0
          clear hr hg0 hs0 hown hB hB2 hrg0
          go_loopw [12, 13] (fun s12 s13 wr => ∃ (left : Lit → Bool) (cnt : Nat) (A Q : Int), s12 = .int .u64 A ∧ s13 = .int .u64 Q ∧ Below w.heap.size w wr ∧ (0 ≤ A ∧ 0 ≤ Q) ∧ Hid (wr.ranges Tryz.prog 3 (plainElem Tryz.prog 33) m1 r (b.length + b.length) D left cnt ∧ (∀ kl, left kl = true → Maps.has D kl = true) ∧ A + remS ns left sv = TA ∧ Q + remS ns left (fun n => sv n * sv n) = TQ)) (fun _ _ wr => wr.rangeLeft m1 r)
          case atStart => exact ⟨_, _, 0, 0, rfl, rfl, B0, ⟨by omega, by omega⟩, Lib.hid ⟨HRG.out, fun _ h => h, by rw [Int.zero_add]; exact HST.out.1, by rw [Int.zero_add]; exact HST.out.2⟩⟩
          case round =>
            clear B0 HRG HST
            obtain ⟨left, cnt, A, Q, rfl, rfl, hB, hAQ, HI⟩ := hrel
            go_upto_region 18 with fail
            refine wp_region_lit ?_
            refine wpList_next_ranges_ii _ rfl _ rfl 3 33 .i64 .u64 keyedI Tryz.underlying3 Tryz.underlying33 m1 r (b.length + b.length) D left cnt rfl HI.out.1 (fun hc0 hl0 => ?_) (fun x c w1 cnt1 hwx hwc hlx hat hrg1 hlt hg1 hs1 hen => ?_)
            · conv => arg 5; simp [Act.put]
              have e1 := HI.out.2.2.1
              have e2 := HI.out.2.2.2
              rw [remS_none hl0, Int.add_zero] at e1 e2
              have how := HI.out.1.owns
              subst e1 e2
              clear HI HKEY HFV HNN hl0
              have hA0 := hAQ.1; have hQ0 := hAQ.2
              have hA1 := hbb.1.2; have hQ1 := hbb.2.2
              clear hbb hAQ
              by_cases hz : A = 0
              · have hfa : faiO b l = (1, 1) := by rw [HFAI.out, if_pos hz]
                have HFA := Lib.hid hfa
                subst hz
                clear hfa HFAI how HSZ
                go_wp2
                go_ret2
                exact ⟨by rw [HFA.out]; rfl, hB⟩
              · have t1 : (A == 0) = false := by simpa using hz
                have hfa := HFAI.out
                rw [if_neg hz] at hfa
                have HF2 := Lib.hid hfa
                have hxx : 0 < A * A ∧ A * A ≤ 256000000000000 := by
                  refine ⟨Int.mul_pos (by omega) (by omega), ?_⟩
                  have := Int.mul_le_mul (show A ≤ 16000000 by omega) (show A ≤ 16000000 by omega) hA0 (by omega)
                  exact this
                obtain ⟨n, hn⟩ : ∃ n, n = ns.length := ⟨_, rfl⟩
                have hyy : 0 ≤ (n : Int) * Q ∧ (n : Int) * Q ≤ 256000000000000 := by
                  refine ⟨Int.mul_nonneg (by omega) hQ0, ?_⟩
                  have := Int.mul_le_mul (show (n : Int) ≤ 16 by omega) (show Q ≤ 16000000000000 by omega) hQ0 (by omega)
                  exact this
                have hszn : Maps.size D = n := by rw [HSZ.out, hn]
                rw [← hn] at HF2 hN16
                obtain ⟨X, hX⟩ : ∃ X : Nat, A * A = (X : Int) := ⟨(A * A).toNat, by omega⟩
                obtain ⟨Y, hY⟩ : ∃ Y : Nat, (n : Int) * Q = (Y : Int) := ⟨((n : Int) * Q).toNat, by omega⟩
                rw [hX] at hxx
                rw [hY] at hyy
                have q1 : IntKind.u64.wrap (A * A) = (X : Int) := by rw [hX]; exact IntWalk.u64_in _ (by omega)
                have q2 : IntKind.u64.wrap (n : Int) = (n : Int) := IntWalk.u64_in _ (by omega)
                have q3 : IntKind.u64.wrap ((n : Int) * Q) = (Y : Int) := by rw [hY]; exact IntWalk.u64_in _ (by omega)
                have HF3 : Hid (faiO b l = ((X : Int) / (Nat.gcd X Y : Nat), (Y : Int) / (Nat.gcd X Y : Nat))) := Lib.hid (by rw [HF2.out, hX, hY]; rfl)
                have hln := how.len Tryz.underlying116 3
                rw [hszn] at hln
                clear hfa HFAI HF2 HSZ hz how hn hszn hX hY
                go_wp2
                clear hln q1 q2 q3 t1
                go_loopw [16, 17] (fun s16 s17 wr => ∃ a c : Nat, s16 = .int .u64 a ∧ s17 = .int .u64 c ∧ Below w.heap.size w wr ∧ (0 < a ∧ a ≤ 256000000000000 ∧ c ≤ 256000000000000) ∧ Hid (Nat.gcd a c = Nat.gcd X Y)) (fun _ s17 _ => (intOf s17).toNat)
                case atStart => exact ⟨X, Y, rfl, rfl, hB, by omega, Lib.hid rfl⟩
                case round =>
                  clear hB
                  obtain ⟨a, c, rfl, rfl, hB, hac, HG⟩ := hrel
                  by_cases hc : 0 < c
                  · have t1 : decide ((0 : Int) < (c : Int)) = true := decide_eq_true (by omega)
                    have c0 : ¬ (c : Int) = 0 := by omega
                    have c1 : ((c : Int) == 0) = false := by simpa using c0
                    obtain ⟨m, hm⟩ : ∃ m, a % c = m := ⟨_, rfl⟩
                    have hml : m < c := by rw [← hm]; exact Nat.mod_lt _ hc
                    have hg : Nat.gcd c m = Nat.gcd X Y := by rw [← hm, gcd_step]; exact HG.out
                    have m2 : (a : Int) % (c : Int) = (m : Int) := by omega
                    have m3 : Int.tmod (a : Int) (c : Int) = (m : Int) := by rw [Int.tmod_eq_emod_of_nonneg (by omega)]; exact m2
                    have m5 : IntKind.u64.wrap (m : Int) = (m : Int) := IntWalk.u64_in _ (by omega)
                    have HG2 := Lib.hid hg
                    clear hm hg HG
                    go_upto_region 27 with fail
                    refine wp_region_in (by kernel_rfl) (by kernel_rfl) ?_
                    intro W0 hE hN
                    have qB : Below w.heap.size w W0 := (by rw [hE.out]; exact hB)
                    clear hE hB
                    repeat (go_big_quiet_step (fail))
                    refine wpQuiet_nil ?_
                    rintro _ ⟨x', rfl⟩
                    have hB4 := bt qB x'.ok
                    obtain ⟨u, hu⟩ : ∃ u, u = x'.wd := ⟨_, rfl⟩
                    rw [← hu] at hB4
                    rw [← hu]
                    clear hu x' hN qB W0
                    go_wp2
                    go_roundw
                    case rel => exact ⟨c, m, rfl, rfl, hB4, by omega, HG2⟩
                    case measure => simp [intOf]; omega
                  · obtain rfl : c = 0 := by omega
                    have hg := HG.out
                    rw [Nat.gcd_zero_right] at hg
                    have HF4 : Hid (faiO b l = ((X : Int) / (a : Int), (Y : Int) / (a : Int))) := Lib.hid (by rw [HF3.out, ← hg])
                    have a0 : ¬ (a : Int) = 0 := by omega
                    have a1 : ((a : Int) == 0) = false := by simpa using a0
                    obtain ⟨p, hp⟩ : ∃ p : Nat, (X : Int) / (a : Int) = (p : Int) := ⟨X / a, by omega⟩
                    obtain ⟨q, hq⟩ : ∃ q : Nat, (Y : Int) / (a : Int) = (q : Int) := ⟨Y / a, by omega⟩
                    have hpl : (p : Int) ≤ 256000000000000 := by rw [← hp]; exact Int.le_trans (Int.ediv_le_self _ (by omega)) (by omega)
                    have hql : (q : Int) ≤ 256000000000000 := by rw [← hq]; exact Int.le_trans (Int.ediv_le_self _ (by omega)) (by omega)
                    have m2 : Int.tdiv (X : Int) (a : Int) = (p : Int) := by rw [Int.tdiv_eq_ediv_of_nonneg (by omega)]; exact hp
                    have m3 : Int.tdiv (Y : Int) (a : Int) = (q : Int) := by rw [Int.tdiv_eq_ediv_of_nonneg (by omega)]; exact hq
                    have m5 : IntKind.u64.wrap (p : Int) = (p : Int) := IntWalk.u64_in _ (by omega)
                    have m6 : IntKind.u64.wrap (q : Int) = (q : Int) := IntWalk.u64_in _ (by omega)
                    rw [hp, hq] at HF4
                    clear hg HF3 HG
                    go_upto_region 28 with fail
                    refine wp_region_in (by kernel_rfl) (by kernel_rfl) ?_
                    intro W0 hE hN
                    have qB : Below w.heap.size w W0 := (by rw [hE.out]; exact hB)
                    clear hE hB
                    repeat (go_big_quiet_step (fail))
                    refine wpQuiet_nil ?_
                    rintro _ ⟨x', rfl⟩
                    have hB4 := bt qB x'.ok
                    obtain ⟨u, hu⟩ : ∃ u, u = x'.wd := ⟨_, rfl⟩
                    rw [← hu] at hB4
                    rw [← hu]
                    clear hu x' hN qB W0
                    go_wp2
                    go_ret2
                    exact ⟨by rw [HF4.out]; rfl, hB4⟩
            · conv => arg 5; simp [Act.put]
              obtain ⟨k, ek, hkn⟩ := HKEY.out _ (HI.out.2.1 _ hlx)
              have ek : x = k := by cases ek; rfl
              subst ek
              have hc := HFV.out x hkn c hat
              have hs1 := remS_step (g := sv) hlx HNN.out.1 hkn
              have hs2 := remS_step (g := fun n => sv n * sv n) hlx HNN.out.1 hkn
              have hp1 := remS_nn (ns := ns) (left := fun z => left z && !z.sameKey (kI x)) (g := sv) HNN.out.2.1
              have hp2 := remS_nn (ns := ns) (left := fun z => left z && !z.sameKey (kI x)) (g := fun n => sv n * sv n) HNN.out.2.2.1
              have hc0 := HNN.out.2.1 x
              have hc1 := HNN.out.2.2.2 x
              have hc2 := HNN.out.2.2.1 x
              have e1 := HI.out.2.2.1
              have e2 := HI.out.2.2.2
              rw [hs1] at e1
              rw [hs2] at e2
              simp only [← hc] at e1 e2 hc0 hc1 hc2
              have hB' : Below w.heap.size w w1 := hB.grown hg1 hB.size (fun k e => by cases e; omega)
              obtain ⟨cc, hcc⟩ : ∃ q, c * c = q := ⟨_, rfl⟩
              rw [hcc] at e2 hc2
              have HN : Hid (w1.ranges Tryz.prog 3 (plainElem Tryz.prog 33) m1 r (b.length + b.length) D (fun z => left z && !z.sameKey (kI x)) cnt1 ∧ (∀ kl, (left kl && !kl.sameKey (kI x)) = true → Maps.has D kl = true) ∧ (A + c) + remS ns (fun z => left z && !z.sameKey (kI x)) sv = TA ∧ (Q + cc) + remS ns (fun z => left z && !z.sameKey (kI x)) (fun n => sv n * sv n) = TQ) := Lib.hid ⟨hrg1, fun kl h => HI.out.2.1 kl (by simp at h; exact h.1), by omega, by omega⟩
              have hml : w1.rangeLeft m1 r < wr.rangeLeft m1 r := by rw [hrg1.left_eq, HI.out.1.left_eq]; exact hlt
              have hb1 : A + c ≤ 16000000 := by omega
              have hb2 : Q + cc ≤ 16000000000000 := by omega
              have q1 : IntKind.u64.wrap (A + c) = A + c := IntWalk.u64_in _ (by omega)
              have q2 : IntKind.u64.wrap (c * c) = cc := by rw [hcc]; exact IntWalk.u64_in _ (by omega)
              have q3 : IntKind.u64.wrap (Q + cc) = Q + cc := IntWalk.u64_in _ (by omega)
              have hA2 : 0 ≤ A + c ∧ 0 ≤ Q + cc := by omega
              clear HI hkn hc hs1 hs2 hp1 hp2 e1 e2 hrg1 hg1 hat hwx hwc hlx hB hlt hb1 hb2 hcc
              go_wp2
              go_roundw
              case rel => exact ⟨_, _, A + c, Q + cc, rfl, rfl, hB', hA2, HN⟩
              case measure => exact hml
end Go.Proofs.YthfmkkkdjgkaoaaGreatDoor
namespace Go.Proofs.YthfmkkkdjgkaoaaGreatDoor
open Go.RowKit
def faiP (b : List Bn) (l : List Oc) : Int × Int := if (runC b l).1 = 0 then faiO b l else (0, 0)
set_option maxRecDepth 100000 in
set_option maxHeartbeats 3200000 in
theorem pfairness_any (ab al : Option Addr) (cb cl : Nat) (b : List Bn) (l : List Oc) (hd : ∀ x ∈ b, x.da.size ≤ maxLen) (w : World) (hT : FTab w) (hb : SRow bn 9 w ab cb b) (hl : SRow oc 7 w al cl l) :
    Calls Tryz.prog 14 #[.slice ab b.length cb, .slice al l.length cl] w fun e w' => e = .returned (.tuple #[.int .u64 (faiP b l).1, .int .u64 (faiP b l).2, .int .i64 (runC b l).1]) ∧ Below w.heap.size w w' := by
  have go : ∀ W, Below w.heap.size w W → Calls Tryz.prog 30 #[.slice ab b.length cb, .slice al l.length cl] W fun e w' => e = .returned (.tuple #[.agg #[.slice ab b.length cb, .slice al l.length cl], .int .i64 (runC b l).1]) ∧ Below W.heap.size W w' := fun W hB => open_any ab al cb cl b l hd W (hT.on hB) (hb.below hB) (hl.below hB)
  have gc : (runC b l).1 = 0 → ∀ W, Below w.heap.size w W → Calls Tryz.prog 36 #[.agg #[.slice ab b.length cb, .slice al l.length cl]] W fun e w' => e = .returned (.tuple #[.int .u64 (faiO b l).1, .int .u64 (faiO b l).2]) ∧ Below W.heap.size W w' := fun h W hB => pfair_any ab al cb cl b l (runC_zero h) W (hb.below hB) (hl.below hB)
  unfold faiP
  obtain ⟨r, hr⟩ : ∃ r, (runC b l).1 = r := ⟨_, rfl⟩
  obtain ⟨F, hF⟩ : ∃ F, faiO b l = F := ⟨_, rfl⟩
  rw [hr] at go gc ⊢
  rw [hF] at gc ⊢
  have GO := Lib.hid go; have GC := Lib.hid gc
  clear go gc hr hF hT hb hl hd
  by_cases h0 : r = 0
  · subst h0
    rw [if_pos rfl]
    have q0 : ((0 : Int) != 0) = false := rfl
    replace GC := Lib.hid (GC.out rfl)
    go_enter Tryz.func14, Tryz.ntmps14
    go_wp2_with (first | (go_at_call 30; (with_reducible refine (GO.out _ (by (repeat (first | (with_reducible assumption) | (with_reducible exact Below.refl _ _) | (with_reducible refine beld_drew ?_) | ((with_reducible refine bset' ?_ ?_); (first | (focus (dsimp only; assumption)) | (focus (simp; done)) | (focus (dsimp only; omega)))) | (with_reducible refine belt_alloc ?_) | ((with_reducible refine zeroed_below' ?_ ?_); (first | (focus (simp; done)) | (focus (dsimp only; omega)))) | (with_reducible refine bt ?_ (by assumption)))))).mono ?_); rintro e w2 ⟨rfl, h2⟩; (have B2 : Below w.heap.size w w2 := (by (repeat (first | (with_reducible assumption) | (with_reducible exact Below.refl _ _) | (with_reducible refine beld_drew ?_) | ((with_reducible refine bset' ?_ ?_); (first | (focus (dsimp only; assumption)) | (focus (simp; done)) | (focus (dsimp only; omega)))) | (with_reducible refine belt_alloc ?_) | ((with_reducible refine zeroed_below' ?_ ?_); (first | (focus (simp; done)) | (focus (dsimp only; omega)))) | (with_reducible refine bt ?_ (by assumption))))))) | (go_at_call 36; (with_reducible refine (GC.out _ (by (repeat (first | (with_reducible assumption) | (with_reducible exact Below.refl _ _) | (with_reducible refine beld_drew ?_) | ((with_reducible refine bset' ?_ ?_); (first | (focus (dsimp only; assumption)) | (focus (simp; done)) | (focus (dsimp only; omega)))) | (with_reducible refine belt_alloc ?_) | ((with_reducible refine zeroed_below' ?_ ?_); (first | (focus (simp; done)) | (focus (dsimp only; omega)))) | (with_reducible refine bt ?_ (by assumption)))))).mono ?_); rintro e w3 ⟨rfl, h3⟩))
    go_ret3
    exact ⟨rfl, by (repeat (first | (with_reducible assumption) | (with_reducible exact Below.refl _ _) | (with_reducible refine beld_drew ?_) | ((with_reducible refine bset' ?_ ?_); (first | (focus (dsimp only; assumption)) | (focus (simp; done)) | (focus (dsimp only; omega)))) | (with_reducible refine belt_alloc ?_) | ((with_reducible refine zeroed_below' ?_ ?_); (first | (focus (simp; done)) | (focus (dsimp only; omega)))) | (with_reducible refine bt ?_ (by assumption))))⟩
  · rw [if_neg h0]
    have q0 : (r != 0) = true := by simpa using h0
    clear h0 GC
    go_enter Tryz.func14, Tryz.ntmps14
    go_wp2_with (go_at_call 30; (with_reducible refine (GO.out _ (by (repeat (first | (with_reducible assumption) | (with_reducible exact Below.refl _ _) | (with_reducible refine beld_drew ?_) | ((with_reducible refine bset' ?_ ?_); (first | (focus (dsimp only; assumption)) | (focus (simp; done)) | (focus (dsimp only; omega)))) | (with_reducible refine belt_alloc ?_) | ((with_reducible refine zeroed_below' ?_ ?_); (first | (focus (simp; done)) | (focus (dsimp only; omega)))) | (with_reducible refine bt ?_ (by assumption)))))).mono ?_); rintro e w2 ⟨rfl, h2⟩)
    go_ret3
    exact ⟨rfl, by (repeat (first | (with_reducible assumption) | (with_reducible exact Below.refl _ _) | (with_reducible refine beld_drew ?_) | ((with_reducible refine bset' ?_ ?_); (first | (focus (dsimp only; assumption)) | (focus (simp; done)) | (focus (dsimp only; omega)))) | (with_reducible refine belt_alloc ?_) | ((with_reducible refine zeroed_below' ?_ ?_); (first | (focus (simp; done)) | (focus (dsimp only; omega)))) | (with_reducible refine bt ?_ (by assumption))))⟩
end Go.Proofs.YthfmkkkdjgkaoaaGreatDoor
